/-
  Trees of what the functions compute, and their laws. Own work; no condition.
-/
import Derived.Test.YteidbklnpgfldaaGreatDoorClL1
import Derived.KernelRfl
set_option linter.unusedVariables false
set_option linter.unusedSimpArgs false
namespace Go.Vs
open Go Go.Vg
theorem aeR {l : List Int} (h : Dg 10000 l) (hl : l.length ≤ 1000000000000) {n : Nat} (hv : V 10000 l = n) : abM (l, ()) = some (dig n, ()) := by
 unfold abM
 rw [if_pos ⟨h, hl⟩]
 simp only [hv, zn]
theorem aEJ (d : List Int) (y) (h : abM (d, ()) = some y) : (aDA d).toO = some y := by
 unfold abM at h
 split at h
 case isFalse => cases h
 case isTrue hp =>
 obtain ⟨hd, hl⟩ := hp
 dsimp only at hd hl h
 injection h with h
 subst h
 refine uO ((d.length : Int), ()) rfl ?_
 refine aa2 (fun i : Int × Unit => ∃ k : Nat, k ≤ d.length ∧ i = ((k : Int), ()) ∧ V 10000 (d.take k) = V 10000 d) (fun i => i.1.toNat) (fun _ => (dig (V 10000 d).toNat, ())) ?_ _ ⟨_, zj _, rfl, by rw [zv]⟩
 rintro i ⟨k, h1, rfl, h2⟩
 have hn := aaH zb hd
 have fin : Cn (d.take k) → d.take k = dig (V 10000 d).toNat := fun hc => ax0 (abZ hd k) hc (by rw [h2]; omega)
 unfold azL
 rcases zL k with h0 | h0
 ·right
  subst h0
  refine uF sd (uN sd ?_)
  show some (Sum.inr (d.take (Int.toNat (0 : Nat)), ())) = _
  rw [zn, fin (by simp [Cn])]
 ·have hw : w64 ((k : Int) - 1) = ((k - 1 : Nat) : Int) := by rw [aaC (x := (k : Int) - 1) zb]; omega
  have hg : d.getD (k - 1) 0 = d[k - 1] := by simp [show k - 1 < d.length by omega]
  have ht := al3 10000 (l := d) (i := k - 1) zb
  rw [show k - 1 + 1 = k by omega] at ht
  simp only [hw, aaQ, hg]
  by_cases c : d[k - 1] = 0
  ·left
   refine ⟨(((k - 1 : Nat) : Int), ()), ?_, ⟨k - 1, by omega, rfl, ?_⟩, by dsimp only; omega, ze⟩
   ·refine uT sd (uN sd (uT (by rw [c]; rfl) ?_))
    repeat refine za ?_
    rfl
   ·rw [← h2, ht, c]; simp
  ·right
   refine uT sd (uN sd (uF (by simpa using c) (uN sd ?_)))
   show some (Sum.inr (d.take (Int.toNat (k : Int)), ())) = _
   rw [zn, fin ?_]
   unfold Cn
   rw [xd, zY, yl h1, zR, if_pos zb, zx zb]
   simpa using c
theorem aB3 (b : Bool) (d : List Int) (y) (h : abY (b, d, ()) = some y) : (azK b d).toO = some y := by
 unfold abY at h
 split at h
 case isFalse => cases h
 case isTrue hp =>
 obtain ⟨hd, hl⟩ := hp
 dsimp only at hd hl h
 injection h with h
 subst h
 obtain ⟨n, hn⟩ := zM (aaH zb hd)
 rw [hn, zn]
 refine uC _ (aeR hd hl hn) ?_
 have e : decide (len (dig n) > 0) = decide ((n : Int) ≠ 0) := by
  refine decide_eq_decide.2 ?_
  have := dig_nil_iff (n := n)
  rw [aaB]
  constructor
  ·intro h h2
   rw [this.2 zb] at h
   simp at h
  ·intro h
   rcases zL (dig n).length with h3 | h3
   ·have := this.1 (yk.1 h3); omega
   ·omega
 cases b
 ·exact uF rfl rfl
 ·refine uT rfl ?_
  show some ((decide (len (dig n) > 0), dig n, ()), ()) = _
  rw [e]; rfl
theorem aBm {l : List Int} {b : Bool} {z : Int} (h : Dg 10000 l) (hl : l.length ≤ 1000000000000) (hv : V 10000 l = z.natAbs) (hb : z = 0 ∨ b = decide (z < 0)) : abY (b, l, ()) = some (pl z, ()) := by
 unfold abY
 rw [if_pos ⟨h, hl⟩]
 simp only [hv, zn]
 congr 2
 unfold pl
 congr 1
 by_cases h0 : z = 0
 ·subst h0; simp
 ·rw [zm (show ((z.natAbs : Int) ≠ 0) by omega), Bool.and_true]
  rcases hb with h2 | h2
  ·exact absurd h2 h0
  ·exact h2
theorem afN {n : Nat} {b : Bool} {z : Int} (hl : (dig n).length ≤ 1000000000000) (hv : n = z.natAbs) (hb : z = 0 ∨ b = decide (z < 0)) : abY (b, dig n, ()) = some (pl z, ()) := aBm (adE n) hl (by rw [ag5, hv]) hb
theorem aJK {n : Nat} (h : n < 10000) : am6 ((n : Int), ()) = some (auB n, ()) := aa0 (enc := fun x : Nat => ((x : Int), ())) n h (fun b hb => Int.ofNat.inj (Prod.mk.inj hb).1)
theorem aB4 (n : Int) (y) (h : am6 (n, ()) = some y) : (arG n).toO = some y := by
 obtain ⟨k, hk, hx, rfl⟩ := aaP h
 obtain ⟨rfl, -⟩ := Prod.mk.inj hx
 have d1 : ∀ m : Nat, 0 < m → Int.tdiv (k : Int) m = ((k / m : Nat) : Int) := fun m hm => by rw [zQ zb]; simp
 have e1 := d1 1000 zb
 have e2 := d1 100 zb
 have e3 := d1 10 zb
 have m1 : ∀ j : Nat, Int.tmod (j : Int) 10 = ((j % 10 : Nat) : Int) := fun j => by rw [yb zb]; omega
 have w1 : ∀ j : Nat, j < 10000 → w64 (j : Int) = j := fun j hj => aaC zb
 have w2 : ∀ j : Nat, j < 10 → wu8 (w64 (48 + (j : Int))) = ((48 + j : Nat) : Int) := fun j hj => by rw [aaC (x := 48 + (j : Int)) zb, ad3 zb]; omega
 unfold arG
 have f1 : Int.tdiv (k : Int) 1000 = ((k / 1000 : Nat) : Int) := e1
 have f2 : Int.tdiv (k : Int) 100 = ((k / 100 : Nat) : Int) := e2
 have f3 : Int.tdiv (k : Int) 10 = ((k / 10 : Nat) : Int) := e3
 refine uV (uV (uV (uV (uV (uV ?_)))))
 rw [aaM, f1, f2, f3, w1 (k / 1000) zb, w1 (k / 100) zb, w1 (k / 10) zb, m1, m1, m1, w2 _ zb, w2 _ zb, w2 _ zb, w2 _ zb]
 rfl
theorem aoO (a b : List Int) (h1 : Dg 10000 a) (h2 : Dg 10000 b) (h3 : a.length ≤ 1000000000000) (h4 : b.length ≤ 1000000000000) : adZ (a, b, ()) = some (aNf a b, ()) := by unfold adZ; rw [if_pos ⟨h1, h2, h3, h4⟩]
theorem azJ (a b : List Int) (y) (h : adZ (a, b, ()) = some y) : (anO a b).toO = some y := by
 unfold adZ at h
 split at h
 case isFalse => cases h
 case isTrue hp =>
 obtain ⟨ha, hb, hl, hl2⟩ := hp
 dsimp only at ha hb hl hl2 h
 injection h with h
 subst h
 unfold anO aNf
 by_cases c : a.length = b.length
 case neg =>
  rw [if_pos c]
  refine uT sd ?_
  rw [aaM, aaB, aaB, aaC zb]
 rw [if_neg (fun h => h c)]
 refine uF sd ?_
 refine uO ((a.length : Int) - 1, ()) ?_ ?_
 ·repeat refine za ?_
  rw [aaM, aaB, aaC zb]
 refine aa2 (fun i : Int × Unit => ∃ k : Nat, k ≤ a.length ∧ i = ((k : Int) - 1, ()) ∧ aKa a b a.length = aKa a b k) (fun i => (i.1 + 1).toNat) (fun _ => (aKa a b a.length, ())) ?_ _ ⟨_, zj _, rfl, rfl⟩
 rintro i ⟨k, h1, rfl, h2⟩
 unfold arE
 dsimp only
 cases k with
 | zero =>
  right
  refine uF sd ?_
  rw [h2]; rfl
 | succ j =>
  have e6 : ((j + 1 : Nat) : Int) - 1 = (j : Int) := zb
  simp only [e6, aaQ]
  have da := aaU zb ha j
  have db := aaU zb hb j
  by_cases c2 : a.getD j 0 = b.getD j 0
  ·left
   refine ⟨((j : Int) - 1, ()), ?_, ⟨j, by omega, rfl, ?_⟩, by dsimp only; omega, ze⟩
   ·refine uT sd (uN sd (uN sd (uF (by rw [c2]; simp) ?_)))
    repeat refine za ?_
    rw [aaM, aaC zb]
   ·rw [h2]; show (if _ then _ else _) = _; rw [if_neg (fun h => h c2)]
  ·right
   refine uT sd (uN sd (uN sd (uT (by simpa using c2) (uN sd (uN sd ?_)))))
   rw [aaM, aaC zb, h2]
   show _ = some (Sum.inr (if _ then _ else _, ()))
   rw [if_pos c2]
theorem ay0 {a b : List Int} (ha : Dg 10000 a) (hb : Dg 10000 b) : ∀ k, (aKa a b k < 0 ↔ V 10000 (a.take k) < V 10000 (b.take k)) ∧ (aKa a b k = 0 ↔ V 10000 (a.take k) = V 10000 (b.take k))
 | 0 => by simp [aKa]
 | k + 1 => by
  obtain ⟨i1, i2⟩ := ay0 ha hb k
  have ea := abA 10000 a k
  have eb := abA 10000 b k
  have la := ac4 zb ha k
  have lb := ac4 zb hb k
  have na := aaH zb (abZ ha k)
  have nb := aaH zb (abZ hb k)
  unfold aKa
  rw [ea, eb]
  by_cases c : a.getD k 0 = b.getD k 0
  ·rw [if_neg (fun h => h c), c]
   omega
  ·rw [if_pos c]
   rcases yi (a.getD k 0) (b.getD k 0) with h | h
   ·have h5 : (10000 : Int) ^ k * (a.getD k 0 + 1) ≤ 10000 ^ k * b.getD k 0 := zy zb zb
    rw [xS] at h5
    omega
   ·have h5 : (10000 : Int) ^ k * (b.getD k 0 + 1) ≤ 10000 ^ k * a.getD k 0 := zy zb zb
    rw [xS] at h5
    omega
theorem aDF (m n : Nat) : (aNf (dig m) (dig n) < 0 ↔ m < n) ∧ (aNf (dig m) (dig n) = 0 ↔ m = n) := by
 unfold aNf
 by_cases c : (dig m).length = (dig n).length
 ·rw [if_neg (fun h => h c)]
  obtain ⟨h1, h2⟩ := ay0 (adE m) (adE n) (dig m).length
  rw [ab7 _ (zj _), ab7 _ zb, ag5, ag5] at h1 h2
  omega
 ·rw [if_pos c]
  rcases zD (dig m).length (dig n).length with h | h
  ·have := akZ h; omega
  ·have := akZ (m := n) (n := m) zb; omega
theorem aKg {a b s : List Int} {k : Nat} {c x c' : Int} (h5 : s.length = k) (h7 : V 10000 s + 10000 ^ k * c = V 10000 (a.take k) + V 10000 (b.take k)) (hx : x + 10000 * c' = a.getD k 0 + b.getD k 0 + c) : V 10000 (s ++ [x]) + 10000 ^ (k + 1) * c' = V 10000 (a.take (k + 1)) + V 10000 (b.take (k + 1)) := by
 rw [aeQ, aDa, h5, abA, abA, yE]
 have : (10000 : Int) ^ k * (x + 10000 * c') = 10000 ^ k * (a.getD k 0 + b.getD k 0 + c) := by rw [hx]
 grind
theorem aKf {x : Int} (h : 0 ≤ x) : Int.tdiv x 10000 = x / 10000 := zQ h
theorem aKe {x : Int} (h : 0 ≤ x) : Int.tmod x 10000 = x % 10000 := yb h
theorem aEG (m o : List Int) (y) (h : aqI (m, o, ()) = some y) : (aDz m o).toO = some y := by
 obtain ⟨⟨a, b⟩, hn, hx, rfl⟩ := aaP h
 obtain ⟨rfl, hx2⟩ := Prod.mk.inj hx; obtain ⟨rfl, -⟩ := Prod.mk.inj hx2; dsimp only
 obtain ⟨la, lb⟩ := hn
 simp only at la lb
 have hda := adE a
 have hdb := adE b
 have hVa := ag5 a
 have hVb := ag5 b
 clear hx hx2 h
 have hca := aEb a
 have hcb := aEb b
 generalize dig a = A at *
 generalize dig b = B at *
 refine uO (0, 0, true, [], ()) rfl ?_
 refine aa2 (fun i : Int × Int × Bool × List Int × Unit => ∃ k : Nat, k ≤ A.length + B.length + 1 ∧ i.1 = (k : Int) ∧ 0 ≤ i.2.1 ∧ i.2.1 ≤ 1 ∧ i.2.2.2.1.length = k ∧ Dg 10000 i.2.2.2.1 ∧ V 10000 i.2.2.2.1 + 10000 ^ k * i.2.1 = V 10000 (A.take k) + V 10000 (B.take k) ∧ (i.2.2.1 = true → i.2.2.2.1 = []) ∧ (A.length ≤ k → B.length ≤ k → i.2.1 = 0 → Cn i.2.2.2.1) ∧ (i.2.1 = 0 ∨ k ≤ A.length ∨ k ≤ B.length)) (fun i => (((A.length + B.length + 2 : Nat) : Int) - i.1).toNat) (fun _ => (dig (a + b), ())) ?_ _ ⟨0, by omega, rfl, by simp, by simp, rfl, awE _, by simp [V], fun _ => rfl, fun _ _ _ => awF, Or.inl rfl⟩
 rintro ⟨i, c, f, s, u⟩ ⟨k, h1, h2, h3, h4, h5, h6, h7, h8, h9, h10⟩
 dsimp only at h2 h3 h4 h5 h6 h7 h8 h9 h10
 subst h2
 have da := aaU zb hda k
 have db := aaU zb hdb k
 have hS : 0 ≤ A.getD k 0 + B.getD k 0 + c := zb
 by_cases hgo : k < A.length ∨ k < B.length ∨ 0 < c
 ·left
  have e1 := yg (A.getD k 0 + B.getD k 0 + c) 10000
  refine ⟨(((k + 1 : Nat) : Int), (A.getD k 0 + B.getD k 0 + c) / 10000, false, s ++ [(A.getD k 0 + B.getD k 0 + c) % 10000], ()), ?_, ⟨k + 1, by omega, rfl, by dsimp only; omega, by dsimp only; omega, by simp; omega, agB h6 (apR zb zb), aKg h5 h7 e1, by simp, ?_, ?_⟩, by dsimp only; omega, ze⟩
  ·have zA : ¬ k < A.length → A.getD k 0 = 0 := fun h => aiK zb 0
   have zB : ¬ k < B.length → B.getD k 0 = 0 := fun h => aiK zb 0
   have eD : ∀ x : Int, x = A.getD k 0 + B.getD k 0 + c → Int.tdiv x 10000 = (A.getD k 0 + B.getD k 0 + c) / 10000 ∧ Int.tmod x 10000 = (A.getD k 0 + B.getD k 0 + c) % 10000 := fun x hx => by rw [hx]; exact ⟨aKf hS, aKe hS⟩
   have w1 : w64 (c + A.getD k 0) = c + A.getD k 0 := aaC zb
   have w2 : w64 (c + A.getD k 0 + B.getD k 0) = c + A.getD k 0 + B.getD k 0 := aaC zb
   have w3 : w64 (c + B.getD k 0) = c + B.getD k 0 := aaC zb
   have w4 : w64 ((A.getD k 0 + B.getD k 0 + c) / 10000) = (A.getD k 0 + B.getD k 0 + c) / 10000 := aaC zb
   have w5 : w64 ((k : Int) + 1) = ((k + 1 : Nat) : Int) := by rw [aaC (x := (k : Int) + 1) zb]; omega
   cases f with
   | true =>
    obtain rfl := h8 rfl
    simp only [ajF, acX, acY, aaQ, w1, w2, w3, w5]
    by_cases cA : k < A.length <;> by_cases cB : k < B.length
    ·obtain ⟨q1, q2⟩ := eD (c + A.getD k 0 + B.getD k 0) zb
     simp only [q1, q2, w4]
     repeat refine za ?_
     rfl
    ·obtain ⟨q1, q2⟩ := eD (c + A.getD k 0) (by have := zB cB; omega)
     simp only [q1, q2, w4]
     repeat refine za ?_
     rfl
    ·obtain ⟨q1, q2⟩ := eD (c + B.getD k 0) (by have := zA cA; omega)
     simp only [q1, q2, w4]
     repeat refine za ?_
     rfl
    ·obtain ⟨q1, q2⟩ := eD c (by have := zA cA; have := zB cB; omega)
     have hc0 : 0 < c := zb
     simp only [q1, q2, w4]
     repeat refine za ?_
     rfl
   | false =>
    simp only [ajF, acX, acY, aaQ, w1, w2, w3, w5, zv]
    by_cases cA : k < A.length <;> by_cases cB : k < B.length
    ·obtain ⟨q1, q2⟩ := eD (c + A.getD k 0 + B.getD k 0) zb
     simp only [q1, q2, w4]
     repeat refine za ?_
     rfl
    ·obtain ⟨q1, q2⟩ := eD (c + A.getD k 0) (by have := zB cB; omega)
     simp only [q1, q2, w4]
     repeat refine za ?_
     rfl
    ·obtain ⟨q1, q2⟩ := eD (c + B.getD k 0) (by have := zA cA; omega)
     simp only [q1, q2, w4]
     repeat refine za ?_
     rfl
    ·obtain ⟨q1, q2⟩ := eD c (by have := zA cA; have := zB cB; omega)
     have hc0 : 0 < c := zb
     simp only [q1, q2, w4]
     repeat refine za ?_
     rfl
  ·intro g1 g2 g3
   dsimp only at g3 ⊢
   unfold Cn
   simp only [List.getLast?_concat, ne_eq, Option.some.injEq]
   intro g4
   have hz : A.getD k 0 + B.getD k 0 + c = 0 := zb
   have ca : ¬ k < A.length := by
    intro hk
    have : k = A.length - 1 := zb
    unfold Cn at hca
    rw [xd, ← this, zx hk] at hca
    rw [ajR hk] at *
    exact hca (by congr 1; omega)
   have cb : ¬ k < B.length := by
    intro hk
    have : k = B.length - 1 := zb
    unfold Cn at hcb
    rw [xd, ← this, zx hk] at hcb
    rw [ajR hk] at *
    exact hcb (by congr 1; omega)
   omega
  ·dsimp only
   by_cases cA : k < A.length
   ·right; left; omega
   ·by_cases cB : k < B.length
    ·right; right; omega
    ·left
     have := aiK (l := A) (k := k) zb 0
     have := aiK (l := B) (k := k) zb 0
     omega
 ·right
  have hc : c = 0 := zb
  subst hc
  rw [ab7 _ zb, ab7 _ zb, hVa, hVb] at h7
  have hs : s = dig (a + b) := ax0 h6 (h9 zb zb rfl) zb
  cases f with
  | true =>
   obtain rfl := h8 rfl
   unfold ajF acX acY
   repeat refine za ?_
   rw [← hs]; rfl
  | false =>
   unfold ajF acX acY
   repeat refine za ?_
   rw [← hs, aaM, zv]
theorem aj2 {a b : List Int} (h1 : Dg 10000 a) (h2 : Dg 10000 b) (h3 : a.length ≤ 1000000000000) (h4 : b.length ≤ a.length) (h5 : V 10000 b ≤ V 10000 a) {n : Nat} (hn : V 10000 a - V 10000 b = n) : aaY (a, b, ()) = some (dig n, ()) := by
 unfold aaY
 rw [if_pos ⟨h1, h2, h3, h4, h5⟩]
 simp only [hn, zn]
theorem aI6 {a b s : List Int} {k : Nat} {c x c' : Int} (h5 : s.length = k) (h7 : V 10000 s = V 10000 (a.take k) - V 10000 (b.take k) + 10000 ^ k * c) (hx : x = a.getD k 0 - b.getD k 0 - c + 10000 * c') : V 10000 (s ++ [x]) = V 10000 (a.take (k + 1)) - V 10000 (b.take (k + 1)) + 10000 ^ (k + 1) * c' := by
 rw [aeQ, aDa, h5, abA, abA, yE, h7, hx]
 grind
theorem anQ (A B : List Int) (y) (h : aaY (A, B, ()) = some y) : (ajG A B).toO = some y := by
 unfold aaY at h
 split at h
 case isFalse => cases h
 case isTrue hp =>
 obtain ⟨hda, hdb, la, lb, hle⟩ := hp
 dsimp only at hda hdb la lb hle h
 injection h with h
 subst h
 refine uO (0, 0, true, [], ()) rfl ?_
 refine aa2 (fun i : Int × Int × Bool × List Int × Unit => ∃ k : Nat, k ≤ A.length ∧ i.1 = (k : Int) ∧ 0 ≤ i.2.1 ∧ i.2.1 ≤ 1 ∧ i.2.2.2.1.length = k ∧ Dg 10000 i.2.2.2.1 ∧ V 10000 i.2.2.2.1 = V 10000 (A.take k) - V 10000 (B.take k) + 10000 ^ k * i.2.1 ∧ (i.2.2.1 = true → i.2.2.2.1 = [])) (fun i => ((A.length : Int) - i.1).toNat) (fun _ => (dig (V 10000 A - V 10000 B).toNat, ())) ?_ _ ⟨0, by omega, rfl, by simp, by simp, rfl, awE _, by simp [V], fun _ => rfl⟩
 rintro ⟨i, c, f, s, u⟩ ⟨k, h1, h2, h3, h4, h5, h6, h7, h8⟩
 dsimp only at h2 h3 h4 h5 h6 h7 h8
 subst h2
 have da := aaU zb hda k
 have db := aaU zb hdb k
 have w5 : w64 ((k : Int) + 1) = ((k + 1 : Nat) : Int) := by rw [aaC (x := (k : Int) + 1) zb]; omega
 have w1 : w64 (A.getD k 0 - c) = A.getD k 0 - c := aaC zb
 have w2 : w64 (A.getD k 0 - c - B.getD k 0) = A.getD k 0 - c - B.getD k 0 := aaC zb
 have w3 : w64 (A.getD k 0 - c + 10000) = A.getD k 0 - c + 10000 := aaC zb
 have w4 : w64 (A.getD k 0 - c - B.getD k 0 + 10000) = A.getD k 0 - c - B.getD k 0 + 10000 := aaC zb
 rcases zD k A.length with hk | hk
 ·left
  have fin : ∀ x c' : Int, 0 ≤ x ∧ x < 10000 → 0 ≤ c' ∧ c' ≤ 1 → x = A.getD k 0 - B.getD k 0 - c + 10000 * c' → (∃ k_1 : Nat, k_1 ≤ A.length ∧ ((k + 1 : Nat) : Int) = (k_1 : Int) ∧ 0 ≤ c' ∧ c' ≤ 1 ∧ (s ++ [x]).length = k_1 ∧ Dg 10000 (s ++ [x]) ∧ V 10000 (s ++ [x]) = V 10000 (A.take k_1) - V 10000 (B.take k_1) + 10000 ^ k_1 * c' ∧ (false = true → (s ++ [x]) = [])) ∧ ((A.length : Int) - ((k + 1 : Nat) : Int)).toNat < ((A.length : Int) - (k : Int)).toNat :=
   fun x c' hx hc he => ⟨⟨k + 1, by omega, rfl, hc.1, hc.2, by simp; omega, agB h6 (apR hx.1 hx.2), aI6 h5 h7 he, by simp⟩, by omega⟩
  have zB : ¬ k < B.length → B.getD k 0 = 0 := fun h => aiK zb 0
  by_cases cn : A.getD k 0 - c - B.getD k 0 < 0
  ·obtain ⟨g1, g2⟩ := fin (A.getD k 0 - c - B.getD k 0 + 10000) 1 zb zb zb
   refine ⟨(((k + 1 : Nat) : Int), 1, false, s ++ [A.getD k 0 - c - B.getD k 0 + 10000], ()), ?_, g1, g2, ze⟩
   cases f with
   | true =>
    obtain rfl := h8 rfl
    simp only [abH, aaQ, w1, w2, w3, w4, w5]
    by_cases cB : k < B.length
    ·repeat refine za ?_
     rfl
    ·have := zB cB
     rw [this, wD] at *
     repeat refine za ?_
     rfl
   | false =>
    simp only [abH, aaQ, w1, w2, w3, w4, w5, zv]
    by_cases cB : k < B.length
    ·repeat refine za ?_
     rfl
    ·have := zB cB
     rw [this, wD] at *
     repeat refine za ?_
     rfl
  ·obtain ⟨g1, g2⟩ := fin (A.getD k 0 - c - B.getD k 0) 0 zb zb zb
   refine ⟨(((k + 1 : Nat) : Int), 0, false, s ++ [A.getD k 0 - c - B.getD k 0], ()), ?_, g1, g2, ze⟩
   cases f with
   | true =>
    obtain rfl := h8 rfl
    simp only [abH, aaQ, w1, w2, w3, w4, w5]
    by_cases cB : k < B.length
    ·repeat refine za ?_
     rfl
    ·have := zB cB
     rw [this, wD] at *
     repeat refine za ?_
     rfl
   | false =>
    simp only [abH, aaQ, w1, w2, w3, w4, w5, zv]
    by_cases cB : k < B.length
    ·repeat refine za ?_
     rfl
    ·have := zB cB
     rw [this, wD] at *
     repeat refine za ?_
     rfl
 ·right
  have hkk : k = A.length := zb
  subst hkk
  rw [ab7 _ (zj _), ab7 _ lb] at h7
  have hlt := aF6 zb h6
  rw [h5] at hlt
  have hc : c = 0 := by
   rcases yi 0 c with hc | hc
   ·have hc1 : c = 1 := zb
    subst hc1
    omega
   ·omega
  subst hc
  cases f with
  | true =>
   obtain rfl := h8 rfl
   unfold abH
   refine uT rfl (uF sd (uC (dig (V 10000 A - V 10000 B).toNat, ()) (aeR h6 zf zb) rfl))
  | false =>
   unfold abH
   dsimp only
   rw [zv]
   refine uF rfl (uF sd (uC (dig (V 10000 A - V 10000 B).toNat, ()) (aeR h6 zb zb) rfl))
theorem aFT (Vs P c A K x T X Y d e Q B : Int) (h : Vs + P * c = A + K * (x * T)) (h2 : X + B * Y = c + d + x * e) (hP : P = K * Q) : Vs + P * (X - d) + P * B * Y = A + K * (x * (T + Q * e)) := by
 subst hP
 have h3 : K * Q * (X + B * Y) = K * Q * (c + d + x * e) := by rw [h2]
 grind
theorem aFg {a b B : Int} (ha : 0 ≤ a ∧ a < B) (hb : 0 ≤ b ∧ b < B) : 0 ≤ a * b ∧ a * b ≤ (B - 1) * (B - 1) := by
 refine ⟨xK ha.1 hb.1, ?_⟩
 have h1 : a * b ≤ a * (B - 1) := zy zb ha.1
 have h2 : a * (B - 1) ≤ (B - 1) * (B - 1) := zI zb zb
 omega
theorem apP {a b : List Int} (h1 : Dg 10000 a) (h2 : Dg 10000 b ∨ b = [10000]) (h3 : a.length ≤ 400000000000) (h4 : b.length ≤ 400000000000) {n : Nat} (hn : V 10000 a * V 10000 b = n) : abF (a, b, ()) = some (dig n, ()) := by
 unfold abF
 rw [if_pos ⟨h1, h2, h3, h4⟩]
 simp only [hn, zn]
theorem aw8 (A D : List Int) (hda : Dg 10000 A) (hdb : Dg 10000 D) (la : A.length ≤ 400000000000) (lb : D.length ≤ 400000000000) : (adQ A D).toO = some (dig (V 10000 A * V 10000 D).toNat, ()) := by
 have nb := aaH zb hdb
 have hw : w64 (len A + len D) = ((A.length + D.length : Nat) : Int) := by
  simp only [aaB]; rw [aaC (x := (A.length : Int) + D.length) zb]; omega
 unfold adQ
 simp only [hw]
 refine uN zb ?_
 refine uO (0, List.replicate (A.length + D.length) 0, ()) ?_ ?_
 ·repeat refine za ?_
  simp (disch := omega) only [aaM, aaC, aaL, aa5, ad3, aaQ, zp, zn, aaB, zv]
 have hBb : V 10000 D < 10000 ^ D.length := aF6 zb hdb
 refine aa2 (fun i => ∃ k : Nat, k ≤ A.length ∧ i.1 = (k : Int) ∧ i.2.1.length = A.length + D.length ∧ Dg 10000 i.2.1 ∧ V 10000 i.2.1 = V 10000 (A.take k) * V 10000 D) (fun i => ((A.length : Int) - i.1).toNat) (fun _ => (dig (V 10000 A * V 10000 D).toNat, ())) ?_ _ ⟨0, ya _, rfl, by simp, agY zb _, by simp [V, atM]⟩
 rintro ⟨i, s, u⟩ ⟨k, h1, h2, h3, h4, h5⟩
 simp only at h2 h3 h4 h5
 subst h2
 simp only [ah3, aaQ, hw]
 have ea := abA 10000 A k
 have da := aaU zb hda k
 rcases zD k A.length with hk | hk
 ·left
  have hs : V 10000 s < 10000 ^ (k + D.length) := by
   rw [h5, xI]
   have e1 := ac4 zb hda k
   have e2 := aaH zb (abZ hda k)
   have e3 : V 10000 (A.take k) * V 10000 D ≤ V 10000 (A.take k) * 10000 ^ D.length := zy zb e2
   have e4 : V 10000 (A.take k) * 10000 ^ D.length < 10000 ^ k * 10000 ^ D.length := Int.mul_lt_mul_of_pos_right e1 (yG zb)
   omega
  have hz := ajQ zb h4 hs
  obtain ⟨r, hin, s', rfl, q1, q2, q3⟩ : ∃ r : ((Int × List Int × Unit) ⊕ (List Int × Unit)), acD (fun i1 => (ac6 A D ((k : Int), s, ()) i1).toO) (0, 0, s, ()) = some r ∧ ∃ s', r = Sum.inl (((k + 1 : Nat) : Int), s', ()) ∧ s'.length = A.length + D.length ∧ Dg 10000 s' ∧ V 10000 s' = V 10000 (A.take (k + 1)) * V 10000 D := by
   refine afV (fun j => ∃ q : Nat, q ≤ D.length ∧ j.1 = (q : Int) ∧ 0 ≤ j.2.1 ∧ j.2.1 < 10000 ∧ j.2.2.1.length = A.length + D.length ∧ Dg 10000 j.2.2.1 ∧ (∀ t, k + D.length ≤ t → j.2.2.1.getD t 0 = 0) ∧ V 10000 j.2.2.1 + 10000 ^ (k + q) * j.2.1 = V 10000 (A.take k) * V 10000 D + 10000 ^ k * (A.getD k 0 * V 10000 (D.take q))) (fun j => ((D.length : Int) - j.1).toNat) _ ?_ _ ⟨0, ya _, rfl, by simp, by simp, h3, h4, hz, by simp [V, h5]⟩
   rintro ⟨j, c, s1, u1⟩ ⟨q, g1, g2, g3, g4, g5, g6, g7, g8⟩
   simp only at g2 g3 g4 g5 g6 g7 g8
   subst g2
   have hkq : w64 ((k : Int) + q) = ((k + q : Nat) : Int) := by rw [aaC (x := (k : Int) + q) zb]; omega
   have hkl : w64 ((k : Int) + len D) = ((k + D.length : Nat) : Int) := by rw [aaB, aaC (x := (k : Int) + (D.length : Int)) zb]; omega
   simp only [ac6, aaQ, hw, hkq, hkl, zn, zp]
   have eb := abA 10000 D q
   have db := aaU zb hdb q
   have ds := aaU zb g6 (k + q)
   have hm := aFg da db
   rcases zD q D.length with hq | hq
   ·left
    have hsum : 0 ≤ c + s1.getD (k + q) 0 + A.getD k 0 * D.getD q 0 := zb
    have e1 := yg (c + s1.getD (k + q) 0 + A.getD k 0 * D.getD q 0) 10000
    have ww : w64 (w64 (c + s1.getD (k + q) 0) + w64 (A.getD k 0 * D.getD q 0)) = c + s1.getD (k + q) 0 + A.getD k 0 * D.getD q 0 := by
     rw [aaC (x := c + s1.getD (k + q) 0) zb, aaC (x := A.getD k 0 * D.getD q 0) zb, aaC zb]
    simp only [ww]
    have e2 : 0 ≤ (c + s1.getD (k + q) 0 + A.getD k 0 * D.getD q 0) % 10000 ∧ (c + s1.getD (k + q) 0 + A.getD k 0 * D.getD q 0) % 10000 < 10000 := zb
    have e3 : 0 ≤ (c + s1.getD (k + q) 0 + A.getD k 0 * D.getD q 0) / 10000 ∧ (c + s1.getD (k + q) 0 + A.getD k 0 * D.getD q 0) / 10000 < 10000 := zb
    refine ⟨(((q + 1 : Nat) : Int), (c + s1.getD (k + q) 0 + A.getD k 0 * D.getD q 0) / 10000, s1.set (k + q) ((c + s1.getD (k + q) 0 + A.getD k 0 * D.getD q 0) % 10000), ()), ?_, ⟨q + 1, by omega, rfl, e3.1, e3.2, by simp; omega, ai4 g6 e2 _, ?_, ?_⟩, by simp only; omega⟩
    ·repeat refine za ?_
     rw [yb hsum, zQ hsum, aaC (x := (q : Int) + 1) zb, aaC (x := (c + s1.getD (k + q) 0 + A.getD k 0 * D.getD q 0) / 10000) zb]
     rfl
    ·intro t ht
     rw [alN _ zb]; exact g7 t ht
    ·simp only
     rw [auJ _ zb, eb, show k + (q + 1) = k + q + 1 by omega, yE]
     exact aFT _ _ _ _ _ _ _ _ _ _ _ _ _ g8 e1 (xI _ _ _)
   ·right
    have hqq : q = D.length := zb
    subst hqq
    rw [ab7 _ (zj _)] at g8
    refine ⟨.inl (((k + 1 : Nat) : Int), s1.set (k + D.length) c, ()), ?_, _, rfl, by simp; omega, ai4 g6 ⟨g3, g4⟩ _, ?_⟩
    ·repeat refine za ?_
     rw [aaC (x := (k : Int) + 1) zb]
     rfl
    ·rw [auJ _ zb, g7 _ zb, ea, wo]
     simp only [wD]
     rw [g8]
     grind
  refine ⟨(((k + 1 : Nat) : Int), s', ()), ?_, ⟨k + 1, by omega, rfl, q1, q2, q3⟩, by simp only; omega, ze⟩
  refine uT sd ?_
  refine uO (0, 0, s, ()) ?_ ?_
  ·repeat refine za ?_
   rfl
  ·exact hin
 ·right
  have hkk : k = A.length := zb
  rw [hkk, ab7 _ (zj _)] at h5
  have hnn := aaH zb h4
  refine uF sd ?_
  refine uC (dig (V 10000 A * V 10000 D).toNat, ()) ?_ ?_
  ·rw [zr zg]
   exact aeR h4 zb zb
  ·rfl
theorem arB (A : List Int) (hda : Dg 10000 A) (la : A.length ≤ 400000000000) : (adQ A [10000]).toO = some (dig (V 10000 A * V 10000 [10000]).toNat, ()) := by
 have na := aaH zb hda
 have hV1 : V 10000 [10000] = 10000 := by simp [V]
 have hw : w64 (len A + len [(10000 : Int)]) = ((A.length + 1 : Nat) : Int) := by
  simp only [aaB, yj]; rw [aaC zb]; omega
 unfold adQ
 simp only [hw]
 refine uN zb ?_
 refine uO (0, List.replicate (A.length + 1) 0, ()) ?_ ?_
 ·repeat refine za ?_
  simp (disch := omega) only [aaM, aaC, aaL, aa5, ad3, aaQ, zp, zn, aaB, zv]
 refine aa2 (fun i => ∃ k : Nat, k ≤ A.length ∧ i.1 = (k : Int) ∧ i.2.1 = ((0 :: A.take k) ++ List.replicate (A.length - k) 0)) (fun i => ((A.length : Int) - i.1).toNat) (fun _ => (dig (V 10000 A * V 10000 [10000]).toNat, ())) ?_ _ ⟨0, ya _, rfl, by simp [wu]⟩
 rintro ⟨i, s, u⟩ ⟨k, h1, h2, h3⟩
 simp only at h2 h3
 subst h2 h3
 simp only [ah3, aaQ, hw]
 have da := aaU zb hda k
 rcases zD k A.length with hk | hk
 ·left
  have hrep : List.replicate (A.length - k) (0 : Int) = 0 :: List.replicate (A.length - (k + 1)) 0 := by
   rw [show A.length - k = (A.length - (k + 1)) + 1 by omega, wu]
  have hset : ((0 :: A.take k) ++ List.replicate (A.length - k) 0).set (k + 1) A[k] = ((0 :: A.take (k + 1)) ++ List.replicate (A.length - (k + 1)) 0) := by
   rw [hrep, List.set_append_right _ _ zg]
   have : k + 1 - (0 :: A.take k).length = 0 := zg
   rw [this, List.set_cons_zero]
   simp only [xM, yV hk, xa, xb]
  have hcur : 0 ≤ ((0 :: A.take k) ++ List.replicate (A.length - k) 0).getD k 0 ∧ ((0 :: A.take k) ++ List.replicate (A.length - k) 0).getD k 0 < 10000 := by
   refine aaU zb (agB (ayR zb (abZ hda k)) (agY zb _)) k
  have hlen : ((0 :: A.take k) ++ List.replicate (A.length - k) 0).length = A.length + 1 := zg
  generalize ((0 :: A.take k) ++ List.replicate (A.length - k) 0) = s at *
  generalize hd : s.getD k 0 = d at hcur
  have hg : A.getD k 0 = A[k] := by simp [hk]
  rw [hg] at da
  refine ⟨(((k + 1 : Nat) : Int), ((0 :: A.take (k + 1)) ++ List.replicate (A.length - (k + 1)) 0), ()), ?_, ⟨k + 1, by omega, rfl, rfl⟩, by simp only; omega, ze⟩
  refine uT sd ?_
  refine uO (0, 0, s, ()) ?_ ?_
  ·repeat refine za ?_
   rfl
  have hk0 : w64 ((k : Int) + 0) = ((k : Nat) : Int) := by rw [aaC zb]; omega
  have hkl : w64 ((k : Int) + len [(10000 : Int)]) = ((k + 1 : Nat) : Int) := by rw [aaB, yj, aaC zb]; omega
  have hsum : w64 (w64 (0 + d) + w64 (A[k] * 10000)) = d + A[k] * 10000 := by
   rw [aaC (x := 0 + d) zb, aaC (x := A[k] * 10000) zb, aaC zb]; omega
  have s1 : (ac6 A [10000] ((k : Int), s, ()) (0, 0, s, ())).toO = some (.inl (1, A[k], s, ())) := by
   simp only [ac6, aaQ, hw, hk0, zn, zp, hd, hg]
   have hgi : gi [(10000 : Int)] 0 0 = 10000 := rfl
   simp only [hgi, hsum]
   refine uT (by (try simp only [zz, zO, yO, yU, beq_eq_false_iff_ne, bne_eq_false_iff_eq, zK, ym]) <;> (try simp only [aaB, inb, inc, ge_iff_le, gt_iff_lt, zn, asT, ne_eq]) <;> simp) (uN sd (uN sd (uN (by (try simp only [aaB, inb, inc, ge_iff_le, gt_iff_lt, zn, asT, ne_eq]); simp) ?_)))
   repeat refine za ?_
   rw [yb zb, zQ zb]
   have m1 : (d + A[k] * 10000) % 10000 = d := zb
   have m2 : (d + A[k] * 10000) / 10000 = A[k] := zb
   have m3 : s.set k d = s := by
    rw [← hd, ajR zb]
    exact List.set_getElem_self zb
   rw [m1, m2, m3, aaC (x := A[k]) zb]
   rfl
  rw [afJ s1]
  refine ahG ?_
  simp only [ac6, hw, hkl, zn, zp]
  refine uF (by (try simp only [zz, zO, yO, yU, beq_eq_false_iff_ne, bne_eq_false_iff_eq, zK, ym]) <;> (try simp only [aaB, inb, inc, ge_iff_le, gt_iff_lt, zn, asT, ne_eq]) <;> simp) (uN sd ?_)
  repeat refine za ?_
  rw [hset, aaC (x := (k : Int) + 1) zb]
  rfl
 ·right
  have hkk : k = A.length := zb
  subst hkk
  rw [Nat.sub_self, List.replicate_zero, yK, zv]
  refine uF sd ?_
  refine uC (dig (V 10000 A * V 10000 [10000]).toNat, ()) ?_ ?_
  ·rw [zr zf]
   refine aeR (ayR zb hda) zg ?_
   rw [hV1]
   show 0 + 10000 * V 10000 A = _
   omega
  ·rfl
theorem at4 (A D : List Int) (y) (h : abF (A, D, ()) = some y) : (adQ A D).toO = some y := by
 unfold abF at h
 split at h
 case isFalse => cases h
 case isTrue hp =>
 obtain ⟨hda, hdb, la, lb⟩ := hp
 dsimp only at hda hdb la lb h
 injection h with h
 subst h
 rcases hdb with hdb | rfl
 ·exact aw8 A D hda hdb la lb
 ·exact arB A hda la
theorem aJJ {a d : Nat} (h1 : (dig a).length ≤ 1000000000000) (h2 : 0 < d) (h3 : d < 10000) : am5 (dig a, (d : Int), ()) = some (dig (a / d), ((a % d : Nat) : Int), ()) := by
 refine aa0 (enc := fun p : Nat × Nat => (dig p.1, (p.2 : Int), ())) (a, d) ⟨h1, h2, h3⟩ (fun b hb => ?_)
 obtain ⟨e1, e2⟩ := Prod.mk.inj hb
 obtain ⟨e2, -⟩ := Prod.mk.inj e2
 exact Prod.ext (asY e1) (Int.ofNat.inj e2)
theorem aFU (Vm Vq P d R m X Y B W : Int) (h : Vm = Vq * d + R) (h2 : Y + d * X = R * B + m) (hW : W = m + B * Vm) (hP : P = X + B * Vq) : W = P * d + Y := by
 subst hW hP h
 grind
theorem aB2 (m : List Int) (d : Int) (y) (h : am5 (m, d, ()) = some y) : (arF m d).toO = some y := by
 obtain ⟨⟨a, e⟩, hn, hx, rfl⟩ := aaP h
 obtain ⟨rfl, hx2⟩ := Prod.mk.inj hx; obtain ⟨rfl, -⟩ := Prod.mk.inj hx2; dsimp only
 obtain ⟨la, he, he2⟩ := hn
 simp only at la he he2
 have hda := adE a
 have hVa := ag5 a
 unfold arF
 refine uN sn ?_
 refine uO (((dig a).length : Int) - 1, 0, List.replicate (dig a).length 0, ()) ?_ ?_
 ·repeat refine za ?_
  simp only [aaB]
  rw [aaC (x := ((dig a).length : Int) - 1) zb]
  rfl
 refine aa2 (fun i : Int × Int × List Int × Unit => ∃ k : Nat, k ≤ (dig a).length ∧ i.1 = (k : Int) - 1 ∧ 0 ≤ i.2.1 ∧ i.2.1 < e ∧ i.2.2.1.length = (dig a).length ∧ Dg 10000 i.2.2.1 ∧ V 10000 ((dig a).drop k) = V 10000 (i.2.2.1.drop k) * e + i.2.1) (fun i => (i.1 + 1).toNat) (fun _ => (dig (a / e), ((a % e : Nat) : Int), ())) ?_ _ ⟨_, zj _, rfl, by simp, by simp; omega, by simp, agY zb _, by rw [acJ _ (zj _), acJ _ zf]; simp⟩
 rintro ⟨i, r, q, u⟩ ⟨k, h1, h2, h3, h4, h5, h6, h7⟩
 simp only at h2 h3 h4 h5 h6 h7
 subst h2
 rcases zL k with h0 | h0
 ·subst h0
  right
  simp only [yz, hVa] at h7
  obtain ⟨v, hv⟩ := zM (aaH zb h6)
  obtain ⟨r', rfl⟩ := zM h3
  rw [hv] at h7
  have h8 : a = v * e + r' := by
   have : (a : Int) = ((v * e + r' : Nat) : Int) := by simpa using h7
   exact Int.ofNat.inj this
  have h9 : a / e = v := by rw [h8, xj, xY _ _ he, yW zb, zp]
  have h10 : a % e = r' := by rw [h8, xj, xG, yo zb]
  simp only [anP]
  refine uF sd ?_
  refine uC (dig v, ()) ?_ ?_
  ·rw [zr (by simp [len]; omega)]
   exact aeR h6 zb hv
  ·rw [aaM, h9, h10]
 ·left
  obtain ⟨j, rfl⟩ : ∃ j, k = j + 1 := ⟨k - 1, by omega⟩
  have e6 : ((j + 1 : Nat) : Int) - 1 = (j : Int) := zb
  rw [e6]
  simp only [anP, aaQ]
  have e1 := aaJ 10000 (dig a) j
  have e2 := aaU zb hda j
  have g1 : 0 ≤ r * 10000 + (dig a).getD j 0 := zb
  have g0 : (0 : Int) < e := zb
  have g2 := yg (r * 10000 + (dig a).getD j 0) e
  have g3 := xy (r * 10000 + (dig a).getD j 0) (show (e : Int) ≠ 0 by omega)
  have g4 := xu (r * 10000 + (dig a).getD j 0) g0
  have g5 : 0 ≤ (r * 10000 + (dig a).getD j 0) / e := xE g1 zb
  have g6 : (r * 10000 + (dig a).getD j 0) / e < 10000 := by
   refine Int.ediv_lt_of_lt_mul g0 ?_
   have : (r + 1) * 10000 ≤ e * 10000 := zI zb zb
   omega
  have hw1 : w64 (w64 (r * 10000) + (dig a).getD j 0) = r * 10000 + (dig a).getD j 0 := by
   rw [aaC (x := r * 10000) zb, aaC zb]
  simp only [hw1]
  refine ⟨((j : Int) - 1, (r * 10000 + (dig a).getD j 0) % e, q.set j ((r * 10000 + (dig a).getD j 0) / e), ()), ?_, ⟨j, by omega, rfl, g3, g4, by simp; omega, ai4 h6 ⟨g5, g6⟩ _, ?_⟩, by simp only; omega, ze⟩
  ·repeat refine za ?_
   rw [yb g1, zQ g1]
   rw [aaC (x := (r * 10000 + (dig a).getD j 0) / e) zb]
   simp (disch := omega) only [aaM, aaC, aaL, aa5, ad3, aaQ, zp, zn, aaB, zv]
  ·simp only
   refine aFU _ _ _ _ _ _ _ _ 10000 _ h7 g2 e1 ?_
   rw [aaJ 10000 (q.set j _) j, alO zb, af1 _ zb]
theorem aDU {s : List UInt8} (h : isD s) (i : Nat) : isD (s.take i) := fun c hc => h c (yI hc)
theorem axI {s : List UInt8} (h : isD s) (i : Nat) : isD (s.drop i) := fun c hc => h c (yT hc)
theorem aKj {s : List UInt8} {a i : Nat} (h1 : a ≤ i) (h2 : i < s.length) : (s.take (i + 1)).drop a = (s.take i).drop a ++ [s[i]] := by
 rw [yV h2, List.drop_append_of_le_length zg]
theorem aBN {s : List UInt8} {a i : Nat} (h1 : a ≤ i) (h2 : i ≤ s.length) : ((s.take i).drop a).length = i - a := zg
theorem aOf {s : List UInt8} {a e : Nat} (h1 : a ≤ e) (h2 : e ≤ s.length) : num (s.take e) = num (s.take a) * 10 ^ (e - a) + num ((s.take e).drop a) := by
 conv => lhs; rw [← xn a (s.take e)]
 rw [aj8, aBN h1 h2, yP, yl h1]
theorem aOh : num [] = 0 := rfl
theorem avK {s : List UInt8} (hd : isD s) {a i e : Nat} (h1 : a ≤ i) (h2 : i < e) (h3 : e ≤ s.length) (h4 : e - a ≤ 9) : agC (agC ((num ((s.take i).drop a) : Int) * 10) + agC (wu8 (((s.getD i 0).toNat : Int) - 48))) = (num ((s.take (i + 1)).drop a) : Int) := by
 have hi : i < s.length := zb
 have e1 : s.getD i 0 = s[i] := by simp [hi]
 have e2 := hd s[i] (yC hi)
 have e3 := aHY (axI (aDU hd i) a)
 rw [aBN h1 zb] at e3
 have e4 : (10 : Nat) ^ (i - a) ≤ 10 ^ 8 := yw zb zb
 have e5 : dv s[i] = s[i].toNat - 48 := rfl
 rw [aKj h1 hi, amM, e1, e5]
 rw [ad3 (x := (s[i].toNat : Int) - 48) zb, aa5 (x := (s[i].toNat : Int) - 48) zb, aa5 (x := (num ((s.take i).drop a) : Int) * 10) zb, aa5 zb]
 omega
theorem apC (digits : List UInt8) (y) (h : afM (digits, ()) = some y) : (an9 digits).toO = some y := by
 unfold afM at h
 split at h
 case isFalse => cases h
 case isTrue hp =>
  obtain ⟨hd, hne, hl⟩ := hp
  simp only at hd hne hl
  injection h with h
  subst h
  generalize digits = s at *
  have hlen : 1 ≤ s.length := zN.2 hne
  refine uO ((s.length : Int), true, [], ()) rfl ?_
  refine aa2 (fun i : Int × Bool × List Int × Unit => ∃ e : Nat, i.1 = (e : Int) ∧ 1 ≤ e ∧ e ≤ s.length ∧ Dg 1000000000 i.2.2.1 ∧ V 1000000000 i.2.2.1 + 1000000000 ^ i.2.2.1.length * num (s.take e) = num s ∧ i.2.2.1.length + e ≤ s.length ∧ (i.2.1 = true → i.2.2.1 = [])) (fun i => i.1.toNat) (fun _ => (mag (num s), ())) ?_ _ ⟨s.length, rfl, hlen, zj _, awE _, by simp [V], by simp, fun _ => rfl⟩
  rintro ⟨e', f, l, u⟩ ⟨e, g1, g2, g3, g4, g5, g6, g7⟩
  simp only at g1 g4 g5 g6 g7
  subst g1
  obtain ⟨a, ha, ha1, ha2, ha3⟩ : ∃ a : Nat, (if 0 > w64 ((e : Int) - 9) then 0 else w64 ((e : Int) - 9)) = (a : Int) ∧ a ≤ e ∧ e - a ≤ 9 ∧ (a = 0 ∨ a + 9 = e) := by
   rw [aaC (x := (e : Int) - 9) zb]
   rcases zD e 9 with h9 | h9
   ·exact ⟨0, by rw [if_pos zb]; rfl, by omega, by omega, Or.inl rfl⟩
   ·exact ⟨e - 9, by rw [if_neg zb]; omega, by omega, by omega, Or.inr zb⟩
  have hseg := aOf (s := s) ha1 g3
  have hv := aHY (axI (aDU hd e) a)
  rw [aBN ha1 g3] at hv
  have hv9 : (10 : Nat) ^ (e - a) ≤ 10 ^ 9 := yw zb ha2
  generalize hX : num ((s.take e).drop a) = X at hseg hv
  have hD : Dg 1000000000 (l ++ [(X : Int)]) := agB g4 (apR zb zb)
  have hw9 : w64 ((e : Int) - 9) = (e : Int) - 9 := aaC zb
  have hV0 : a = 0 → V 1000000000 (l ++ [(X : Int)]) = num s := by
   intro h0
   subst h0
   rw [aeQ, aDa, ← g5]
   rw [hseg]
   simp [aOh]
  have hV1 : a + 9 = e → V 1000000000 (l ++ [(X : Int)]) + 1000000000 ^ (l ++ [(X : Int)]).length * (num (s.take a) : Int) = num s := by
   intro h0
   rw [aeQ, aDa, ← g5, hseg, show e - a = 9 by omega, zJ, yj, yE]
   have : (((num (s.take a) * 10 ^ 9 + X : Nat)) : Int) = (num (s.take a) : Int) * 1000000000 + X := zf
   rw [this]
   grind
  cases f
  ·-- not the first group
   simp only [alU, ha]
   have hin : acD (fun i1 => (aiM s ((e : Int), false, l, ()) i1).toO) ((a : Int), 0, ()) = some (if a = 0 then Sum.inr (mag (num s), ()) else Sum.inl ((a : Int), false, l ++ [(X : Int)], ())) := by
    refine aa2 (fun j : Int × Int × Unit => ∃ i : Nat, a ≤ i ∧ i ≤ e ∧ j = ((i : Int), (num ((s.take i).drop a) : Int), ())) (fun j => ((e : Int) - j.1).toNat) (fun _ => (if a = 0 then Sum.inr (mag (num s), ()) else Sum.inl ((a : Int), false, l ++ [(X : Int)], ()))) ?_ _ ⟨a, zj _, ha1, by rw [yx zg]; rfl⟩
    rintro j ⟨i, h1, h2, rfl⟩
    rcases zD i e with hi | hi
    ·left
     refine ⟨(((i + 1 : Nat) : Int), (num ((s.take (i + 1)).drop a) : Int), ()), ?_, ⟨i + 1, by omega, by omega, rfl⟩, by simp only; omega, ze⟩
     simp only [aiM, aaQ, avK hd h1 hi g3 ha2]
     repeat refine za ?_
     simp (disch := omega) only [aaM, aaC, aaL, aa5, ad3, aaQ, zp, zn, aaB, zv]
     rfl
    ·right
     have hie : i = e := zb
     subst hie
     simp only [aiM, ha, hX, zv]
     refine uF sd ?_
     refine uN zb ?_
     by_cases h0 : a = 0
     ·rw [if_pos h0]
      refine uT (by simp [h0]) ?_
      refine uC (mag (num s), ()) ?_ rfl
      rw [zr zf]
      exact awO hD zg (hV0 h0)
     ·rw [if_neg h0]
      refine uF zg ?_
      repeat refine za ?_
      have : w64 ((i : Int) - 9) = (a : Int) := by rw [hw9]; omega
      rw [this]
      rfl
   by_cases h0 : a = 0
   ·right
    rw [if_pos h0] at hin
    refine uF rfl ?_
    refine uO ((a : Int), 0, ()) ?_ hin
    repeat refine za ?_
    rfl
   ·left
    rw [if_neg h0] at hin
    refine ⟨((a : Int), false, l ++ [(X : Int)], ()), ?_, ⟨a, rfl, by omega, by omega, hD, hV1 zb, by simp; omega, by simp⟩, by simp only; omega, ze⟩
    refine uF rfl ?_
    refine uO ((a : Int), 0, ()) ?_ hin
    repeat refine za ?_
    rfl
  ·-- the first group
   obtain rfl := g7 rfl
   simp only [xb] at hD hV0 hV1
   simp only [alU, ha]
   have hin : acD (fun i1 => (aiN s ((e : Int), true, [], ()) i1).toO) ((a : Int), 0, ()) = some (if a = 0 then Sum.inr (mag (num s), ()) else Sum.inl ((a : Int), false, [(X : Int)], ())) := by
    refine aa2 (fun j : Int × Int × Unit => ∃ i : Nat, a ≤ i ∧ i ≤ e ∧ j = ((i : Int), (num ((s.take i).drop a) : Int), ())) (fun j => ((e : Int) - j.1).toNat) (fun _ => (if a = 0 then Sum.inr (mag (num s), ()) else Sum.inl ((a : Int), false, [(X : Int)], ()))) ?_ _ ⟨a, zj _, ha1, by rw [yx zg]; rfl⟩
    rintro j ⟨i, h1, h2, rfl⟩
    rcases zD i e with hi | hi
    ·left
     refine ⟨(((i + 1 : Nat) : Int), (num ((s.take (i + 1)).drop a) : Int), ()), ?_, ⟨i + 1, by omega, by omega, rfl⟩, by simp only; omega, ze⟩
     simp only [aiN, aaQ, avK hd h1 hi g3 ha2]
     repeat refine za ?_
     simp (disch := omega) only [aaM, aaC, aaL, aa5, ad3, aaQ, zp, zn, aaB, zv]
     rfl
    ·right
     have hie : i = e := zb
     subst hie
     simp only [aiN, ha, hX]
     refine uF sd ?_
     refine uN zf ?_
     by_cases h0 : a = 0
     ·rw [if_pos h0]
      refine uT (by simp [h0]) ?_
      refine uC (mag (num s), ()) ?_ rfl
      exact awO hD zf (hV0 h0)
     ·rw [if_neg h0]
      refine uF zg ?_
      repeat refine za ?_
      have : w64 ((i : Int) - 9) = (a : Int) := by rw [hw9]; omega
      rw [this]
      rfl
   by_cases h0 : a = 0
   ·right
    rw [if_pos h0] at hin
    refine uT rfl ?_
    refine uO ((a : Int), 0, ()) ?_ hin
    repeat refine za ?_
    rfl
   ·left
    rw [if_neg h0] at hin
    refine ⟨((a : Int), false, [(X : Int)], ()), ?_, ⟨a, rfl, by omega, by omega, hD, hV1 zb, by simp; omega, by simp⟩, by simp only; omega, ze⟩
    refine uT rfl ?_
    refine uO ((a : Int), 0, ()) ?_ hin
    repeat refine za ?_
    rfl
theorem amA {p q : Int × Int} (h : (pl p.1, pl p.2, ()) = (pl q.1, pl q.2, ())) : p = q := by
 obtain ⟨h1, h2⟩ := Prod.mk.inj h
 obtain ⟨h2, -⟩ := Prod.mk.inj h2
 exact Prod.ext (arK h1) (arK h2)
theorem avW {p q : Nat × Nat} (h : (dig p.1, dig p.2, ()) = (dig q.1, dig q.2, ())) : p = q := by
 obtain ⟨h1, h2⟩ := Prod.mk.inj h
 obtain ⟨h2, -⟩ := Prod.mk.inj h2
 exact Prod.ext (asY h1) (asY h2)
theorem aIx {n : Nat} (h : n < 10000) : isD (auB n) := by
 intro c hc
 simp only [auB, zq, List.not_mem_nil, or_false] at hc
 rcases hc with rfl | rfl | rfl | rfl <;> rw [aqC zb] <;> omega
theorem aIw {n : Nat} (h : n < 10000) : num (auB n) = n := by
 have e : ∀ a b c d : Nat, a < 10 → b < 10 → c < 10 → d < 10 → num [UInt8.ofNat (48 + a), UInt8.ofNat (48 + b), UInt8.ofNat (48 + c), UInt8.ofNat (48 + d)] = ((a * 10 + b) * 10 + c) * 10 + d := by
  intro a b c d ha hb hc hd
  unfold num
  rw [afR, afR, afR, afR, avU ha, avU hb, avU hc, avU hd]
  simp [az8]
 unfold auB
 rw [e _ _ _ _ zb zb zb zb]
 omega
theorem aLm {s : List UInt8} {k : Nat} (h : ∀ c ∈ s.take k, c = 48) : num s = num (s.drop k) := by
 have h1 : ∀ l : List UInt8, (∀ c ∈ l, c = 48) → num l = 0 := by
  intro l
  induction l using aBG with
  | nil => intro _; rfl
  | snoc l c ih =>
   intro h
   rw [amM, ih (fun d hd => h d (wP _ hd)), h c zf]
   rfl
 conv => lhs; rw [← xn k s]
 rw [aj8, h1 _ h]
 omega
theorem aOU {n : Nat} (h : Bd 6 n) : (dig n).length ≤ 13000000000 := by
 have h2 := avX (k := 1000000 * 4 ^ 6) h
 omega
theorem aJL {z : Int} (h : Bd 6 z.natAbs) : am7 (pl z, ()) = some (dec z, ()) := aa0 (enc := fun x : Int => (pl x, ())) z h (fun b hb => arK (Prod.mk.inj hb).1)
theorem aB6 (x : PlT) (y) (h : am7 (x, ()) = some y) : (arI x).toO = some y := by
 obtain ⟨z, hp, hx, rfl⟩ := aaP h
 obtain ⟨rfl, -⟩ := Prod.mk.inj hx
 have hl := aOU hp
 have hd := adE z.natAbs
 have hV := ag5 z.natAbs
 clear h hx
 unfold arI
 dsimp only
 refine uO (((dig z.natAbs).length : Int) - 1, [], ()) ?_ ?_
 ·repeat refine za ?_
  rw [aaM, aaB, aaC zb]
 refine aa2 (fun i : Int × List UInt8 × Unit => ∃ k : Nat, k ≤ (dig z.natAbs).length ∧ i.1 = (k : Int) - 1 ∧ isD i.2.1 ∧ i.2.1.length = 4 * ((dig z.natAbs).length - k) ∧ (num i.2.1 : Int) = V 10000 ((dig z.natAbs).drop k)) (fun i => (i.1 + 1).toNat) (fun _ => (dec z, ())) ?_ _ ⟨_, zj _, rfl, (show isD [] from fun c hc => by cases hc), by simp, by rw [acJ _ (zj _)]; rfl⟩
 rintro ⟨i, s, u⟩ ⟨k, h1, h2, h3, h4, h5⟩
 dsimp only at h2 h3 h4 h5
 subst h2
 cases k with
 | succ j =>
  left
  have e6 : ((j + 1 : Nat) : Int) - 1 = (j : Int) := zb
  have dj := aaU zb hd j
  obtain ⟨m, hm⟩ := zM dj.1
  have hm2 : m < 10000 := zb
  rw [e6]
  refine ⟨((j : Int) - 1, s ++ auB m, ()), ?_, ⟨j, by omega, rfl, ?_, ?_, ?_⟩, by dsimp only; omega, ze⟩
  ·simp only [anR, aaQ, hm]
   refine uT sd (uN sd (uC _ (aJK hm2) (uN ?_ ?_)))
   ·have : (auB m).length = 4 := rfl
    dsimp only
    rw [this, h4]
    unfold lim; omega
   ·repeat refine za ?_
    rw [aaM, aaC (x := (j : Int) - 1) zb]
  ·exact isD_append.2 ⟨h3, aIx hm2⟩
  ·have : (auB m).length = 4 := rfl
   simp only [zJ, this, h4]; omega
  ·dsimp only
   rw [aj8, aIw hm2, aaJ, hm, ← h5]
   have : (auB m).length = 4 := rfl
   rw [this]
   simp; omega
 | zero =>
  right
  rw [yz, hV] at h5
  have h5' : num s = z.natAbs := Int.ofNat.inj h5
  simp only [anR]
  refine uF sd (uO (0, ()) rfl ?_)
  refine aa2 (fun i : Int × Unit => ∃ q : Nat, q ≤ s.length ∧ i = ((q : Int), ()) ∧ ∀ c ∈ s.take q, c = 48) (fun i => ((s.length : Int) - i.1).toNat) (fun _ => (.inr (dec z, ()) : (Int × List UInt8 × Unit) ⊕ (List UInt8 × Unit))) ?_ _ ⟨0, by omega, rfl, by simp⟩
  rintro i ⟨q, g1, rfl, g2⟩
  have hlead := aLm g2
  have hsl : s.length ≤ 60000000000 := zb
  have hdd : isD (s.drop q) := axI h3 q
  have htk : List.take (s.length - q) (s.drop q) = s.drop q := zr zf
  have fin : ∀ (w : TT (ui ⊕ ((Int × List UInt8 × Unit) ⊕ ue))), (q = s.length ∨ (s.drop q).head? ≠ some 48) → (TT.ite (s.drop q == #[].toList) (TT.ok (.inr (.inr (#[48].toList, ())))) (TT.ite (decide (z < 0)) (TT.need (List.length #[(45 : UInt8)].toList + List.length (s.drop q) ≤ lim) (TT.ok (.inr (.inr (#[45].toList ++ s.drop q, ()))))) (TT.ok (.inr (.inr (s.drop q, ())))) : TT (ui ⊕ ((Int × List UInt8 × Unit) ⊕ ue)))).toO = some (.inr (.inr (dec z, ()))) := by
   intro _ hq
   by_cases c0 : s.drop q = []
   ·refine uT (by rw [c0]; rfl) ?_
    rw [c0] at hlead
    have : z.natAbs = 0 := by rw [← h5', hlead]; rfl
    have hz : z = 0 := zb
    subst hz
    rw [ac9 zb, Int.natAbs_zero, ab5 zb]; rfl
   ·refine uF (by rw [beq_eq_false_iff_ne]; exact c0) ?_
    have hu : s.drop q = ab1 z.natAbs := by
     have := aAZ hdd c0 (by
      rcases hq with hq | hq
      ·exact absurd (by rw [hq]; simp) c0
      ·exact Or.inl hq)
     rw [this, ← hlead, h5']
    by_cases cz : z < 0
    ·refine uT (zm cz) (uN ?_ ?_)
     ·show 1 + (s.drop q).length ≤ lim
      rw [yf]; unfold lim; omega
     ·rw [hu, aiP cz]; rfl
    ·refine uF (zk cz) ?_
     rw [hu, ac9 zb]; rfl
  unfold auX ah4
  simp only [aaQ, zn, htk]
  rcases zD q s.length with hq | hq
  ·have e1 : s.getD q 0 = s[q] := by simp [hq]
   rw [e1]
   by_cases c : s[q] = 48
   ·left
    refine ⟨(((q + 1 : Nat) : Int), ()), ?_, ⟨q + 1, by omega, rfl, ?_⟩, by dsimp only; omega, ze⟩
    ·refine uT sd (uN sd (uT (by rw [c]; rfl) ?_))
     repeat refine za ?_
     rw [aaM, aaC (x := (q : Int) + 1) zb]; rfl
    ·intro c' hc'
     rw [yV hq] at hc'
     rcases zE.1 hc' with hc' | hc'
     ·exact g2 c' hc'
     ·rw [ye.1 hc', c]
   ·right
    refine uT sd (uN sd (uF ?_ (uN sd ?_)))
    ·rw [beq_eq_false_iff_ne]
     intro h
     exact c (UInt8.toNat_inj.1 (Int.ofNat.inj h))
    ·refine fin TT.bad (Or.inr ?_)
     rw [yv hq, wQ]
     exact fun h => c (Option.some.inj h)
  ·right
   refine uF sd (uN sd ?_)
   exact fin TT.bad (Or.inl zb)
theorem ayQ {z : Int} (h : Bd 6 z.natAbs) : akK (pl z, ()) = some (wrW z) := aa0 (enc := fun x : Int => (pl x, ())) z h (fun b hb => arK (Prod.mk.inj hb).1)
theorem aEL (x : PlT) (y) (h : akK (x, ()) = some y) : (aDB x).toO = some y := by
 obtain ⟨z, hp, hx, rfl⟩ := aaP h
 obtain ⟨rfl, -⟩ := Prod.mk.inj hx
 refine uC _ (aJL hp) ?_
 dsimp only
 have hl : (ab1 z.natAbs).length ≤ 90000000000 := by
  have := ag3 (k := 1000000 * 4 ^ 6) hp
  omega
 by_cases c : z < 0
 ·refine uT (zm c) ?_
  have e : w64 (len (dec z) - 1) = ((ab1 z.natAbs).length : Int) := by
   rw [aiP c, aaB, yh, aaC zb]; omega
  rw [e]
  by_cases f : Fit z
  ·rw [awH f]
   have f' : (ab1 z.natAbs).length ≤ 600 := f
   exact uF sd rfl
  ·rw [awI f]
   have f' : ¬ (ab1 z.natAbs).length ≤ 600 := f
   exact uT sd rfl
 ·refine uF (zk c) ?_
  have e : len (dec z) = ((ab1 z.natAbs).length : Int) := by rw [ac9 zb]; rfl
  rw [e]
  by_cases f : Fit z
  ·rw [awH f]
   have f' : (ab1 z.natAbs).length ≤ 600 := f
   exact uF sd rfl
  ·rw [awI f]
   have f' : ¬ (ab1 z.natAbs).length ≤ 600 := f
   exact uT sd rfl
theorem ae2 {n : Int} (h : ae4 n) : abP (n, ()) = some (pl n, ()) := by unfold abP; rw [if_pos h]
theorem aLF {l : List Int} {x w v N : Int} (h : V 10000 l + 10000 ^ l.length * w = N) (hx : x + 10000 * v = w) : V 10000 (l ++ [x]) + 10000 ^ (l.length + 1) * v = N := by
 rw [aeQ, aDa, yE, ← h]
 have : (10000 : Int) ^ l.length * (x + 10000 * v) = 10000 ^ l.length * w := by rw [hx]
 grind
theorem at5 (n : Int) (y) (h : abP (n, ()) = some y) : (aoX n).toO = some y := by
 unfold abP at h
 split at h
 case isFalse => cases h
 case isTrue hn =>
 injection h with h
 subst h
 obtain ⟨n0, n1⟩ := hn
 dsimp only at n0 n1
 refine uO (true, [], n, ()) rfl ?_
 refine aa2 (fun i : Bool × List Int × Int × Unit => Dg 10000 i.2.1 ∧ i.2.2.1.natAbs ≤ n.natAbs ∧ V 10000 i.2.1 + 10000 ^ i.2.1.length * i.2.2.1.natAbs = n.natAbs ∧ (i.1 = true → i.2.1 = []) ∧ (i.2.2.1 = 0 → Cn i.2.1) ∧ i.2.1.length ≤ 6 ∧ i.2.2.1.natAbs < 10000 ^ (6 - i.2.1.length)) (fun i => i.2.2.1.natAbs) (fun _ => (pl n, ())) ?_ _ ⟨awE _, zj _, by simp [V], fun _ => rfl, fun _ => awF, by simp, by simp; omega⟩
 rintro ⟨f, l, v, u⟩ ⟨g1, g2, g3, g4, g5, g6, g7⟩
 dsimp only at g1 g2 g3 g4 g5 g6 g7
 by_cases hv : v = 0
 ·right
  subst hv
  have hm : abY (decide (n < 0), l, ()) = some (pl n, ()) := aBm g1 zb (by simp at g3; omega) (Or.inr rfl)
  cases f with
  | true =>
   obtain rfl := g4 rfl
   unfold ad8
   exact uT rfl (uF rfl (uC _ hm rfl))
  | false =>
   unfold ad8
   dsimp only
   rw [zv]
   exact uF rfl (uF rfl (uC _ hm rfl))
 ·left
  have hl6 : l.length ≤ 5 := by
   rcases zD 5 l.length with h | h
   ·have : l.length = 6 := zb
    rw [this] at g7; simp at g7; omega
   ·exact h
  have td : (Int.tdiv v 10000).natAbs = v.natAbs / 10000 := by rw [Int.natAbs_tdiv]; rfl
  have tm : (Int.tmod v 10000).natAbs = v.natAbs % 10000 := by rw [wR]; rfl
  have hx : ((v.natAbs % 10000 : Nat) : Int) + 10000 * ((v.natAbs / 10000 : Nat) : Int) = v.natAbs := zb
  have wd : w64 (Int.tdiv v 10000) = Int.tdiv v 10000 := aaC zb
  have wm : w64 (0 - Int.tmod v 10000) = 0 - Int.tmod v 10000 := aaC zb
  have inv : Dg 10000 (l ++ [((v.natAbs % 10000 : Nat) : Int)]) ∧ (Int.tdiv v 10000).natAbs ≤ n.natAbs ∧ V 10000 (l ++ [((v.natAbs % 10000 : Nat) : Int)]) + 10000 ^ (l ++ [((v.natAbs % 10000 : Nat) : Int)]).length * ((Int.tdiv v 10000).natAbs : Int) = n.natAbs ∧ (false = true → (l ++ [((v.natAbs % 10000 : Nat) : Int)]) = []) ∧ (Int.tdiv v 10000 = 0 → Cn (l ++ [((v.natAbs % 10000 : Nat) : Int)])) ∧ (l ++ [((v.natAbs % 10000 : Nat) : Int)]).length ≤ 6 ∧ (Int.tdiv v 10000).natAbs < 10000 ^ (6 - (l ++ [((v.natAbs % 10000 : Nat) : Int)]).length) := by
   refine ⟨agB g1 (apR zb zb), by omega, ?_, by simp, ?_, by simp; omega, ?_⟩
   ·rw [zJ, yj, td]
    exact aLF g3 hx
   ·intro hz
    unfold Cn
    simp only [List.getLast?_concat, ne_eq, Option.some.injEq]
    omega
   ·rw [zJ, yj, td, yQ zb]
    have h9 : 10000 ^ (6 - l.length) = 10000 ^ (6 - (l.length + 1)) * 10000 := by
     rw [← yL]; congr 1; omega
    omega
  refine ⟨(false, l ++ [((v.natAbs % 10000 : Nat) : Int)], Int.tdiv v 10000, ()), ?_, inv, by dsimp only; omega, ze⟩
  cases f with
  | true =>
   obtain rfl := g4 rfl
   simp only [ad8, wd, wm]
   by_cases c : Int.tmod v 10000 < 0
   ·refine uT rfl (uT (by simpa using hv) (uV (uT (zm c) ?_)))
    repeat refine za ?_
    rw [aaM, show 0 - Int.tmod v 10000 = ((v.natAbs % 10000 : Nat) : Int) by omega]; rfl
   ·refine uT rfl (uT (by simpa using hv) (uV (uF (zk c) ?_)))
    repeat refine za ?_
    rw [aaM, show Int.tmod v 10000 = ((v.natAbs % 10000 : Nat) : Int) by omega]; rfl
  | false =>
   simp only [ad8, wd, wm, zv]
   by_cases c : Int.tmod v 10000 < 0
   ·refine uF rfl (uT (by simpa using hv) (uV (uT (zm c) ?_)))
    repeat refine za ?_
    rw [aaM, show 0 - Int.tmod v 10000 = ((v.natAbs % 10000 : Nat) : Int) by omega]
   ·refine uF rfl (uT (by simpa using hv) (uV (uF (zk c) ?_)))
    repeat refine za ?_
    rw [aaM, show Int.tmod v 10000 = ((v.natAbs % 10000 : Nat) : Int) by omega]
theorem aoK {k n : Nat} (h : Bd k n) (hk : k ≤ 8) : (dig n).length ≤ 1000000000000 := zt (aBd h hk) zb
theorem atS {z : Int} (h : Bd 8 z.natAbs) : ahS (pl z, ()) = some (pl (-z), ()) := aa0 (enc := fun x : Int => (pl x, ())) z h (fun b hb => arK (Prod.mk.inj hb).1)
theorem aB5 (x : PlT) (y) (h : ahS (x, ()) = some y) : (azM x).toO = some y := by
 obtain ⟨z, hp, hx, rfl⟩ := aaP h
 obtain ⟨rfl, -⟩ := Prod.mk.inj hx
 refine uC (pl (-z), ()) (afN (aoK hp zb) zb ?_) rfl
 by_cases h0 : z = 0
 ·left; omega
 ·right
  show (!decide (z < 0)) = decide (-z < 0)
  by_cases h1 : z < 0
  ·rw [zm h1, zk zb]; rfl
  ·rw [zk h1, zm zb]; rfl
theorem aL9 {a b : Nat} (h1 : (dig a).length ≤ 1000000000000) (h2 : (dig b).length ≤ 1000000000000) : aqI (dig a, dig b, ()) = some (dig (a + b), ()) := aa0 (enc := fun p : Nat × Nat => (dig p.1, dig p.2, ())) (a, b) ⟨h1, h2⟩ (fun b hb => avW hb)
theorem av9 {a b : Nat} (h1 : (dig a).length ≤ 1000000000000) (h : b ≤ a) : aaY (dig a, dig b, ()) = some (dig (a - b), ()) := aj2 (adE a) (adE b) h1 (abX h) (by rw [ag5, ag5]; omega) (by rw [ag5, ag5]; omega)
theorem atT {a b : Int} (h1 : Bd 7 a.natAbs) (h2 : Bd 7 b.natAbs) : af8 (pl a, pl b, ()) = some (pl (a + b), ()) := aa0 (enc := fun p : Int × Int => (pl p.1, pl p.2, ())) (a, b) ⟨h1, h2⟩ (fun b hb => amA hb)
theorem aB7 (x x' : PlT) (y) (h : af8 (x, x', ()) = some y) : (arJ x x').toO = some y := by
 obtain ⟨⟨a, b⟩, hp, hx, rfl⟩ := aaP h
 obtain ⟨rfl, hx2⟩ := Prod.mk.inj hx; obtain ⟨rfl, -⟩ := Prod.mk.inj hx2; dsimp only
 obtain ⟨l1, l2⟩ := hp
 simp only at l1 l2
 have d1 := aoK l1 zb
 have d2 := aoK l2 zb
 have d3 := aoK (am0 l1 l2) zb
 unfold arJ
 dsimp only
 by_cases hs : (decide (a < 0) == decide (b < 0)) = true
 ·refine uT hs ?_
  have hs' : (a < 0 ↔ b < 0) := by simpa using hs
  refine uC _ (aL9 d1 d2) ?_
  refine uC (pl (a + b), ()) (afN d3 zb (Or.inr (decide_eq_decide.2 zb))) rfl
 ·have hs' : ¬ (a < 0 ↔ b < 0) := by simpa using hs
  refine uF (by simpa using hs) ?_
  refine uC _ (aoO _ _ (adE _) (adE _) d1 d2) ?_
  obtain ⟨o1, o2⟩ := aDF a.natAbs b.natAbs
  by_cases hc : a.natAbs < b.natAbs
  ·refine uF (zk (by have := o1.2 hc; dsimp only; omega)) ?_
   refine uC _ (av9 d2 zb) ?_
   have d4 : (dig (b.natAbs - a.natAbs)).length ≤ 1000000000000 := zt (abX (Nat.sub_le _ _)) d2
   refine uC (pl (a + b), ()) (afN d4 zb (Or.inr (decide_eq_decide.2 zb))) rfl
  ·refine uT (zm (by
    rcases yi (aNf (dig a.natAbs) (dig b.natAbs)) 0 with h | h
    ·exact absurd (o1.1 h) hc
    ·exact h)) ?_
   refine uC _ (av9 d1 zb) ?_
   have d4 : (dig (a.natAbs - b.natAbs)).length ≤ 1000000000000 := zt (abX (Nat.sub_le _ _)) d1
   refine uC (pl (a + b), ()) (afN d4 zb ?_) rfl
   by_cases h0 : a + b = 0
   ·exact Or.inl h0
   ·exact Or.inr (decide_eq_decide.2 zb)
theorem aFY {a b : Int} (h1 : Bd 7 a.natAbs) (h2 : Bd 7 b.natAbs) : akL (pl a, pl b, ()) = some (pl (a - b), ()) := aa0 (enc := fun p : Int × Int => (pl p.1, pl p.2, ())) (a, b) ⟨h1, h2⟩ (fun b hb => amA hb)
theorem azO (x x' : PlT) (y) (h : akL (x, x', ()) = some y) : (auY x x').toO = some y := by
 obtain ⟨⟨a, b⟩, hp, hx, rfl⟩ := aaP h
 obtain ⟨rfl, hx2⟩ := Prod.mk.inj hx; obtain ⟨rfl, -⟩ := Prod.mk.inj hx2; dsimp only
 obtain ⟨l1, l2⟩ := hp
 refine uC _ (atS (acE l2 zb)) (uC _ (atT l1 (ai3 l2)) ?_)
 rw [Int.sub_eq_add_neg]; rfl
theorem aQM {a b : Int} : a * b = 0 ∨ (!(decide (a < 0) == decide (b < 0))) = decide (a * b < 0) := by
 by_cases hz : a * b = 0
 ·exact Or.inl hz
 ·right
  have z1 : a ≠ 0 := fun h => hz (by rw [h]; simp)
  have z2 : b ≠ 0 := fun h => hz (by rw [h]; simp)
  rcases yi a 0 with c1 | c1 <;> rcases yi b 0 with c2 | c2
  ·have := Int.mul_pos_of_neg_of_neg c1 c2
   rw [zm c1, zm c2, zk zb]; rfl
  ·have := Int.mul_neg_of_neg_of_pos c1 (show 0 < b by omega)
   rw [zm c1, zk zb, zm zb]; rfl
  ·have := Int.mul_neg_of_pos_of_neg (show 0 < a by omega) c2
   rw [zk zb, zm c2, zm zb]; rfl
  ·have := Int.mul_pos (show 0 < a by omega) (show 0 < b by omega)
   rw [zk zb, zk zb, zk zb]; rfl
theorem av8 {a b : Nat} (h1 : (dig a).length ≤ 200000000000) (h2 : (dig b).length ≤ 200000000000) (h3 : b ≠ 0) : ahR (dig a, dig b, ()) = some (dig (a / b), dig (a % b), ()) := aa0 (enc := fun p : Nat × Nat => (dig p.1, dig p.2, ())) (a, b) ⟨h1, h2, h3⟩ (fun b hb => avW hb)
theorem apQ {a b : Int} (h1 : Bd 8 a.natAbs) (h2 : Bd 8 b.natAbs) : ae0 (pl a, pl b, ()) = some (pl (Nat.gcd a.natAbs b.natAbs), ()) := aa0 (enc := fun p : Int × Int => (pl p.1, pl p.2, ())) (a, b) ⟨h1, h2⟩ (fun b hb => amA hb)
theorem at6 (x x' : PlT) (y) (h : ae0 (x, x', ()) = some y) : (aoY x x').toO = some y := by
 obtain ⟨⟨a, b⟩, hp, hx, rfl⟩ := aaP h
 obtain ⟨rfl, hx2⟩ := Prod.mk.inj hx; obtain ⟨rfl, -⟩ := Prod.mk.inj hx2; dsimp only
 obtain ⟨l1, l2⟩ := hp
 dsimp only at l1 l2
 have d1 := aBd l1 zb
 have d2 := aBd l2 zb
 refine uO (dig b.natAbs, dig a.natAbs, ()) rfl ?_
 have hres : (pl ((Nat.gcd a.natAbs b.natAbs : Nat) : Int), ()) = ((false, dig (Nat.gcd a.natAbs b.natAbs), ()), ()) := by
  unfold pl
  rw [zk zb, xf]
 rw [hres]
 refine aa2 (fun i : List Int × List Int × Unit => ∃ p q : Nat, i = (dig q, dig p, ()) ∧ (dig p).length ≤ 200000000000 ∧ (dig q).length ≤ 200000000000 ∧ Nat.gcd p q = Nat.gcd a.natAbs b.natAbs) (fun i => (V 10000 i.1).toNat) (fun _ => ((false, dig (Nat.gcd a.natAbs b.natAbs), ()), ())) ?_ _ ⟨a.natAbs, b.natAbs, rfl, d1, d2, rfl⟩
 rintro i ⟨p, q, rfl, lp, lq, hg⟩
 unfold al9
 dsimp only
 by_cases hq : q = 0
 ·right
  subst hq
  refine uF (by rw [dig_zero]; rfl) ?_
  rw [← hg, Nat.gcd_zero_right]; rfl
 ·left
  have hql : 1 ≤ (dig q).length := by
   rcases zL (dig q).length with h5 | h5
   ·exact absurd (dig_nil_iff.1 (yk.1 h5)) hq
   ·exact h5
  refine ⟨(dig (p % q), dig q, ()), ?_, ⟨q, p % q, rfl, lq, ?_, ?_⟩, ?_, ze⟩
  ·refine uT sd (uC _ (av8 lp lq hq) ?_)
   repeat refine za ?_
   rfl
  ·exact zt (abX (Nat.le_of_lt (xl p (show 0 < q by omega)))) lq
  ·rw [← hg, xP p q, Nat.gcd_rec q p, xP]
  ·simp only [ag5, zn]
   exact xl p zb
theorem akP {a b : Int} (h1 : Bd 6 a.natAbs) (h2 : Bd 6 b.natAbs) (h3 : b ≠ 0) : aeK (pl a, pl b, ()) = some (pl (a / b), pl (a % b), ()) := aa0 (enc := fun p : Int × Int => (pl p.1, pl p.2, ())) (a, b) ⟨h1, h2, h3⟩ (fun b hb => amA hb)
theorem aQ4 {a b : Int} (hb : b ≠ 0) : ∃ q r : Int, q.natAbs = a.natAbs / b.natAbs ∧ r.natAbs = a.natAbs % b.natAbs ∧ (q = 0 ∨ (!(decide (a < 0) == decide (b < 0))) = decide (q < 0)) ∧ (r = 0 ∨ decide (a < 0) = decide (r < 0)) ∧ (r < 0 → a / b = (if b < 0 then q + 1 else q - 1) ∧ a % b = r + b.natAbs) ∧ (¬ r < 0 → a / b = q ∧ a % b = r) := by
 refine ⟨Int.tdiv a b, Int.tmod a b, Int.natAbs_tdiv a b, wR a b, ?_, ?_, ?_, ?_⟩
 ·by_cases hz : Int.tdiv a b = 0
  ·exact Or.inl hz
  ·right
   rcases yi a 0 with c1 | c1 <;> rcases yi b 0 with c2 | c2
   ·have : 0 ≤ Int.tdiv a b := by
     rw [← Int.neg_tdiv_neg]; exact xx zb zb
    rw [zm c1, zm c2, zk zb]; rfl
   ·have : Int.tdiv a b ≤ 0 := by
     have := xx (a := -a) (b := b) zb c2
     rw [Int.neg_tdiv] at this; omega
    rw [zm c1, zk zb, zm zb]; rfl
   ·have : Int.tdiv a b ≤ 0 := by
     have := xx (a := a) (b := -b) c1 zb
     rw [Int.tdiv_neg] at this; omega
    rw [zk zb, zm c2, zm zb]; rfl
   ·have := xx c1 c2
    rw [zk zb, zk zb, zk zb]; rfl
 ·by_cases hz : Int.tmod a b = 0
  ·exact Or.inl hz
  ·right
   refine decide_eq_decide.2 ?_
   rcases yi a 0 with c1 | c1
   ·have : Int.tmod a b ≤ 0 := by
     have := xi (a := -a) b zb
     rw [Int.neg_tmod] at this; omega
    omega
   ·have := xi (a := a) b c1
    omega
 ·intro hr
  have ha : a < 0 := by
   rcases yi a 0 with c | c
   ·exact c
   ·have := xi (a := a) b c; omega
  have h1 := xW a b
  have h2 : (Int.tmod a b).natAbs < b.natAbs := by rw [wR]; exact xl _ zb
  generalize Int.tdiv a b = q at *
  generalize Int.tmod a b = r at *
  have key : ∀ q' r' : Int, r' + b * q' = a → 0 ≤ r' → r' < b.natAbs → a / b = q' ∧ a % b = r' := by
   intro q' r' e e1 e2
   have hr' : r' / b = 0 := by
    rcases yi b 0 with c | c
    ·have : r' / (-(-b)) = -(r' / -b) := Int.ediv_neg _ _
     rw [Int.neg_neg] at this
     rw [this, xr e1 zb]; rfl
    ·exact xr e1 zb
   have d1 : a / b = q' := by rw [← e, wK _ _ hb, hr', wS]
   refine ⟨d1, ?_⟩
   have := yg a b
   rw [d1] at this
   omega
  rcases yi b 0 with c | c
  ·rw [if_pos c]
   exact key _ _ (by rw [xS]; omega) zb zb
  ·rw [if_neg zb]
   exact key _ _ (by rw [Int.mul_sub]; omega) zb zb
 ·intro hr
  have h1 := xW a b
  have h2 : (Int.tmod a b).natAbs < b.natAbs := by rw [wR]; exact xl _ zb
  generalize Int.tdiv a b = q at *
  generalize Int.tmod a b = r at *
  have hr' : r / b = 0 := by
   rcases yi b 0 with c | c
   ·have : r / (-(-b)) = -(r / -b) := Int.ediv_neg _ _
    rw [Int.neg_neg] at this
    rw [this, xr zb zb]; rfl
   ·exact xr zb zb
  have d1 : a / b = q := by rw [← h1, wK _ _ hb, hr', wS]
  refine ⟨d1, ?_⟩
  have := yg a b
  rw [d1] at this
  omega
theorem azN (x x' : PlT) (y) (h : aeK (x, x', ()) = some y) : (anS x x').toO = some y := by
 obtain ⟨⟨a, b⟩, hp, hx, rfl⟩ := aaP h
 obtain ⟨rfl, hx2⟩ := Prod.mk.inj hx; obtain ⟨rfl, -⟩ := Prod.mk.inj hx2; dsimp only
 obtain ⟨l1, l2, l3⟩ := hp
 dsimp only at l1 l2 l3
 have d1 := aBd l1 zb
 have d2 := aBd l2 zb
 obtain ⟨q, r, hq, hr, sq, sr, hneg, hpos⟩ := aQ4 (a := a) l3
 have bq : Bd 6 q.natAbs := by rw [hq]; exact ae8 _ l1
 have br : Bd 6 r.natAbs := by rw [hr]; exact apL _ l1
 have i1 : ae4 1 := ⟨by omega, by omega⟩
 have b1 : Bd 7 (1 : Int).natAbs := acE (aeP zc) zb
 unfold anS
 dsimp only
 refine uC _ (av8 d1 d2 zb) ?_
 refine uC (pl q, ()) (afN (by rw [← hq]; exact aoK bq zb) hq.symm sq) ?_
 refine uC (pl r, ()) (afN (by rw [← hr]; exact aoK br zb) hr.symm sr) ?_
 dsimp only
 by_cases c : r < 0
 ·obtain ⟨e1, e2⟩ := hneg c
  refine uT (zm c) ?_
  have hpb : af8 (pl r, (false, dig b.natAbs, ()), ()) = some (pl (r + b.natAbs), ()) := by
   have := atT (a := r) (b := (b.natAbs : Int)) (acE br zb) (acE l2 zb)
   unfold pl at this ⊢
   rwa [zk (show ¬ ((b.natAbs : Int) < 0) by omega), xf] at this
  refine uC _ hpb ?_
  rw [e1, e2]
  by_cases c2 : b < 0
  ·rw [if_pos c2]
   exact uT (zm c2) (uC _ (ae2 i1) (uC _ (atT (acE bq zb) b1) rfl))
  ·rw [if_neg c2]
   exact uF (zk c2) (uC _ (ae2 i1) (uC _ (aFY (acE bq zb) b1) rfl))
 ·obtain ⟨e1, e2⟩ := hpos c
  rw [e1, e2]
  exact uF (zk c) rfl
theorem av6 {l : List Int} (h : Dg 10000 l) (k : Nat) : V 10000 (l.drop k) = V 10000 l / 10000 ^ k := by
 have h1 := ab0 10000 l k
 have h2 := ac4 zb h k
 have h3 := aaH zb (abZ h k)
 rw [h1, wK _ _ (by have := aw9 (show (1 : Int) ≤ 10000 by omega) k; omega), xr h3 h2, wS]
theorem aB8 {R b top first P : Int} (hP : 0 < P) (hb0 : 0 < b) (htop : 10000 ≤ top) (hb1 : top * P ≤ b) (hb2 : b < (top + 1) * P) (hf1 : first * P ≤ R) (hf2 : R < (first + 1) * P) (hR0 : 0 ≤ R) (hR : R < b * 10000) (hf0 : 0 ≤ first) :
  (first / (top + 1)) * b ≤ R ∧ R < (first / top + 1) * b ∧ first / top + 1 ≤ 10001 ∧ 0 ≤ first / (top + 1) ∧ first ≤ 100000000000000 * top := by
 have g1 := yg first (top + 1)
 have g2 := xy first (show top + 1 ≠ 0 by omega)
 have g3 := yg first top
 have g4 := xu first (show 0 < top by omega)
 have g7 := xy first (show top ≠ 0 by omega)
 have g5 := xE hf0 (show 0 ≤ top + 1 by omega)
 have g6 := xE hf0 (show 0 ≤ top by omega)
 generalize first / (top + 1) = L at *
 generalize first / top = H at *
 generalize first % (top + 1) = m1 at *
 generalize first % top = m2 at *
 refine ⟨?_, ?_, ?_, g5, ?_⟩
 ·have a1 : L * b ≤ L * ((top + 1) * P) := zy zb g5
  have a2 : L * ((top + 1) * P) = ((top + 1) * L) * P := by grind
  have a3 : ((top + 1) * L) * P ≤ first * P := zI zb zb
  omega
 ·have a1 : (H + 1) * (top * P) ≤ (H + 1) * b := zy hb1 zb
  have a2 : (H + 1) * (top * P) = (top * H + top) * P := by grind
  have a3 : (first + 1) * P ≤ (top * H + top) * P := zI zb zb
  omega
 ·have a1 : first * P < ((top + 1) * 10000) * P := by
   have : b * 10000 < ((top + 1) * P) * 10000 := zb
   have e : ((top + 1) * P) * 10000 = ((top + 1) * 10000) * P := by grind
   omega
  have a2 : first < (top + 1) * 10000 := yc a1 zb
  have a3 : top * H < top * 10001 := zb
  have := yM a3 zb
  omega
 ·have a1 : first * P < ((top + 1) * 10000) * P := by
   have : b * 10000 < ((top + 1) * P) * 10000 := zb
   have e : ((top + 1) * P) * 10000 = ((top + 1) * 10000) * P := by grind
   omega
  have a2 : first < (top + 1) * 10000 := yc a1 zb
  omega
theorem azI (a b i y j) : (arC a b i y j).toO = (acZ a b i y j).toO := by kernel_rfl
theorem azH (m o : List Int) (y) (h : ahR (m, o, ()) = some y) : (anN m o).toO = some y := by
 obtain ⟨⟨a, b⟩, hn, hx, rfl⟩ := aaP h
 obtain ⟨rfl, hx2⟩ := Prod.mk.inj hx; obtain ⟨rfl, -⟩ := Prod.mk.inj hx2; dsimp only
 obtain ⟨la, lb, hb0⟩ := hn
 simp only at la lb hb0
 clear h hx hx2
 have hda := adE a
 have hdb := adE b
 have hVa := ag5 a
 have hVb := ag5 b
 have hbl : 1 ≤ (dig b).length := by
  rcases zL (dig b).length with h5 | h5
  ·exact absurd (dig_nil_iff.1 (yk.1 h5)) hb0
  ·exact h5
 unfold anN
 by_cases h1 : (dig b).length = 1
 ·-- one digit
  refine uT sd (uN ⟨by simp [asT], by exact sn⟩ ?_)
  have hb1 : b < 10000 := by have := dig_length_le_iff.1 (xN h1); simpa using this
  have hdb1 : dig b = [(b : Int)] := aI5 hb0 hb1
  have hg : gi (dig b) 0 0 = (b : Int) := by rw [hdb1]; rfl
  rw [hg]
  refine uC _ (aJJ zb zb hb1) ?_
  have hm := xl a (show 0 < b by omega)
  generalize a % b = r at hm ⊢
  refine uC (dig r, ()) (aeR (apR (show (0 : Int) ≤ (r : Int) by omega) (show (r : Int) < 10000 by omega)) zf (by simp [V])) rfl
 obtain ⟨n, hnl⟩ : ∃ n, (dig b).length = n + 2 := ⟨(dig b).length - 2, by omega⟩
 have w1 : w64 (len (dig b) - 1) = ((n + 1 : Nat) : Int) := by rw [aaB, hnl, aaC zb]; omega
 have w2 : w64 (((n + 1 : Nat) : Int) - 1) = ((n : Nat) : Int) := by rw [aaC zb]; omega
 have bge : 10000 ^ (n + 1) ≤ b := by have := aB9 (B := 10000) zb hb0; rw [show (apV 10000 b).length = n + 2 from hnl] at this; exact this
 refine uF sd ?_
 simp only [w1]
 by_cases h2 : (dig a).length ≤ n + 1
 ·-- the dividend is shorter
  refine uT sd (uN zb ?_)
  have hab : a < b := zZ (dig_length_le_iff.1 h2) bge
  rw [yW hab, yo hab, dig_zero]
  by_cases ea : (dig a).isEmpty = true
  ·rw [List.isEmpty_iff.1 ea]; rfl
  ·refine uF (by simpa using ea) ?_
   rw [aaM]
   simp
 have hq : ∃ M, (dig a).length = M + (n + 1) ∧ 0 < M := ⟨(dig a).length - (n + 1), by omega, by omega⟩
 obtain ⟨M, hM, hM0⟩ := hq
 have w3 : w64 (len (dig a) - ((n + 1 : Nat) : Int)) = (M : Int) := by rw [aaB, hM, aaC zb]; omega
 refine uF sd ?_
 simp only [w2, w3]
 refine uN sd (uN sd (uN zb (uN sd ?_)))
 simp only [zn]
 have htk : List.take ((dig a).length - M) ((dig a).drop M) = (dig a).drop M := zr zf
 simp only [htk]
 have htk2 : List.take (0 + ((dig a).drop M).length) (List.take 0 ([] : List Int) ++ (dig a).drop M) = (dig a).drop M := by rw [zp, List.take_zero, xb, zv]
 simp only [htk2]
 refine uN zg ?_
 have w4 : w64 ((M : Int) - 1) = (M : Int) - 1 := aaC zb
 refine uF (by rw [List.isEmpty_eq_false_iff]; intro e; have := congrArg List.length e; simp at this; omega) ?_
 refine uO ((M : Int) - 1, (dig a).drop M, List.replicate M 0, ()) ?_ ?_
 ·repeat refine za ?_
  rw [aaM, w4]
 -- the first two digits of the divisor
 have dB1 := aaU zb hdb (n + 1)
 have dB0 := aaU zb hdb n
 have hBtop : 1 ≤ (dig b).getD (n + 1) 0 := by
  have hc := aEb b
  unfold Cn at hc
  rw [xd, hnl, show n + 2 - 1 = n + 1 by omega, zx zb] at hc
  rw [ajR zb] at *
  rcases yi 0 (dig b)[n + 1] with h | h
  ·exact h
  ·exact absurd (by congr 1; omega) hc
 have htopV : V 10000 ((dig b).drop n) = (dig b).getD (n + 1) 0 * 10000 + (dig b).getD n 0 := by
  have e1 := aaJ 10000 (dig b) n
  have e2 := aaJ 10000 (dig b) (n + 1)
  have e3 := acJ 10000 (l := dig b) (k := n + 1 + 1) zb
  omega
 have htop2 := av6 hdb n
 rw [hVb] at htop2
 have hwtop : w64 (w64 (gi (dig b) ((n + 1 : Nat) : Int) 0 * 10000) + gi (dig b) (n : Int) 0) = (dig b).getD (n + 1) 0 * 10000 + (dig b).getD n 0 := by
  rw [aaQ, aaQ, aaC (x := (dig b).getD (n + 1) 0 * 10000) zb, aaC zb]
 have hwtop1 : w64 ((dig b).getD (n + 1) 0 * 10000 + (dig b).getD n 0 + 1) = (dig b).getD (n + 1) 0 * 10000 + (dig b).getD n 0 + 1 := aaC zb
 have htop3 : 10000 ≤ (dig b).getD (n + 1) 0 * 10000 + (dig b).getD n 0 ∧ (dig b).getD (n + 1) 0 * 10000 + (dig b).getD n 0 < 100000000 := zb
 rw [← htopV] at htop3
 have hP : (0 : Int) < 10000 ^ n := yG zb
 have hbt1 : V 10000 ((dig b).drop n) * 10000 ^ n ≤ (b : Int) := by
  rw [htop2]; exact Int.ediv_mul_le _ zb
 have hbt2 : (b : Int) < (V 10000 ((dig b).drop n) + 1) * 10000 ^ n := by
  rw [htop2]; exact Int.lt_ediv_add_one_mul_self _ hP
 rw [← htopV] at hwtop hwtop1
 generalize htv : V 10000 ((dig b).drop n) = top at *
 clear htopV htop2 dB1 dB0 hBtop htv
 have hR0 : V 10000 ((dig a).drop M) < (b : Int) := by
  have := aF6 zb (acB hda M)
  rw [yf, show (dig a).length - M = n + 1 by omega] at this
  have hb2 : ((10000 ^ (n + 1) : Nat) : Int) ≤ (b : Int) := Int.ofNat_le.2 bge
  rw [Int.natCast_pow] at hb2
  exact Int.lt_of_lt_of_le this hb2
 have hcR0 : Cn ((dig a).drop M) := by
  have hc := aEb a
  unfold Cn at hc ⊢
  rw [List.getLast?_drop, if_neg zb]
  exact hc
 refine aa2 (fun i : Int × List Int × List Int × Unit => ∃ (k : Nat) (R : Nat), k ≤ M ∧ i.1 = (k : Int) - 1 ∧ i.2.1 = dig R ∧ R < b ∧ i.2.2.1.length = M ∧ Dg 10000 i.2.2.1 ∧ V 10000 ((dig a).drop k) = V 10000 (i.2.2.1.drop k) * b + R) (fun i => (i.1 + 1).toNat) (fun _ => (dig (a / b), dig (a % b), ())) ?_ _ ?_
 case refine_2 =>
  obtain ⟨R, hR⟩ := zM (aaH zb (acB hda M))
  refine ⟨M, R, zj _, rfl, ax0 (acB hda M) hcR0 hR, by omega, by simp, agY zb _, ?_⟩
  rw [hR, acJ _ zf]; simp
 rintro ⟨i, r, q, u⟩ ⟨k, R, g1, g2, g3, g4, g5, g6, g7⟩
 dsimp only at g2 g3 g5 g6 g7
 subst g2 g3
 cases k with
 | zero =>
  right
  simp only [yz, hVa] at g7
  obtain ⟨v, hv⟩ := zM (aaH zb g6)
  rw [hv] at g7
  have h8 : a = v * b + R := by
   have : (a : Int) = ((v * b + R : Nat) : Int) := by simpa using g7
   exact Int.ofNat.inj this
  have h9 : a / b = v := by rw [h8, xj, xY _ _ zb, yW zb, zp]
  have h10 : a % b = R := by rw [h8, xj, xG, yo zb]
  simp only [alB, w1, w3, zn]
  refine uF sd (uC (dig v, ()) ?_ ?_)
  ·rw [zr zb]
   exact aeR g6 zb hv
  ·rw [aaM, h9, h10]
 | succ j =>
  left
  have e6 : ((j + 1 : Nat) : Int) - 1 = (j : Int) := zb
  rw [e6]
  have da := aaU zb hda j
  obtain ⟨d, hd⟩ := zM da.1
  have lR : (dig R).length ≤ n + 2 := by rw [← hnl]; exact abX zb
  -- the next rest
  obtain ⟨R', hR'⟩ : ∃ R', R' = d + 10000 * R := ⟨_, rfl⟩
  have hR'b : R' < b * 10000 := zb
  have hcut : abM ((dig a).getD j 0 :: dig R, ()) = some (dig R', ()) := by
   rw [hd]
   refine aeR (ayR ⟨by omega, by omega⟩ (adE R)) zg ?_
   simp only [V, ag5, hR']; simp
  have lR' : (dig R').length ≤ n + 3 := by
   rw [dig_length_le_iff]
   have := dig_length_le_iff.1 (xN hnl)
   rw [show n + 3 = (n + 2) + 1 by omega, yL]
   exact zZ hR'b (zC _ (Nat.le_of_lt this))
  have hdR := adE R'
  have hVR := ag5 R'
  -- its first three digits
  have hf := av6 hdR n
  rw [hVR] at hf
  have hf1 : V 10000 ((dig R').drop n) * 10000 ^ n ≤ (R' : Int) := by rw [hf]; exact Int.ediv_mul_le _ zb
  have hf2 : (R' : Int) < (V 10000 ((dig R').drop n) + 1) * 10000 ^ n := by rw [hf]; exact Int.lt_ediv_add_one_mul_self _ hP
  have hf0 := aaH zb (acB hdR n)
  obtain ⟨k1, k2, k3, k4, k5⟩ := aB8 hP zb htop3.1 hbt1 hbt2 hf1 hf2 zb zb hf0
  have hfirst : acD (fun i1 => (acZ (dig a) (dig b) ((j : Int), dig R, q, ()) (dig R', ()) i1).toO) (((n + 2 : Nat) : Int), 0, ()) = acD (fun i1 => (acZ (dig a) (dig b) ((j : Int), dig R, q, ()) (dig R', ()) i1).toO) ((n : Int) - 1, V 10000 ((dig R').drop n), ()) := by
   have st : ∀ (t : Nat) (v : Int), n ≤ t → t ≤ n + 2 → v = V 10000 ((dig R').drop (t + 1)) → (acZ (dig a) (dig b) ((j : Int), dig R, q, ()) (dig R', ()) ((t : Int), v, ())).toO = some (.inl ((t : Int) - 1, V 10000 ((dig R').drop t), ())) := by
    intro t v ht1 ht2 hv
    have e1 := aaJ 10000 (dig R') t
    have e2 := aaU zb hdR t
    have e3 := aaH zb (acB hdR (t + 1))
    have e4 : V 10000 ((dig R').drop (t + 1)) < 10000 ^ 2 := by
     have := aF6 zb (acB hdR (t + 1))
     have h7 : (10000 : Int) ^ ((dig R').drop (t + 1)).length ≤ 10000 ^ 2 := aCb zb (by rw [yf]; omega)
     omega
    subst hv
    simp only [acZ, w1, w2, aaQ]
    refine uT sd ?_
    by_cases ct : t < (dig R').length
    ·refine uT sd (uN sd ?_)
     repeat refine za ?_
     rw [aaM, aaC (x := (t : Int) - 1) zb, aaC (x := V 10000 ((dig R').drop (t + 1)) * 10000) zb, aaC zb, e1, Int.add_comm, xe]
    ·refine uF sd ?_
     repeat refine za ?_
     rw [aiK zb] at e1
     rw [aaM, aaC (x := (t : Int) - 1) zb, aaC zb, e1, wS, xe]
   have s1 := st (n + 2) 0 zb zb (by rw [acJ _ zb])
   rw [show (((n + 2 : Nat) : Int)) - 1 = ((n + 1 : Nat) : Int) by omega] at s1
   rw [afJ s1]
   have s2 := st (n + 1) _ zb zb rfl
   rw [show (((n + 1 : Nat) : Int)) - 1 = ((n : Nat) : Int) by omega] at s2
   rw [afJ s2]
   rw [afJ (st n _ zb zb rfl)]
  -- the search
  obtain ⟨Q, hQ⟩ : ∃ Q : Nat, Q = R' / b := ⟨_, rfl⟩
  have hQm := Nat.mod_add_div R' b
  have hQl := xl R' (show 0 < b by omega)
  rw [← hQ] at hQm
  have hQ4 : Q < 10000 := by
   rw [hQ, yQ zb, xv]; exact hR'b
  have hRQ : (R' : Int) = (Q : Int) * b + ((R' % b : Nat) : Int) := by
   have : (R' : Int) = ((R' % b + b * Q : Nat) : Int) := by rw [hQm]
   rw [this]; simp; rw [xe]; omega
  have res : acD (fun i1 => (acZ (dig a) (dig b) ((j : Int), dig R, q, ()) (dig R', ()) i1).toO) (((n + 2 : Nat) : Int), 0, ()) = some (Sum.inl ((j : Int) - 1, dig (R' % b), q.set j (Q : Int), ())) := by
   rw [hfirst]
   refine ahG ?_
   simp only [acZ, w1, w2, hwtop, hwtop1]
   refine uF sd (uN zb (uN zb ?_))
   have hd1 : Int.tdiv (V 10000 ((dig R').drop n)) top = V 10000 ((dig R').drop n) / top := zQ hf0
   have hd2 : Int.tdiv (V 10000 ((dig R').drop n)) (top + 1) = V 10000 ((dig R').drop n) / (top + 1) := zQ hf0
   simp only [hd1, hd2]
   have hn1 := xE hf0 (show 0 ≤ top by omega)
   have hlow : V 10000 ((dig R').drop n) / (top + 1) ≤ Q := by
    have : V 10000 ((dig R').drop n) / (top + 1) * b < ((Q : Int) + 1) * b := by
     rw [wo]; omega
    have := yc this zb
    omega
   have hhigh : (Q : Int) < V 10000 ((dig R').drop n) / top + 1 := by
    have : (Q : Int) * b < (V 10000 ((dig R').drop n) / top + 1) * b := zb
    exact yc this zb
   have wH : w64 (w64 (V 10000 ((dig R').drop n) / top) + 1) = V 10000 ((dig R').drop n) / top + 1 := by
    rw [aaC (x := V 10000 ((dig R').drop n) / top) zb, aaC zb]
   have wL : w64 (V 10000 ((dig R').drop n) / (top + 1)) = V 10000 ((dig R').drop n) / (top + 1) := aaC zb
   simp only [wH, wL]
   generalize V 10000 ((dig R').drop n) / top + 1 = H at *
   generalize V 10000 ((dig R').drop n) / (top + 1) = L at *
   refine uO (H, L, ()) (by repeat refine za ?_; rfl) ?_
   refine aa2 (fun i2 : Int × Int × Unit => 0 ≤ i2.2.1 ∧ i2.2.1 ≤ Q ∧ (Q : Int) < i2.1 ∧ i2.1 ≤ 10001) (fun i2 => (i2.1 - i2.2.1).toNat) (fun _ => (.inr (.inl ((j : Int) - 1, dig (R' % b), q.set j (Q : Int), ())) : (Int × Int × Unit) ⊕ ((Int × List Int × List Int × Unit) ⊕ (List Int × List Int × Unit)))) ?_ _ ⟨k4, hlow, hhigh, k3⟩
   rintro ⟨hi, lo, u3⟩ ⟨c1, c2, c3, c4⟩
   dsimp only at c1 c2 c3 c4
   have wd : w64 (hi - lo) = hi - lo := aaC zb
   simp only [arD, wd]
   by_cases hgap : hi - lo > 1
   ·left
    have wm : w64 (Int.tdiv (w64 (lo + hi)) 2) = (lo + hi) / 2 := by
     rw [aaC (x := lo + hi) zb, zQ zb, aaC zb]
    simp only [wm]
    obtain ⟨mm, hmm⟩ := zM (show 0 ≤ (lo + hi) / 2 by omega)
    rw [hmm]
    have hmB : mm ≤ 10000 ∧ 1 ≤ mm := zb
    have hprod : abF (dig b, [(mm : Int)], ()) = some (dig (b * mm), ()) := by
     refine apP hdb ?_ zb zf (by rw [hVb]; simp [V])
     by_cases cm : mm = 10000
     ·right; rw [cm]; rfl
     ·left; exact apR zb zb
    have lbm : (dig (b * mm)).length ≤ 1000000000000 := by
     have : (dig (b * mm)).length ≤ (dig b).length + 2 := by
      rw [dig_length_le_iff, Nat.pow_add]
      have q1 := dig_length_le_iff.1 (zj (dig b).length)
      exact Nat.mul_lt_mul'' q1 zb
     omega
    have hcutp : abM (dig (b * mm), ()) = some (dig (b * mm), ()) := aeR (adE _) lbm (ag5 _)
    obtain ⟨o1, o2⟩ := aDF (b * mm) R'
    have hle : aNf (dig (b * mm)) (dig R') ≤ 0 ↔ b * mm ≤ R' := zb
    have hmQ : b * mm ≤ R' ↔ mm ≤ Q := by
     rw [hQ, Nat.le_div_iff_mul_le zb, xv]
    by_cases cm : mm ≤ Q
    ·refine ⟨(hi, (mm : Int), ()), ?_, ⟨by dsimp only; omega, by dsimp only; omega, c3, c4⟩, by dsimp only; omega, ze⟩
     refine uT (zm hgap) (uV ?_)
     refine uC _ hprod (uC _ hcutp (uC _ (aoO _ _ (adE _) (adE _) lbm zb) (uT (zm (hle.2 (hmQ.2 cm))) ?_)))
     repeat refine za ?_
     rfl
    ·refine ⟨((mm : Int), lo, ()), ?_, ⟨c1, c2, by dsimp only; omega, by dsimp only; omega⟩, by dsimp only; omega, ze⟩
     refine uT (zm hgap) (uV ?_)
     refine uC _ hprod (uC _ hcutp (uC _ (aoO _ _ (adE _) (adE _) lbm zb) (uF (zk (fun h => cm (hmQ.1 (hle.1 h)))) ?_)))
     repeat refine za ?_
     rfl
   ·right
    have hlQ : lo = Q := zb
    subst hlQ
    refine uF (zk hgap) ?_
    simp only [w1, w3, zn]
    refine uN ⟨by omega, by omega⟩ ?_
    have hprod : abF (dig b, [(Q : Int)], ()) = some (dig (b * Q), ()) := apP hdb (Or.inl (apR zb zb)) zb zf (by rw [hVb]; simp [V])
    have hdiff : aaY (dig R', dig (b * Q), ()) = some (dig (R' % b), ()) := by
     have := aj2 (a := dig R') (b := dig (b * Q)) (n := R' % b) (adE _) (adE _) zb (abX zb) (by rw [ag5, ag5]; omega) (by rw [ag5, ag5]; omega)
     exact this
    refine uC _ hprod (uC _ hdiff ?_)
    repeat refine za ?_
    rw [aaM, aaC (x := (j : Int) - 1) zb, zp]
  refine ⟨((j : Int) - 1, dig (R' % b), q.set j (Q : Int), ()), ?_, ⟨j, R' % b, by omega, rfl, rfl, hQl, by simp; omega, ai4 g6 ⟨by omega, by omega⟩ _, ?_⟩, by dsimp only; omega, ze⟩
  ·simp only [alB, aaQ, w1]
   have htk3 : List.take (1 + (dig R).length) ([(dig a).getD j 0] ++ dig R) = (dig a).getD j 0 :: dig R := by
    rw [zr zg]; rfl
   simp only [htk3]
   have w5 : w64 (((n + 1 : Nat) : Int) + 1) = ((n + 2 : Nat) : Int) := by rw [aaC zb]; omega
   simp only [w5]
   refine uT sd (uN sd (uN zb ?_))
   by_cases eR : (dig R).isEmpty = true
   ·rw [List.isEmpty_iff.1 eR] at hcut
    refine uT eR (uC _ hcut (uO (((n + 2 : Nat) : Int), 0, ()) (by repeat refine za ?_; rfl) res))
   ·refine uF (by simpa using eR) (uC _ hcut (uO (((n + 2 : Nat) : Int), 0, ()) (by repeat refine za ?_; rfl) ?_))
    simp only [azI]
    exact res
  ·dsimp only
   rw [aaJ 10000 (dig a) j, hd, g7, aaJ 10000 (q.set j _) j, alO zb, af1 _ zb]
   have : (d : Int) + 10000 * (V 10000 (q.drop (j + 1)) * b + R) = 10000 * (V 10000 (q.drop (j + 1)) * b) + R' := by rw [hR']; simp; grind
   rw [this, hRQ]
   grind
theorem apG (n d : Int) (hd : d ≠ 0) : ∃ s : Int, s.natAbs = n.natAbs ∧ Rat.divInt n d = mkRat s d.natAbs ∧ s = (if d < 0 then -n else n) := by
 rcases yi d 0 with c | c
 ·refine ⟨-n, by omega, ?_, by rw [if_pos c]⟩
  rw [← Rat.neg_divInt_neg, ← wj]
  congr 1; omega
 ·refine ⟨n, rfl, ?_, by rw [if_neg zb]⟩
  rw [← wj]
  congr 1; omega
theorem aFQ {k : Nat} {n d : Int} (hd : d ≠ 0) (h1 : Bd k n.natAbs) (h2 : Bd k d.natAbs) : BdQ k (Rat.divInt n d) := by
 obtain ⟨s, e1, e2, -⟩ := apG n d hd
 obtain ⟨g, t, hg, g0, e0, f1, f2⟩ := afS s (d := d.natAbs) zb
 rw [e2]
 refine ⟨?_, ?_⟩
 ·rw [f1, ← afK e0 g0, e1]; exact ae8 _ h1
 ·rw [f2]; exact ae8 _ h2
theorem aDb {n d : Int} (h1 : Bd 6 n.natAbs) (h2 : Bd 6 d.natAbs) (h3 : d ≠ 0) : aiW (pl n, pl d, ()) = some (ra (Rat.divInt n d), ()) := aa0 (enc := fun x : Int × Int => (pl x.1, pl x.2, ())) (n, d) ⟨h1, h2, h3⟩ (fun b hb => amA hb)
theorem aCu {s : Int} {d : Nat} (hd : d ≠ 0) (h1 : Bd 6 s.natAbs) (h2 : Bd 6 d) : ∃ g : Nat, g = Nat.gcd s.natAbs d ∧ g ≠ 0 ∧ Bd 6 g ∧ s / (g : Int) = (mkRat s d).num ∧ (d : Int) / (g : Int) = ((mkRat s d).den : Int) := by
 obtain ⟨g, t, hg, g0, e0, f1, f2⟩ := afS s hd
 refine ⟨g, hg, g0, by rw [hg]; exact apM h1 h2, ?_, ?_⟩
 ·rw [f1, e0, Int.mul_ediv_cancel_left _ zb]
 ·rw [f2]; simp
theorem aw7 (x x' : PlT) (y) (h : aiW (x, x', ()) = some y) : (alA x x').toO = some y := by
 obtain ⟨⟨n, d⟩, hp, hx, rfl⟩ := aaP h
 obtain ⟨rfl, hx2⟩ := Prod.mk.inj hx; obtain ⟨rfl, -⟩ := Prod.mk.inj hx2; dsimp only
 obtain ⟨l1, l2, l3⟩ := hp
 dsimp only at l1 l2 l3
 obtain ⟨s, e1, e2, e3⟩ := apG n d l3
 obtain ⟨g, hg, g0, bg, q1, q2⟩ := aCu (s := s) (d := d.natAbs) zb (by rw [e1]; exact l1) l2
 rw [e2]
 unfold alA
 dsimp only
 have hgcd : Nat.gcd s.natAbs d.natAbs = g := hg.symm
 have g0' : (g : Int) ≠ 0 := zb
 by_cases c : d < 0
 ·rw [if_pos c] at e3
  subst e3
  refine uT (zm c) ?_
  refine uC _ (atS (acE l1 zb)) (uC _ (atS (acE l2 zb)) ?_)
  have hdv := apQ (a := -n) (b := -d) (ai3 (acE l1 zb)) (ai3 (acE l2 zb))
  rw [Int.natAbs_neg d, hgcd] at hdv
  refine uC _ hdv ?_
  refine uC _ (akP (b := (g : Int)) (ai3 l1) bg g0') ?_
  refine uC _ (akP (b := (g : Int)) (ai3 l2) bg g0') ?_
  rw [q1, show -d = (d.natAbs : Int) by omega, q2]; rfl
 ·rw [if_neg c] at e3
  subst e3
  refine uF (zk c) ?_
  have hdv := apQ (a := s) (b := d) (acE l1 zb) (acE l2 zb)
  rw [hgcd] at hdv
  refine uC _ hdv ?_
  refine uC _ (akP (b := (g : Int)) l1 bg g0') ?_
  refine uC _ (akP (b := (g : Int)) l2 bg g0') ?_
  rw [q1, show d = (d.natAbs : Int) by omega, xf, q2]; rfl
theorem aDW {n : Int} (h : ae4 n) : Bd 0 n.natAbs := aeP (by have := h.1; have := h.2; omega)
theorem aFX {n d : Int} (h1 : ae4 n) (h2 : ae4 d) (h3 : d ≠ 0) : akJ (n, d, ()) = some (ra (Rat.divInt n d), ()) := aa0 (enc := fun x : Int × Int => (x.1, x.2, ())) (n, d) ⟨h1, h2, h3⟩ (fun b hb => by
 obtain ⟨e1, e2⟩ := Prod.mk.inj hb
 obtain ⟨e2, -⟩ := Prod.mk.inj e2
 exact Prod.ext e1 e2)
theorem azF (n d : Int) (y) (h : akJ (n, d, ()) = some y) : (auW n d).toO = some y := by
 obtain ⟨⟨n', d'⟩, hp, hx, rfl⟩ := aaP h
 obtain ⟨rfl, hx2⟩ := Prod.mk.inj hx; obtain ⟨rfl, -⟩ := Prod.mk.inj hx2; dsimp only
 obtain ⟨l1, l2, l3⟩ := hp
 exact uC _ (ae2 l1) (uC _ (ae2 l2) (uC _ (aDb (acE (aDW l1) zb) (acE (aDW l2) zb) l3) rfl))
theorem aL8 {q : Rat} (h : BdQ 6 q) : aqH (ra q, ()) = some (wrF q) := aa0 (enc := fun x : Rat => (ra x, ())) q h (fun b hb => aPn (Prod.mk.inj hb).1)
theorem aEF (x : RaT) (y) (h : aqH (x, ()) = some y) : (aDy x).toO = some y := by
 obtain ⟨q, hp, hx, rfl⟩ := aaP h
 obtain ⟨rfl, -⟩ := Prod.mk.inj hx
 refine uC _ (ayQ hp.1) (uC _ (ayQ (z := (q.den : Int)) hp.2) ?_)
 by_cases c1 : Fit q.num
 ·rw [awH c1]
  by_cases c2 : Fit q.den
  ·rw [aBz ⟨c1, c2⟩, awH c2]
   refine uF rfl (uF rfl ?_)
   rw [aaM, aCT]
  ·rw [awJ (fun h => c2 h.2), awI c2]
   exact uF rfl (uT rfl rfl)
 ·rw [awI c1, awJ (fun h => c1 h.1)]
  exact uT rfl rfl
theorem aGD (n d : Int) (y) (h : atP (n, d, ()) = some y) : (aBY n d).toO = some y := by
 unfold atP ahY at h
 split at h
 case isFalse => cases h
 case isTrue hp =>
 obtain ⟨i1, i2⟩ := hp
 dsimp only at i1 i2 h
 unfold ofQ at h
 unfold aBY
 by_cases c : d = 0
 ·rw [if_pos c] at h
  exact uT (by rw [c]; rfl) h
 ·rw [if_neg c] at h
  refine uF (by simpa using c) (uC _ (aFX i1 i2 c) (uC _ (aL8 (aFQ c (acE (aDW i1) zb) (acE (aDW i2) zb))) h))
noncomputable def aQS (off : Int) (y : Rat) : Option Rat := (aQ6 (y + mkRat off 1000000)).map aQu
abbrev PtT := List UInt8 × List Int × List Int × Unit
abbrev p0 : PtT := ([], [], List.replicate 3 0, ())
abbrev DrT := Int × List (List Int) × Unit
abbrev TwT := DrT × Int × List (List Int) × Int × Int × Unit
def nmC (c : UInt8) : Bool := decide (65 ≤ c.toNat ∧ c.toNat ≤ 90 ∨ 97 ≤ c.toNat ∧ c.toNat ≤ 122 ∨ 48 ≤ c.toNat ∧ c.toNat ≤ 57 ∨ c.toNat = 45 ∨ c.toNat = 95)
def nmB (s : List UInt8) : Bool := decide (1 ≤ s.length ∧ s.length ≤ 12) && s.all nmC
def dvB (v : Int) : Bool := decide (0 ≤ v ∧ v ≤ 10000)
abbrev l3 (l : List Int) : List Int := [List.headD l 0, List.headD (List.tail l) 0, List.headD (List.tail (List.tail l)) 0]
def lb (p : PtT) (k : Nat) : Int := (l3 p.2.2.1).getD k 0
def lbB (p : PtT) : Bool := decide (0 ≤ lb p 0 ∧ lb p 0 ≤ 10000 ∧ -12800 ≤ lb p 1 ∧ lb p 1 ≤ 12700 ∧ -12800 ≤ lb p 2 ∧ lb p 2 ≤ 12700)
def ptB (p : PtT) (n : Nat) : Bool := nmB p.1 && decide (p.2.1.length = n) && p.2.1.all dvB && lbB p
def d0 (l : List PtT) : Nat := (l.getD 0 p0).2.1.length
def ah0 (l : List PtT) : Bool := decide (1 ≤ l.length ∧ l.length ≤ 40 ∧ 1 ≤ d0 l ∧ d0 l ≤ 4) && l.all (ptB · (d0 l)) && decide (l.map (·.1)).Nodup
def ag8 (l : List PtT) : Prop := l.length ≤ 1000000 ∧ ∀ p ∈ l, p.1.length ≤ 1000000 ∧ p.2.1.length ≤ 1000000 ∧ p.2.2.1.length = 3
instance (l : List PtT) : Decidable (ag8 l) := inferInstanceAs (Decidable (_ ∧ _))
def shP (p : PtT) : Prop := p.1.length ≤ 1000000 ∧ p.2.1.length ≤ 1000000 ∧ p.2.2.1.length = 3
instance (p : PtT) : Decidable (shP p) := inferInstanceAs (Decidable (_ ∧ _))
def aCC (s : List UInt8) (l : List PtT) : Option Nat := (List.range l.length).find? fun k => decide (s = (l.getD k p0).1)
def prK (a b : List PtT) (n : Nat) : List (Nat × Nat) := (List.range n).filterMap fun i => (aCC (a.getD i p0).1 b).map fun k => (i, k)
def prs (a b : List PtT) : List (Nat × Nat) := prK a b a.length
def ai5 (x : Nat × Nat) : List Int := [(x.1 : Int), (x.2 : Int)]
def adB (x : List UInt8 × Unit) : Option (Bool × Unit) := if x.1.length ≤ 1000000 then some (nmB x.1, ()) else none
def aeJ (x : List UInt8 × Unit) : Option (Bool × Unit) := adB x
def akM (x : PtT × Unit) : Option (Bool × Unit) := if shP x.1 then some (decide (1 ≤ x.1.2.1.length ∧ x.1.2.1.length ≤ 4) && ptB x.1 x.1.2.1.length, ()) else none
def am4 (x : PtT × Int × Unit) : Option (Bool × Unit) := if shP x.1 ∧ 0 ≤ x.2.1 then some (ptB x.1 x.2.1.toNat, ()) else none
def ahT (x : List PtT × Unit) : Option (Int × Unit) := if ag8 x.1 then some (if ah0 x.1 then 0 else 310, ()) else none
def af7 (x : List PtT × Unit) : Option (Bool × Unit) := if ag8 x.1 then some (ah0 x.1, ()) else none
def ae1 (x : List PtT × List PtT × Unit) : Option (Bool × Unit) := if ag8 x.1 ∧ ag8 x.2.1 then some (!(ah0 x.1 && ah0 x.2.1), ()) else none
def aeL (x : List PtT × List PtT × Unit) : Option (List (List Int) × Int × Unit) := if ag8 x.1 ∧ ag8 x.2.1 then some (if ah0 x.1 && ah0 x.2.1 then ((prs x.1 x.2.1).map ai5, 0, ()) else ([], 310, ())) else none
def af6 (x : List PtT × List PtT × Unit) : Option (List (List Int) × Int × Unit) := aeL x
noncomputable def aoM (x : List (List Int) × List (List Int) × Unit) : Option (Bool × Unit) := if x.1.length ≤ 1000000 ∧ x.2.1.length ≤ 1000000 ∧ (∀ p ∈ x.1, p.length = 2) ∧ (∀ p ∈ x.2.1, p.length = 2) then some (eqb x.1 x.2.1, ()) else none
def aeU (l : List Int) : Nat → Int × Nat
 | 0 => (0, 0)
 | k + 1 => if k = 0 ∨ (aeU l k).1 < l.getD k 0 then (l.getD k 0, k) else aeU l k
def ai6 (l : List Int) : Int × Nat := aeU l l.length
def afE (x : List Int × Unit) : Option (Int × Int × Unit) := if x.1.length ≤ 1000000 then some ((ai6 x.1).1, ((ai6 x.1).2 : Int), ()) else none
def agX (x : Int × Int × Unit) : Option (FxT × Unit) := if ae4 x.1 ∧ 0 < x.2.1 ∧ ae4 x.2.1 then some (fx (mkRat x.1 x.2.1.toNat), ()) else none
abbrev ShT := Int × List FxT × FxT × FxT × Int × Unit
def zF : FxT := ([], [], ())
def zSh : ShT := (0, [zF, zF, zF], zF, zF, 0, ())
def dif (a b : List PtT) (x : Nat × Nat) (k : Nat) : Int := lb (b.getD x.2 p0) k - lb (a.getD x.1 p0) k
def sq (a b : List PtT) (x : Nat × Nat) : Int := dif a b x 0 * dif a b x 0 + dif a b x 1 * dif a b x 1 + dif a b x 2 * dif a b x 2
def aeD (f : Nat → Int) : Nat → Int
 | 0 => 0
 | k + 1 => aeD f k + f k
def ae7 (a b : List PtT) (c k : Nat) : Int := dif a b ((prs a b).getD k (0, 0)) c
def sqs (a b : List PtT) : List Int := (prs a b).map (sq a b)
def apF (a b : List PtT) : ShT := let n := (prs a b).length; let q := ai6 (sqs a b)
 (n, [fx (mkRat (aeD (ae7 a b 0) n) (100 * n)), fx (mkRat (aeD (ae7 a b 1) n) (100 * n)), fx (mkRat (aeD (ae7 a b 2) n) (100 * n))],
  fx (mkRat (aeD (fun k => (sqs a b).getD k 0) n) (10000 * n)), fx (mkRat q.1 10000), (((prs a b).getD q.2 (0, 0)).1 : Int), ())
def afL (x : List PtT × List PtT × Unit) : Option (ShT × Int × Unit) := if ag8 x.1 ∧ ag8 x.2.1 then some (if ah0 x.1 && ah0 x.2.1 then (if prs x.1 x.2.1 = [] then (zSh, 4, ()) else (apF x.1 x.2.1, 0, ())) else (zSh, 310, ())) else none
def aiV (x : List PtT × List PtT × Unit) : Option (ShT × Int × Unit) := afL x
def aBk (_ : Unit) : Option (Bool × Unit) := some (true, ())
def aiZ (_ : TwT × DrT × Unit) : Option (Bool × Unit) := some (true, ())
open Go Go.Vg Go.Proofs
theorem aEV : (aNx .unit (.pair .bool .unit) aBk).ok Tryz.prog Gt 4 := by
 refine aCZ (by kernel_rfl) (fun w ok vs x y hG hok hvs hy => ?_)
 have hy' : y = (true, ()) := (Option.some.inj hy).symm
 subst hy'
 exact Go.Vg.top_at.2 w ok vs x hG.1 hok hvs rfl
end Go.Vs
