/-
  Trees of what the functions compute, and their laws. Own work; no condition.
-/
import Derived.Test.YtakjojajnblpoaaGreatDoorClL6
import Derived.Test.YtakjojajnblpoaaGreatDoorProg
set_option linter.unusedVariables false
set_option linter.unusedSimpArgs false
namespace Go.Vs
open Go Go.Vg
theorem anK : ∀ (l : List aeX) (last : Int), ag3 last l → ∀ j, j < l.length → last < (l.getD j zs).1 ∧ (j + 1 < l.length → (l.getD j zs).1 < (l.getD (j + 1) zs).1)
 | [], _, _, j, hj => by cases hj
 | s :: r, last, h, 0, _ => by
  refine ⟨by have := h.1.2.1; show last < s.1; omega, fun h2 => ?_⟩
  have := (anK r s.1 h.2 0 (by simpa using h2)).1
  exact this
 | s :: r, last, h, j + 1, hj => by
  have := anK r s.1 h.2 j (by simpa using hj)
  refine ⟨by have := h.1.2.1; have := this; show last < (r.getD j zs).1; omega, fun h2 => this.2 (by simpa using h2)⟩
theorem aPD {l : List aeX} (h : ad0 l) {i j : Nat} (hij : i < j) (hj : j < l.length) : (l.getD i zs).1 < (l.getD j zs).1 := by
 induction j with
 | zero => omega
 | succ j ih =>
  have h1 := (anK l 0 h.2.2 j (by omega)).2 hj
  rcases Nat.lt_or_ge i j with g | g
  ·have := ih g (by omega); omega
  ·obtain rfl : i = j := by omega
   exact h1
theorem aq9 {n : Int} {l : List aeX} (h : ad0 l) (hn : inU n) : aa7 n l < l.length ∧ n ≤ (l.getD (aa7 n l) zs).1 * 1000000 ∧ ∀ j, j < aa7 n l → ¬ n ≤ (l.getD j zs).1 * 1000000 := by
 have h1 : aa7 n l < l.length := by
  obtain ⟨s, hs, e⟩ := anL l 0 h.2.2 (by omega)
  exact List.findIdx_lt_length_of_exists ⟨s, hs, decide_eq_true (by rw [e]; exact hn.2)⟩
 refine ⟨h1, ?_, fun j hj => ?_⟩
 ·have := List.findIdx_getElem (p := fun s : aeX => decide (n ≤ s.1 * 1000000)) (xs := l) (w := h1)
  rw [arM h1]
  exact of_decide_eq_true this
 ·have := List.not_of_lt_findIdx (p := fun s : aeX => decide (n ≤ s.1 * 1000000)) (xs := l) hj
  rw [arM (show j < l.length by omega)]
  simpa using this
theorem amB {n : Int} {l : List aeX} (h : ad0 l) (hn : inU n) {k : Nat} (hk : k < l.length) : n ≤ (l.getD k zs).1 * 1000000 ↔ aa7 n l ≤ k := by
 obtain ⟨h1, h2, h3⟩ := aq9 h hn
 constructor
 ·intro g
  rcases Nat.lt_or_ge k (aa7 n l) with c | c
  ·exact absurd g (h3 k c)
  ·exact c
 ·intro g
  rcases Nat.lt_or_ge (aa7 n l) k with c | c
  ·have := aPD h c hk; omega
  ·obtain rfl : aa7 n l = k := by omega
   exact h2
theorem akE {n : Int} {l : List aeX} (h : ad0 l) (hn : inU n) {k : Nat} (hk0 : k ≠ 0) (hk : k < l.length) : n ≤ ab8 l k * 1000000 ↔ aa7 n l < k := by
 unfold ab8
 rw [if_neg hk0, amB h hn (show k - 1 < l.length by omega)]
 omega
theorem aJz {l : List aeX} (h : ad0 l) {k : Nat} (hk : k ≤ l.length) : inR (ab8 l k) 0 1000000 := by
 unfold ab8
 split
 ·exact ⟨by omega, by omega⟩
 ·exact (aAS h (show k - 1 < l.length by omega)).2
theorem aNP {s : aeX} {a b : Int} (h : (ayC s a b).2.1 = 0) : okB (ayC s a b).1.1 (ayC s a b).1.2.1 := by
 unfold ayC at *
 generalize aJW (ayB s a b) s.2.2.2.1 s.2.2.2.2.1 = w at *
 by_cases c1 : w.2.1 = 0
 case neg => rw [if_pos c1] at h; exact absurd h c1
 rw [if_neg (fun h => h c1)] at h ⊢
 have hok := @aHt w.1 (s.2.2.2.2.2.1 * 1000000, s.2.2.2.2.2.1 * 1000000, ())
 generalize aM6 w.1 (s.2.2.2.2.2.1 * 1000000, s.2.2.2.2.2.1 * 1000000, ()) = z at *
 by_cases c2 : z.2.1 = 0
 case neg => rw [if_pos c2] at h; exact absurd h c2
 rw [if_neg (fun h => h c2)]
 obtain ⟨o1, o2, o3⟩ := hok c2
 unfold aqS okB
 dsimp only
 omega
theorem aGx {p : PcT} {lo hi : Int} (h1 : ao2 p.1) (h2 : inU lo) (h3 : inU hi) : adP (p, lo, hi, ()) = some (ayC p.1 lo hi) := by
 unfold adP; exact if_pos ⟨h1, h2, h3⟩
theorem alP (l : List aeX) (lo hi : Int) (n k : Nat) (acc : List BdT) : ar5 l lo hi (n + 1) k acc = if (aCi l lo hi k).2.1 ≠ 0 then ((0, 0, ()), (aCi l lo hi k).2.1, ()) else ar5 l lo hi n (k + 1) (acc ++ [(aCi l lo hi k).1]) := rfl
theorem apU (c : CvT × Unit) (x : BdT) (y) (h : ac5 (c, x, ()) = some y) : (agN c x).toO = some y := by
 unfold ac5 at h
 split at h
 case isFalse => cases h
 case isTrue hp =>
 obtain ⟨hl, hlo, hhi, hle⟩ := hp
 dsimp only at hl hlo hhi hle h
 injection h with h
 subst h
 obtain ⟨⟨kind, tab, l, u0⟩, u1⟩ := c
 obtain ⟨lo, hi, u2⟩ := x
 dsimp only at hl hlo hhi hle ⊢
 have hlen := hl.2.1
 obtain ⟨pf1, pf2, pf3⟩ := aq9 hl hlo
 obtain ⟨pl1, pl2, pl3⟩ := aq9 hl hhi
 have hfl : aa7 lo l ≤ aa7 hi l := (amB hl hlo pl1).1 (by omega)
 have hlo1 := hlo.1
 have hlo2 := hlo.2
 have hhi1 := hhi.1
 have hhi2 := hhi.2
 unfold agN
 refine uO (0, 0, true, [], ()) rfl ?_
 refine aaN (fun i : Int × Int × Bool × List BdT × Unit => ∃ (k : Nat) (acc : List BdT), k ≤ l.length ∧ i = ((k : Int), ab8 l k, acc.isEmpty, acc, ()) ∧ (k ≤ aa7 lo l → acc = []) ∧ (aa7 lo l < k → acc ≠ []) ∧ acc.length ≤ k ∧ (∀ b ∈ acc, okB b.1 b.2.1) ∧ atH l lo hi = ar5 l lo hi (aa7 hi l + 1 - max k (aa7 lo l)) (max k (aa7 lo l)) acc) (fun i => ((l.length : Int) - i.1).toNat) (fun _ => atH l lo hi) ?_ _ ⟨0, [], by omega, rfl, fun _ => rfl, fun h => by omega, by simp, by simp, by unfold atH; rw [show max 0 (aa7 lo l) = aa7 lo l by omega]⟩
 rintro i ⟨k, acc, k1, rfl, k2, k3, k4, k5, k6⟩
 simp only [ai5, ad6, ad7, aaM]
 rcases Nat.lt_or_ge k l.length with hk | hk
 ·obtain ⟨hn, ht1, ht2⟩ := aAS hl hk
  obtain ⟨hb1, hb2⟩ := aJz hl k1
  have hb3 : ab8 l (k + 1) = (l.getD k zs).1 := by unfold ab8; rw [if_neg (by omega), Nat.add_sub_cancel]
  have hpf := amB hl hlo hk
  have hpl := amB hl hhi hk
  have wb : w64 (ab8 l k * 1000000) = ab8 l k * 1000000 := aaA (by omega)
  have wt : w64 ((l.getD k zs).1 * 1000000) = (l.getD k zs).1 * 1000000 := aaA (by omega)
  have wk : w64 ((k : Int) + 1) = ((k + 1 : Nat) : Int) := by rw [aaA (by omega)]; omega
  have e1 : (if ab8 l k * 1000000 > lo then ab8 l k * 1000000 else lo) = max lo (ab8 l k * 1000000) := by split <;> omega
  have e2 : (if (l.getD k zs).1 * 1000000 < hi then (l.getD k zs).1 * 1000000 else hi) = min hi ((l.getD k zs).1 * 1000000) := by split <;> omega
  have hcall : ∀ b : Bool, adP ((l.getD k zs, ab8 l k, b, ()), (if ab8 l k * 1000000 > lo then ab8 l k * 1000000 else lo), (if (l.getD k zs).1 * 1000000 < hi then (l.getD k zs).1 * 1000000 else hi), ()) = some (aCi l lo hi k) := by
   intro b
   rw [e1, e2]
   exact aGx (p := (l.getD k zs, ab8 l k, b, ())) hn ⟨by omega, by omega⟩ ⟨by omega, by omega⟩
  have hok : (aCi l lo hi k).2.1 = 0 → okB (aCi l lo hi k).1.1 (aCi l lo hi k).1.2.1 := aNP
  rw [wb, wt, wk]
  by_cases ha : acc = []
  ·subst ha
   have hkf : k ≤ aa7 lo l := by
    rcases Nat.lt_or_ge (aa7 lo l) k with g | g
    ·exact absurd rfl (k3 g)
    ·exact g
   refine (fun (hskip : k < aa7 lo l → ((l.getD k zs).1 * 1000000 < lo)) (hcallc : ¬ k < aa7 lo l → ¬ (l.getD k zs).1 * 1000000 < lo) => ?_) (fun g => by omega) (fun g => by omega)
   rw [show max k (aa7 lo l) = aa7 lo l by omega] at k6
   by_cases hkf2 : k < aa7 lo l
   ·left
    refine ⟨(((k + 1 : Nat) : Int), (l.getD k zs).1, true, [], ()), ?_, ⟨k + 1, [], by omega, by rw [hb3]; rfl, fun _ => rfl, fun g => by omega, by simp, by simp, by rw [show max (k + 1) (aa7 lo l) = aa7 lo l by omega]; exact k6⟩, by dsimp only; omega, (by first | exact True.intro | rfl)⟩
    refine uT rfl (uT (decide_eq_true (by rw [aaC]; omega)) (uN ⟨by omega, by rw [aaC]; omega⟩ ?_))
    by_cases h0 : k = 0
    ·exact uF (by rw [h0]; rfl) (uT (decide_eq_true (hskip hkf2)) rfl)
    ·have hbl := akE hl hhi h0 hk
     exact uT (by rw [Bool.not_eq_true', beq_eq_false_iff_ne]; omega) (uF sd (uT (decide_eq_true (hskip hkf2)) rfl))
   ·obtain rfl : k = aa7 lo l := by omega
    obtain ⟨m, hm⟩ : ∃ m, aa7 hi l + 1 - aa7 lo l = m + 1 := ⟨aa7 hi l - aa7 lo l, by omega⟩
    rw [hm, alP] at k6
    by_cases he : (aCi l lo hi (aa7 lo l)).2.1 = 0
    ·rw [if_neg (fun h => h he)] at k6
     left
     refine ⟨(((aa7 lo l + 1 : Nat) : Int), (l.getD (aa7 lo l) zs).1, false, [(aCi l lo hi (aa7 lo l)).1], ()), ?_, ⟨aa7 lo l + 1, [(aCi l lo hi (aa7 lo l)).1], by omega, by rw [hb3]; rfl, fun g => by omega, fun _ => by simp, by simp, fun b hb => by rw [List.mem_singleton.1 hb]; exact hok he, by rw [show max (aa7 lo l + 1) (aa7 lo l) = aa7 lo l + 1 by omega, show aa7 hi l + 1 - (aa7 lo l + 1) = m by omega]; exact k6⟩, by dsimp only; omega, (by first | exact True.intro | rfl)⟩
     refine uT rfl (uT (decide_eq_true (by rw [aaC]; omega)) (uN ⟨by omega, by rw [aaC]; omega⟩ ?_))
     by_cases h0 : aa7 lo l = 0
     ·exact uF (by rw [h0]; rfl) (uF (decide_eq_false (hcallc hkf2)) (uC _ (hcall _) (uF (by rw [he]; rfl) (uN (by decide) rfl))))
     ·have hbl := akE hl hhi h0 hk
      exact uT (by rw [Bool.not_eq_true', beq_eq_false_iff_ne]; omega) (uF sd (uF (decide_eq_false (hcallc hkf2)) (uC _ (hcall _) (uF (by rw [he]; rfl) (uN (by decide) rfl)))))
    ·rw [if_pos he] at k6
     right
     rw [k6]
     refine uT rfl (uT (decide_eq_true (by rw [aaC]; omega)) (uN ⟨by omega, by rw [aaC]; omega⟩ ?_))
     by_cases h0 : aa7 lo l = 0
     ·exact uF (by rw [h0]; rfl) (uF (decide_eq_false (hcallc hkf2)) (uC _ (hcall _) (uT (by simpa using he) rfl)))
     ·have hbl := akE hl hhi h0 hk
      exact uT (by rw [Bool.not_eq_true', beq_eq_false_iff_ne]; omega) (uF sd (uF (decide_eq_false (hcallc hkf2)) (uC _ (hcall _) (uT (by simpa using he) rfl))))
  ·have hkf : aa7 lo l < k := by
    rcases Nat.lt_or_ge (aa7 lo l) k with g | g
    ·exact g
    ·exact absurd (k2 g) ha
   have hne : acc.isEmpty = false := by cases acc with | nil => exact absurd rfl ha | cons a b => rfl
   rw [show max k (aa7 lo l) = k by omega] at k6
   have h0 : k ≠ 0 := by omega
   have hbl := akE hl hhi h0 hk
   by_cases hla : aa7 hi l < k
   ·left
    refine ⟨(((k + 1 : Nat) : Int), (l.getD k zs).1, acc.isEmpty, acc, ()), ?_, ⟨k + 1, acc, by omega, by rw [hb3], fun g => by omega, fun _ => ha, by omega, k5, by rw [k6, show max (k + 1) (aa7 lo l) = k + 1 by omega, show aa7 hi l + 1 - k = 0 by omega, show aa7 hi l + 1 - (k + 1) = 0 by omega]; rfl⟩, by dsimp only; omega, (by first | exact True.intro | rfl)⟩
    rw [hne]
    exact uF rfl (uT (decide_eq_true (by rw [aaC]; omega)) (uN ⟨by omega, by rw [aaC]; omega⟩ (uT (by rw [Bool.not_eq_true', beq_eq_false_iff_ne]; omega) (uT sd rfl))))
   ·obtain ⟨m, hm⟩ : ∃ m, aa7 hi l + 1 - k = m + 1 := ⟨aa7 hi l - k, by omega⟩
    rw [hm, alP] at k6
    by_cases he : (aCi l lo hi k).2.1 = 0
    ·rw [if_neg (fun h => h he)] at k6
     left
     refine ⟨(((k + 1 : Nat) : Int), (l.getD k zs).1, false, acc ++ [(aCi l lo hi k).1], ()), ?_, ⟨k + 1, acc ++ [(aCi l lo hi k).1], by omega, by rw [hb3]; simp, fun g => by omega, fun _ => by simp, by simp; omega, fun b hb => ?_, by rw [show max (k + 1) (aa7 lo l) = k + 1 by omega, show aa7 hi l + 1 - (k + 1) = m by omega]; exact k6⟩, by dsimp only; omega, (by first | exact True.intro | rfl)⟩
     ·rw [hne]
      refine uF rfl (uT (decide_eq_true (by rw [aaC]; omega)) (uN ⟨by omega, by rw [aaC]; omega⟩ (uT (by rw [Bool.not_eq_true', beq_eq_false_iff_ne]; omega) (uF sd (uF sd (uC _ (hcall _) (uF (by rw [he]; rfl) (uN (by omega) ?_))))))))
      refine uB (uB (uB (uN (by simp) ?_)))
      rw [List.take_length]; rfl
     ·rcases List.mem_append.1 hb with g | g
      ·exact k5 b g
      ·rw [List.mem_singleton.1 g]; exact hok he
    ·rw [if_pos he] at k6
     right
     rw [k6, hne]
     exact uF rfl (uT (decide_eq_true (by rw [aaC]; omega)) (uN ⟨by omega, by rw [aaC]; omega⟩ (uT (by rw [Bool.not_eq_true', beq_eq_false_iff_ne]; omega) (uF sd (uF sd (uC _ (hcall _) (uT (by simpa using he) rfl)))))))
 ·right
  have ha : acc ≠ [] := k3 (by omega)
  have hne : acc.isEmpty = false := by cases acc with | nil => exact absurd rfl ha | cons a b => rfl
  rw [hne, k6, show aa7 hi l + 1 - max k (aa7 lo l) = 0 by omega]
  refine uF rfl (uF (decide_eq_false (by rw [aaC]; omega)) (uC (ayI acc, 0, ()) ?_ rfl))
  rw [List.take_length]
  unfold aiB
  exact if_pos ⟨ha, by dsimp only; omega, k5⟩
set_option maxRecDepth 100000
open Go Go.Vg Go.Proofs
noncomputable section
def aMO : LTab := []
def aw3 (c : Int × List Int × List (Int × Int × Int × Int × Int × Int × Unit) × Unit) (x : Int × Int × Unit) : TT ((Int × Int × Unit) × Int × Unit) :=
 .call (afG ((c.1, c.2.1, c.2.2.1, ()), ())) Dd6 fun y =>
 .ite (y.1 != 0)
 (.ok (((0, 0, ()), y.1, ())))
 (.call (ajN ((x.1, x.2.1, ()), 0, 1000000000000, ())) atZ fun y1 =>
 .ite (y1.2.1 != 0)
 (.ok (((0, 0, ()), y1.2.1, ())))
 (.need (inb (w64 (c.1 - 1)) (↑3 : Int)) <| .ite (w64 (c.1 - 1) == (↑2 : Int))
 (.call (ac5 (((c.1, c.2.1, c.2.2.1, ()), ()), (y1.1.1, y1.1.2.1, ()), ())) atZ fun y2 =>
 .ok (((y2.1.1, y2.1.2.1, ()), y2.2.1, ())))
 (.ite (w64 (c.1 - 1) == (↑1 : Int))
 (.call (aeF (((c.1, c.2.1, c.2.2.1, ()), ()), (y1.1.1, y1.1.2.1, ()), ())) atZ fun y3 =>
 .ok (((y3.1.1, y3.1.2.1, ()), y3.2.1, ())))
 (.ite (w64 (c.1 - 1) == (↑0 : Int))
 (.call (af0 (((c.1, c.2.1, c.2.2.1, ()), ()), (y1.1.1, y1.1.2.1, ()), ())) atZ fun y4 =>
 .ok (((y4.1.1, y4.1.2.1, ()), y4.2.1, ())))
 (.bad)))))
def ayO : LTab := [(57, 58, 11265, { tag := 0, ι := (Int) × Bool × (List (List UInt8 × List UInt8 × Unit)) × Unit, vs := .dat (.s 19) (Ty.int IntKind.i64) <| .appN (.s 6) 11 36 (Ty.pair Ty.str (Ty.pair Ty.str Ty.unit)) <| .nil, ks := [18, 4, 3, 2], kh := [2, 1, 0], fresh := 1 }), (57, 250, 24577, { tag := 1, ι := (Int) × Bool × (List (List UInt8 × List UInt8 × Unit)) × Unit, vs := .dat (.s 47) (Ty.int IntKind.i64) <| .appN (.s 6) 24 36 (Ty.pair Ty.str (Ty.pair Ty.str Ty.unit)) <| .nil, ks := [46, 45, 11, 4, 3], kh := [2, 1, 0], fresh := 1 }), (57, 250, 24576, { tag := 2, ι := (Int) × (List (List UInt8 × List UInt8 × Unit)) × Unit, vs := .dat (.s 47) (Ty.int IntKind.i64) <| .app (.s 6) 24 36 (Ty.pair Ty.str (Ty.pair Ty.str Ty.unit)) <| .nil, ks := [46, 45, 11, 4, 3], kh := [2, 1, 0], fresh := 1 })]
def awT (c : (Int × List Int × List (Int × Int × Int × Int × Int × Int × Unit) × Unit) × Unit) (x : Int × Int × Unit) (i : Int × Bool × List (List UInt8 × List UInt8 × Unit) × Unit) (i1 : (Int) × Bool × (List (List UInt8 × List UInt8 × Unit)) × Unit) : TT (((Int) × Bool × (List (List UInt8 × List UInt8 × Unit)) × Unit) ⊕ (((Int) × Bool × (List (List UInt8 × List UInt8 × Unit)) × Unit) ⊕ ((Int × Int × Unit) × Int × Unit))) :=
 .ite (i1.2.1)
 (.ite (decide (i1.1 < len c.1.2.1))
 (.need (inb i1.1 (len c.1.2.1)) <| .call (acV (w64 (i1.1 * 1000000000000), w64 (x.1 * w64 (len c.1.2.1 - 1)), w64 (x.2.1 * w64 (len c.1.2.1 - 1)), ())) Dd1 fun y2 =>
 .ite (y2.1)
 (.call (abY (gi c.1.2.1 i1.1 0, 65535, ())) aeY fun y3 =>
 .need (1 * 32 ≤ 140737488355328) <| .tt <| .lt (w64 (i1.1 + 1) : Int) fun z2 => .lt ([(y3.1.1, y3.1.2.1, ())] : List (List UInt8 × List UInt8 × Unit)) fun z3 => .triv ((Qq 24 ∧ Qq 0 ∧ Qq 1 ∧ Qq true) ∧ Qq z2 ∧ Qq (len c.1.2.1) ∧ Qq c.1.2.1 ∧ Qq (w64 (len c.1.2.1 - 1)) ∧ (Qq 2 ∧ Qq 0 ∧ Qq true) ∧ (Qq 1 ∧ Qq 0 ∧ Qq true) ∧ True) tv <| .triv ((Qq (36 : TypeId) ∧ Qq z3) ∧ Qq true ∧ (Qq (53 : TypeId) ∧ Qq (0 : Int) ∧ Qq (0 : Int) ∧ True) ∧ Qq true ∧ (Qq (53 : TypeId) ∧ Qq x.1 ∧ Qq x.2.1 ∧ True) ∧ Qq true ∧ (Qq (96 : TypeId) ∧ Qq c.1.1 ∧ Qq c.1.2.1 ∧ Qq c.1.2.2.1 ∧ True) ∧ Qq true ∧ True) tv <| .ok (.inl ((z2, false, z3, ()))))
 (.tt <| .lt (w64 (i1.1 + 1) : Int) fun z4 => .triv (True ∧ Qq z4 ∧ Qq (len c.1.2.1) ∧ Qq c.1.2.1 ∧ Qq (w64 (len c.1.2.1 - 1)) ∧ (Qq 2 ∧ Qq 0 ∧ Qq true) ∧ (Qq 1 ∧ Qq 0 ∧ Qq true) ∧ True) tv <| .triv ((Qq (53 : TypeId) ∧ Qq (0 : Int) ∧ Qq (0 : Int) ∧ True) ∧ Qq true ∧ (Qq (53 : TypeId) ∧ Qq x.1 ∧ Qq x.2.1 ∧ True) ∧ Qq true ∧ (Qq (96 : TypeId) ∧ Qq c.1.1 ∧ Qq c.1.2.1 ∧ Qq c.1.2.2.1 ∧ True) ∧ Qq true ∧ True) tv <| .ok (.inl ((z4, true, [], ())))))
 (.call (aeV ([], ())) atZ fun y4 =>
 .ok (.inr (.inr (((y4.1.1, y4.1.2.1, ()), y4.2.1, ()))))))
 (.ite (decide (i1.1 < len c.1.2.1))
 (.need (inb i1.1 (len c.1.2.1)) <| .call (acV (w64 (i1.1 * 1000000000000), w64 (x.1 * w64 (len c.1.2.1 - 1)), w64 (x.2.1 * w64 (len c.1.2.1 - 1)), ())) Dd1 fun y5 =>
 .ite (y5.1)
 (.call (abY (gi c.1.2.1 i1.1 0, 65535, ())) aeY fun y6 =>
 .need ((List.length i1.2.2.1 + 1) * 32 ≤ 140737488355328) <| .tt <| .lt (w64 (i1.1 + 1) : Int) fun z5 => .lt (List.take (List.length i1.2.2.1) i1.2.2.1 ++ [(y6.1.1, y6.1.2.1, ())] : List (List UInt8 × List UInt8 × Unit)) fun z6 => .need ((((24) = (24)) ∧ (((0) = (0)) ∧ ((List.length i1.2.2.1 + 1 = List.length z6) ∧ ((true) = (true))))) ∧ ((z5 : Int) = z5) ∧ ((len c.1.2.1 : Int) = len c.1.2.1) ∧ ((c.1.2.1 : List Int) = c.1.2.1) ∧ ((w64 (len c.1.2.1 - 1) : Int) = w64 (len c.1.2.1 - 1)) ∧ (((2) = (2)) ∧ (((0) = (0)) ∧ ((true) = (true)))) ∧ (((1) = (1)) ∧ (((0) = (0)) ∧ ((true) = (true)))) ∧ True) <| .triv ((Qq (36 : TypeId) ∧ Qq z6) ∧ Qq true ∧ (Qq (53 : TypeId) ∧ Qq (0 : Int) ∧ Qq (0 : Int) ∧ True) ∧ Qq true ∧ (Qq (53 : TypeId) ∧ Qq x.1 ∧ Qq x.2.1 ∧ True) ∧ Qq true ∧ (Qq (96 : TypeId) ∧ Qq c.1.1 ∧ Qq c.1.2.1 ∧ Qq c.1.2.2.1 ∧ True) ∧ Qq true ∧ True) tv <| .ok (.inl ((z5, false, z6, ()))))
 (.tt <| .lt (w64 (i1.1 + 1) : Int) fun z7 => .lt (i1.2.2.1 : List (List UInt8 × List UInt8 × Unit)) fun z8 => .triv ((Qq 24 ∧ Qq 0 ∧ Qq (List.length z8) ∧ Qq true) ∧ Qq z7 ∧ Qq (len c.1.2.1) ∧ Qq c.1.2.1 ∧ Qq (w64 (len c.1.2.1 - 1)) ∧ (Qq 2 ∧ Qq 0 ∧ Qq true) ∧ (Qq 1 ∧ Qq 0 ∧ Qq true) ∧ True) tv <| .triv ((Qq (36 : TypeId) ∧ Qq z8) ∧ Qq true ∧ (Qq (53 : TypeId) ∧ Qq (0 : Int) ∧ Qq (0 : Int) ∧ True) ∧ Qq true ∧ (Qq (53 : TypeId) ∧ Qq x.1 ∧ Qq x.2.1 ∧ True) ∧ Qq true ∧ (Qq (96 : TypeId) ∧ Qq c.1.1 ∧ Qq c.1.2.1 ∧ Qq c.1.2.2.1 ∧ True) ∧ Qq true ∧ True) tv <| .ok (.inl ((z7, false, z8, ())))))
 (.call (aeV (List.take (List.length i1.2.2.1) i1.2.2.1, ())) atZ fun y7 =>
 .ok (.inr (.inr (((y7.1.1, y7.1.2.1, ()), y7.2.1, ()))))))
def ahJ (c : (Int × List Int × List (Int × Int × Int × Int × Int × Int × Unit) × Unit) × Unit) (x : Int × Int × Unit) (i : Int × Bool × List (List UInt8 × List UInt8 × Unit) × Unit) (i2 : (Int) × (List (List UInt8 × List UInt8 × Unit)) × Unit) : TT (((Int) × (List (List UInt8 × List UInt8 × Unit)) × Unit) ⊕ (((Int) × Bool × (List (List UInt8 × List UInt8 × Unit)) × Unit) ⊕ ((Int × Int × Unit) × Int × Unit))) :=
 .ite (decide (i2.1 < len c.1.2.1))
 (.need (inb i2.1 (len c.1.2.1)) <| .call (acV (w64 (i2.1 * 1000000000000), w64 (x.1 * w64 (len c.1.2.1 - 1)), w64 (x.2.1 * w64 (len c.1.2.1 - 1)), ())) Dd1 fun y10 =>
 .ite (y10.1)
 (.call (abY (gi c.1.2.1 i2.1 0, 65535, ())) aeY fun y11 =>
 .need ((List.length i2.2.1 + 1) * 32 ≤ 140737488355328) <| .tt <| .lt (w64 (i2.1 + 1) : Int) fun z12 => .lt (List.take (List.length i2.2.1) i2.2.1 ++ [(y11.1.1, y11.1.2.1, ())] : List (List UInt8 × List UInt8 × Unit)) fun z13 => .need ((((24) = (24)) ∧ (((0) = (0)) ∧ ((List.length i2.2.1 + 1 = List.length z13) ∧ ((true) = (true))))) ∧ ((z12 : Int) = z12) ∧ ((len c.1.2.1 : Int) = len c.1.2.1) ∧ ((c.1.2.1 : List Int) = c.1.2.1) ∧ ((w64 (len c.1.2.1 - 1) : Int) = w64 (len c.1.2.1 - 1)) ∧ (((2) = (2)) ∧ (((0) = (0)) ∧ ((true) = (true)))) ∧ (((1) = (1)) ∧ (((0) = (0)) ∧ ((true) = (true)))) ∧ True) <| .triv ((Qq (36 : TypeId) ∧ Qq z13) ∧ Qq true ∧ (Qq (53 : TypeId) ∧ Qq (0 : Int) ∧ Qq (0 : Int) ∧ True) ∧ Qq true ∧ (Qq (53 : TypeId) ∧ Qq x.1 ∧ Qq x.2.1 ∧ True) ∧ Qq true ∧ (Qq (96 : TypeId) ∧ Qq c.1.1 ∧ Qq c.1.2.1 ∧ Qq c.1.2.2.1 ∧ True) ∧ Qq true ∧ True) tv <| .ok (.inl ((z12, z13, ()))))
 (.tt <| .lt (w64 (i2.1 + 1) : Int) fun z14 => .lt (i2.2.1 : List (List UInt8 × List UInt8 × Unit)) fun z15 => .triv ((Qq 24 ∧ Qq 0 ∧ Qq (List.length z15) ∧ Qq true) ∧ Qq z14 ∧ Qq (len c.1.2.1) ∧ Qq c.1.2.1 ∧ Qq (w64 (len c.1.2.1 - 1)) ∧ (Qq 2 ∧ Qq 0 ∧ Qq true) ∧ (Qq 1 ∧ Qq 0 ∧ Qq true) ∧ True) tv <| .triv ((Qq (36 : TypeId) ∧ Qq z15) ∧ Qq true ∧ (Qq (53 : TypeId) ∧ Qq (0 : Int) ∧ Qq (0 : Int) ∧ True) ∧ Qq true ∧ (Qq (53 : TypeId) ∧ Qq x.1 ∧ Qq x.2.1 ∧ True) ∧ Qq true ∧ (Qq (96 : TypeId) ∧ Qq c.1.1 ∧ Qq c.1.2.1 ∧ Qq c.1.2.2.1 ∧ True) ∧ Qq true ∧ True) tv <| .ok (.inl ((z14, z15, ())))))
 (.call (aeV (List.take (List.length i2.2.1) i2.2.1, ())) atZ fun y12 =>
 .ok (.inr (.inr (((y12.1.1, y12.1.2.1, ()), y12.2.1, ())))))
def awU (c : (Int × List Int × List (Int × Int × Int × Int × Int × Int × Unit) × Unit) × Unit) (x : Int × Int × Unit) (i : (Int) × Bool × (List (List UInt8 × List UInt8 × Unit)) × Unit) : TT (((Int) × Bool × (List (List UInt8 × List UInt8 × Unit)) × Unit) ⊕ ((Int × Int × Unit) × Int × Unit)) :=
 .ite (i.2.1)
 (.ite (decide (i.1 < 2))
 (.need (inb i.1 (↑2 : Int)) <| .call (abY (gi [x.1, x.2.1] i.1 0, 1000000000000, ())) aeY fun y =>
 .call (afZ (((c.1.1, c.1.2.1, c.1.2.2.1, ()), ()), y.1, ())) afI fun y1 =>
 .ite (y1.2.1 != 0)
 (.ok (.inr (((0, 0, ()), y1.2.1, ()))))
 (.need (1 * 32 ≤ 140737488355328) <| .tt <| .lt (w64 (i.1 + 1) : Int) fun z => .lt ([(y1.1.1, y1.1.2.1, ())] : List (List UInt8 × List UInt8 × Unit)) fun z1 => .triv ((Qq 11 ∧ Qq 0 ∧ Qq 1 ∧ Qq true) ∧ Qq z ∧ Qq ([x.1, x.2.1] : List Int) ∧ (Qq 2 ∧ Qq 0 ∧ Qq true) ∧ (Qq 1 ∧ Qq 0 ∧ Qq true) ∧ (Qq 0 ∧ Qq 0 ∧ Qq true) ∧ True) tv <| .triv ((Qq (36 : TypeId) ∧ Qq z1) ∧ Qq true ∧ (Qq (53 : TypeId) ∧ Qq (0 : Int) ∧ Qq (0 : Int) ∧ True) ∧ Qq true ∧ (Qq (53 : TypeId) ∧ Qq x.1 ∧ Qq x.2.1 ∧ True) ∧ Qq true ∧ (Qq (96 : TypeId) ∧ Qq c.1.1 ∧ Qq c.1.2.1 ∧ Qq c.1.2.2.1 ∧ True) ∧ Qq true ∧ True) tv <| .ok (.inl ((z, false, z1, ())))))
 (.loop 1 (.tt <| .triv (True ∧ Qq (0 : Int) ∧ Qq (len c.1.2.1) ∧ Qq c.1.2.1 ∧ Qq (w64 (len c.1.2.1 - 1)) ∧ (Qq 2 ∧ Qq 0 ∧ Qq true) ∧ (Qq 1 ∧ Qq 0 ∧ Qq true) ∧ True) tv <| .triv ((Qq (53 : TypeId) ∧ Qq (0 : Int) ∧ Qq (0 : Int) ∧ True) ∧ Qq true ∧ (Qq (53 : TypeId) ∧ Qq x.1 ∧ Qq x.2.1 ∧ True) ∧ Qq true ∧ (Qq (96 : TypeId) ∧ Qq c.1.1 ∧ Qq c.1.2.1 ∧ Qq c.1.2.2.1 ∧ True) ∧ Qq true ∧ True) tv <| .ok ((0, true, [], ()))) (awT c x i)))
 (.ite (decide (i.1 < 2))
 (.need (inb i.1 (↑2 : Int)) <| .call (abY (gi [x.1, x.2.1] i.1 0, 1000000000000, ())) aeY fun y8 =>
 .call (afZ (((c.1.1, c.1.2.1, c.1.2.2.1, ()), ()), y8.1, ())) afI fun y9 =>
 .ite (y9.2.1 != 0)
 (.ok (.inr (((0, 0, ()), y9.2.1, ()))))
 (.need ((List.length i.2.2.1 + 1) * 32 ≤ 140737488355328) <| .tt <| .lt (w64 (i.1 + 1) : Int) fun z9 => .lt (List.take (List.length i.2.2.1) i.2.2.1 ++ [(y9.1.1, y9.1.2.1, ())] : List (List UInt8 × List UInt8 × Unit)) fun z10 => .need ((((11) = (11)) ∧ (((0) = (0)) ∧ ((List.length i.2.2.1 + 1 = List.length z10) ∧ ((true) = (true))))) ∧ ((z9 : Int) = z9) ∧ (([x.1, x.2.1] : List Int) = [x.1, x.2.1]) ∧ (((2) = (2)) ∧ (((0) = (0)) ∧ ((true) = (true)))) ∧ (((1) = (1)) ∧ (((0) = (0)) ∧ ((true) = (true)))) ∧ (((0) = (0)) ∧ (((0) = (0)) ∧ ((true) = (true)))) ∧ True) <| .triv ((Qq (36 : TypeId) ∧ Qq z10) ∧ Qq true ∧ (Qq (53 : TypeId) ∧ Qq (0 : Int) ∧ Qq (0 : Int) ∧ True) ∧ Qq true ∧ (Qq (53 : TypeId) ∧ Qq x.1 ∧ Qq x.2.1 ∧ True) ∧ Qq true ∧ (Qq (96 : TypeId) ∧ Qq c.1.1 ∧ Qq c.1.2.1 ∧ Qq c.1.2.2.1 ∧ True) ∧ Qq true ∧ True) tv <| .ok (.inl ((z9, false, z10, ())))))
 (.loop 2 (.tt <| .lt (i.2.2.1 : List (List UInt8 × List UInt8 × Unit)) fun z11 => .triv ((Qq 24 ∧ Qq 0 ∧ Qq (List.length z11) ∧ Qq true) ∧ Qq (0 : Int) ∧ Qq (len c.1.2.1) ∧ Qq c.1.2.1 ∧ Qq (w64 (len c.1.2.1 - 1)) ∧ (Qq 2 ∧ Qq 0 ∧ Qq true) ∧ (Qq 1 ∧ Qq 0 ∧ Qq true) ∧ True) tv <| .triv ((Qq (36 : TypeId) ∧ Qq z11) ∧ Qq true ∧ (Qq (53 : TypeId) ∧ Qq (0 : Int) ∧ Qq (0 : Int) ∧ True) ∧ Qq true ∧ (Qq (53 : TypeId) ∧ Qq x.1 ∧ Qq x.2.1 ∧ True) ∧ Qq true ∧ (Qq (96 : TypeId) ∧ Qq c.1.1 ∧ Qq c.1.2.1 ∧ Qq c.1.2.2.1 ∧ True) ∧ Qq true ∧ True) tv <| .ok ((0, z11, ()))) (ahJ c x i)))
def aiN (c : (Int × List Int × List (Int × Int × Int × Int × Int × Int × Unit) × Unit) × Unit) (x : Int × Int × Unit) : TT ((Int × Int × Unit) × Int × Unit) :=
 .loop 0 (.tt <| .triv (True ∧ Qq (0 : Int) ∧ Qq ([x.1, x.2.1] : List Int) ∧ (Qq 2 ∧ Qq 0 ∧ Qq true) ∧ (Qq 1 ∧ Qq 0 ∧ Qq true) ∧ (Qq 0 ∧ Qq 0 ∧ Qq true) ∧ True) tv <| .triv ((Qq (53 : TypeId) ∧ Qq (0 : Int) ∧ Qq (0 : Int) ∧ True) ∧ Qq true ∧ (Qq (53 : TypeId) ∧ Qq x.1 ∧ Qq x.2.1 ∧ True) ∧ Qq true ∧ (Qq (96 : TypeId) ∧ Qq c.1.1 ∧ Qq c.1.2.1 ∧ Qq c.1.2.2.1 ∧ True) ∧ Qq true ∧ True) tv <| .ok ((0, true, [], ()))) (awU c x)
end
theorem adT {l : List Int} (ht : ad9 l) {n : Int} (hn : inU n) :
  aNm l (mkRat n 1000000000000) = some (mkRat (akW l n) 65535000000000000) ∧ adE (mkRat (akW l n) 65535000000000000) ∧ 0 ≤ akW l n ∧ akW l n ≤ 65535000000000000 := by
 have hl1 := ht.1
 have hl2 := ht.2.1
 obtain ⟨n1, n2⟩ := hn
 obtain ⟨P, hP⟩ : ∃ P, P = n * ((l.length - 1 : Nat) : Int) := ⟨_, rfl⟩
 have hP0 : 0 ≤ P := by rw [hP]; exact Int.mul_nonneg n1 (by omega)
 have hP1 : P ≤ 1000000000000 * ((l.length - 1 : Nat) : Int) := by rw [hP]; exact Int.mul_le_mul_of_nonneg_right n2 (by omega)
 obtain ⟨i, hi⟩ : ∃ i, i = aCW l n := ⟨_, rfl⟩
 have hi' : i = min (P / 1000000000000).toNat (l.length - 2) := by rw [hi, hP]; rfl
 have hi2 : i ≤ l.length - 2 := by omega
 obtain ⟨A, hA⟩ : ∃ A, A = P - (i : Int) * 1000000000000 := ⟨_, rfl⟩
 have hA0 : 0 ≤ A := by omega
 have hA1 : A ≤ 1000000000000 := by omega
 obtain ⟨v1, v2⟩ := ajQ ht (show i < l.length by omega)
 obtain ⟨w1, w2⟩ := ajQ ht (show i + 1 < l.length by omega)
 have hM : akW l n = l.getD i 0 * 1000000000000 + A * (l.getD (i + 1) 0 - l.getD i 0) := by unfold akW; rw [← hi, ← hP, ← hA]
 have hpl : aiW l (mkRat P 1000000000000) = i := by
  unfold aiW
  rw [Rat.floor_def, show (mkRat P 1000000000000).num / (mkRat P 1000000000000).den = fl (mkRat P 1000000000000) from rfl, apG _ (by omega), hi']
  rfl
 obtain ⟨v, hv⟩ : ∃ v, v = l.getD i 0 := ⟨_, rfl⟩
 obtain ⟨w, hw⟩ : ∃ w, w = l.getD (i + 1) 0 := ⟨_, rfl⟩
 rw [← hv] at v1 v2 hM
 rw [← hw] at w1 w2 hM
 have q1 : 0 ≤ v * (1000000000000 - A) := Int.mul_nonneg v1 (by omega)
 have q2 : 0 ≤ w * A := Int.mul_nonneg w1 hA0
 have q3 : 0 ≤ (65535 - v) * (1000000000000 - A) := Int.mul_nonneg (by omega) (by omega)
 have q4 : 0 ≤ (65535 - w) * A := Int.mul_nonneg (by omega) hA0
 have eM : akW l n = v * (1000000000000 - A) + w * A := by rw [hM]; grind
 have hM0 : 0 ≤ akW l n := by omega
 have hM1 : akW l n ≤ 65535000000000000 := by
  have : (65535 - v) * (1000000000000 - A) + (65535 - w) * A = 65535000000000000 - (v * (1000000000000 - A) + w * A) := by grind
  omega
 have hAd : A * (w - v) = w * A - v * A := by grind
 have r1 : 0 ≤ v * A := Int.mul_nonneg v1 hA0
 have r2 : v * A ≤ 65535 * A := Int.mul_le_mul_of_nonneg_right v2 hA0
 have r3 : w * A ≤ 65535 * A := Int.mul_le_mul_of_nonneg_right w2 hA0
 have f1 : adE (mkRat P 1000000000000) := ad3 (by omega) (afK (by omega) (by omega)) (afK (by omega) (by omega))
 have f2 : adE (mkRat A 1000000000000) := ad3 (by omega) (afK (by omega) (by omega)) (afK (by omega) (by omega))
 have f3 : adE (mkRat (A * (w - v)) 1000000000000) := ad3 (by omega) (afK (by omega) (by omega)) (afK (by omega) (by omega))
 have f4 : adE (mkRat (akW l n) 1000000000000) := ad3 (by omega) (afK (by omega) (by omega)) (afK (by omega) (by omega))
 have f5 : adE (mkRat (akW l n) 65535000000000000) := ad3 (by omega) (afK (by omega) (by omega)) (afK (by omega) (by omega))
 refine ⟨?_, f5, hM0, hM1⟩
 unfold aNm
 rw [Rat.mkRat_mul_mkRat, ← hP, Nat.mul_one]
 unfold acG
 rw [if_pos f1]
 simp only [Option.bind_some]
 rw [hpl, ← hv, ← hw]
 have g2 : mkRat P 1000000000000 - mkRat (i : Int) 1 = mkRat A 1000000000000 := by
  rw [Rat.sub_eq_add_neg, Rat.neg_mkRat, Rat.mkRat_add_mkRat _ _ (by omega) (by omega), Nat.mul_one, hA]
  congr 1; omega
 rw [g2, if_pos f2]
 simp only [Option.bind_some]
 rw [Rat.mkRat_mul_mkRat, Nat.mul_one, if_pos f3]
 simp only [Option.bind_some]
 have g4 : mkRat v 1 + mkRat (A * (w - v)) 1000000000000 = mkRat (akW l n) 1000000000000 := by
  rw [Rat.mkRat_add_mkRat _ _ (by omega) (by omega), Nat.one_mul, hM]
  congr 1; omega
 rw [g4, if_pos f4]
 simp only [Option.bind_some]
 have g5 : mkRat (akW l n) 1000000000000 / mkRat 65535 1 = mkRat (akW l n) 65535000000000000 := by
  have hm : mkRat (akW l n) 1000000000000 = mkRat (akW l n) 65535000000000000 * mkRat 65535 1 := by
   rw [Rat.mkRat_mul_mkRat, Rat.mkRat_eq_iff (by omega) (by omega)]; omega
  rw [hm, Rat.div_def, Rat.mul_assoc, Rat.mul_inv_cancel _ (aG7 (by omega)), Rat.mul_one]
 rw [g5, if_pos f5]
theorem aiS {m : Int} (h0 : 0 ≤ m) (h1 : m ≤ 65535000000000000) : agB (mkRat m 65535000000000000) (mkRat m 65535000000000000) = (aQK m, 0, ()) := by
 rw [aAI _ (by omega)]
 have e1 : m * 1000000000000 / ((65535000000000000 : Nat) : Int) = m / 65535 := by omega
 have e2 : -(m * 1000000000000) / ((65535000000000000 : Nat) : Int) = -m / 65535 := by omega
 rw [e1, e2]
 unfold mkB aQK
 rw [if_pos ⟨by omega, by omega, by omega⟩]
theorem aNz {b : BdT} (h : okB b.1 b.2.1) : inU (aqS b).1 ∧ inU (aqS b).2.1 ∧ (aqS b).1 ≤ (aqS b).2.1 := by
 obtain ⟨h1, h2, h3⟩ := h
 unfold aqS inU inR
 dsimp only
 omega
theorem aoB (c : CvT × Unit) (x : BdT) (y) (h : af0 (c, x, ()) = some y) : (ai4 c x).toO = some y := h
theorem aGj (c : CvT) (x : BdT) (y) (h : agM (c, x, ()) = some y) : (aw3 c x).toO = some y := by
 injection h with h
 subst h
 obtain ⟨kind, tab, l, u0⟩ := c
 obtain ⟨blo, bhi, u1⟩ := x
 unfold aw3
 dsimp only
 refine uC _ (aqO (kind, tab, l, ())) ?_
 by_cases hr : acD (kind, tab, l, ())
 case neg =>
  have hr' : ¬ acD (kind, tab, l, u0) := hr
  rw [if_neg hr', if_neg hr]
  exact uT rfl rfl
 have hr' : acD (kind, tab, l, u0) := hr
 rw [if_pos hr', if_pos hr]
 refine uF rfl ?_
 by_cases hb : okB blo bhi
 case neg =>
  rw [if_neg hb]
  refine uC ((0, 0, ()), 30, ()) (by unfold ajN aAh; dsimp only; rw [if_neg hb]) ?_
  exact uT rfl rfl
 rw [if_pos hb]
 refine uC (aqS (blo, bhi, u1), 0, ()) (by unfold ajN; exact congrArg some (awO (b := (blo, bhi, u1)) hb)) (uF rfl ?_)
 obtain ⟨g1, g2, g3⟩ := aNz (b := (blo, bhi, u1)) hb
 generalize aqS (blo, bhi, u1) = z at g1 g2 g3 ⊢
 unfold aHs
 dsimp only
 rcases hr with ⟨k1, k2, k3⟩ | ⟨k1, k2, k3⟩ | ⟨k1, k2, k3⟩
 ·dsimp only at k1; subst k1
  exact uN ⟨by decide, by decide⟩ (uF rfl (uF rfl (uT rfl (uC (z, 0, ()) rfl rfl))))
 ·dsimp only at k1; subst k1
  exact uN ⟨by decide, by decide⟩ (uF rfl (uT rfl (uC (apX tab z.1 z.2.1, 0, ()) (by unfold aeF; exact if_pos ⟨k2, g1, g2, g3⟩) rfl)))
 ·dsimp only at k1; subst k1
  exact uN ⟨by decide, by decide⟩ (uT rfl (uC (atH l z.1 z.2.1) (by unfold ac5; exact if_pos ⟨k3, g1, g2, g3⟩) rfl))
theorem aMS {k : Nat} {n : Int} {d : Nat} (hd : d ≠ 0) (h1 : Bd k n.natAbs) (h2 : Bd k d) : BdQ k (mkRat n d) := by
 obtain ⟨g, t, hg, g0, e0, f1, f2⟩ := aeK n hd
 refine ⟨?_, ?_⟩
 ·rw [f1, ← acS e0 g0]; exact aaS _ h1
 ·rw [f2]; exact aaS _ h2
theorem aRs {n : Int} (h : aa9 n) : BdQ 0 (mkRat n 1000000000000) := aMS (by omega) (aDv h) (aaG (by omega))
theorem aP7 (n : Int) : mkRat n 1000000000000 * akU = (n : Rat) := ao6 n (by omega)
theorem aCZ : (0 : Rat) < akU := by unfold akU; decide
theorem aEJ (n : Int) (q : Rat) : mkRat n 1000000000000 ≤ q ↔ (n : Rat) ≤ q * akU := by
 rw [← aP7 n]
 constructor
 ·intro h; exact Rat.mul_le_mul_of_nonneg_right h (Rat.le_of_lt aCZ)
 ·intro h; exact Rat.le_of_mul_le_mul_right h aCZ
theorem aKt {a b : Rat} (h0 : 0 ≤ a) (h : a ≤ b) : ∀ n : Nat, a ^ n ≤ b ^ n
 | 0 => by rw [Rat.pow_zero, Rat.pow_zero]; exact Rat.le_refl
 | n + 1 => by
  rw [Rat.pow_succ, Rat.pow_succ]
  have h1 := Rat.mul_le_mul_of_nonneg_right (aKt h0 h n) h0
  have h2 : (0 : Rat) ≤ b ^ n := Rat.pow_nonneg (Rat.le_trans h0 h)
  have h3 := Rat.mul_le_mul_of_nonneg_left h h2
  exact Rat.le_trans h1 h3
theorem aHU (m : Int) : mkRat m 1000000000000 * akU = (m : Rat) := by
 rw [aG0, Rat.mkRat_mul_mkRat, Nat.mul_one, ← aeA, Rat.mkRat_eq_iff (by omega) (by omega)]; omega
theorem aAH (n m : Int) : mkRat n 1000000000000 ≤ mkRat m 1000000000000 ↔ n ≤ m := by
 rw [aEJ, aHU]; exact Rat.intCast_le_intCast
theorem aPC (n m : Int) : mkRat n 1000000000000 < mkRat m 1000000000000 ↔ n < m := by
 rw [← Rat.not_le, aAH]; omega
theorem aIM (t : Int) : mkRat t 1000000 = mkRat (t * 1000000) 1000000000000 := by
 rw [Rat.mkRat_eq_iff (by omega) (by omega)]; omega
theorem aq8 (n : Int) (l : List aeX) : ae2 (mkRat n 1000000000000) l = aa7 n l := by
 unfold ae2 aa7
 congr 1
 funext s
 rw [aIM, decide_eq_decide]
 exact aAH _ _
theorem aGB : mkRat 1000000000000 1000000000000 = (1 : Rat) := by decide
theorem auP {n : Int} (h : inU n) : mkRat n 1000000000000 ≤ 1 := by
 rw [← aGB, aAH]; exact h.2
theorem avT {n X : Int} {d : Nat} (hd : d ≠ 0) : ((n : Int) : Rat) ≤ mkRat X d ↔ n * d ≤ X := by
 rw [← ai2, apG _ hd, Int.le_ediv_iff_mul_le (by omega)]
theorem aDl {n X : Int} {d : Nat} (hd : d ≠ 0) : mkRat X d ≤ ((n : Int) : Rat) ↔ X ≤ n * d := by
 rw [← Rat.neg_le_neg_iff, Rat.neg_mkRat, ← Rat.intCast_neg, avT hd, Int.neg_mul]; omega
theorem an9 {n : Int} (h : inU n) : ab7 (mkRat n 1000000000000) = mkRat n 1000000000000 := by
 have h0 : ¬ mkRat n 1000000000000 < 0 := by
  have : (0 : Rat) = mkRat 0 1000000000000 := by decide
  rw [this, aPC]; have := h.1; omega
 have h1 : ¬ mkRat n 1000000000000 > 1 := Rat.not_lt.2 (auP h)
 unfold ab7
 rw [if_neg h0, if_neg h1]
theorem aCt (v : Int) : mkRat v 65535 = mkRat (v * 1000000000000) 65535000000000000 := by
 rw [Rat.mkRat_eq_iff (by omega) (by omega)]; omega
def aoO (l : List Int) (lo hi : Int) (k : Nat) : List Rat := mkRat (akW l lo) 65535000000000000 :: mkRat (akW l hi) 65535000000000000 :: ((List.range k).filter (aFE l lo hi)).map (fun j => mkRat (l.getD j 0) 65535)
theorem aHY (l : List Int) (lo hi : Int) (k : Nat) : aoO l lo hi (k + 1) = if aFE l lo hi k then aoO l lo hi k ++ [mkRat (l.getD k 0) 65535] else aoO l lo hi k := by
 unfold aoO
 rw [List.range_succ, List.filter_append, List.map_append]
 cases h : aFE l lo hi k
 ·simp [List.filter, h]
 ·simp [List.filter, h]
theorem aKh (l : List Int) (lo hi : Int) (k : Nat) : (aoO l lo hi k).length ≤ k + 2 := by
 unfold aoO
 have := List.length_filter_le (aFE l lo hi) (List.range k)
 simp only [List.length_cons, List.length_map, List.length_range] at *
 omega
theorem aKi {l : List Int} (ht : ad9 l) {lo hi : Int} (h1 : inU lo) (h2 : inU hi) {k : Nat} (hk : k ≤ l.length) : ∀ q ∈ aoO l lo hi k, adE q ∧ (agB q q).2.1 = 0 := by
 intro q hq
 obtain ⟨-, a2, a3, a4⟩ := adT ht h1
 obtain ⟨-, b2, b3, b4⟩ := adT ht h2
 rcases List.mem_cons.1 hq with g | g
 ·subst g; exact ⟨a2, by rw [aiS a3 a4]⟩
 rcases List.mem_cons.1 g with g | g
 ·subst g; exact ⟨b2, by rw [aiS b3 b4]⟩
 obtain ⟨j, hj, rfl⟩ := List.mem_map.1 g
 have hj2 : j < k := List.mem_range.1 (List.mem_filter.1 hj).1
 obtain ⟨v1, v2⟩ := ajQ ht (show j < l.length by omega)
 rw [aCt]
 refine ⟨ad3 (by omega) (afK (by omega) (by omega)) (afK (by omega) (by omega)), ?_⟩
 rw [aiS (by omega) (by omega)]
theorem aEK {l : List Int} (ht : ad9 l) {lo hi : Int} (h1 : inU lo) (h2 : inU hi) {k : Nat} (hk : k ≤ l.length) : (aoO l lo hi k).map (fun q => (agB q q).1) = aPE l lo hi k := by
 obtain ⟨-, a2, a3, a4⟩ := adT ht h1
 obtain ⟨-, b2, b3, b4⟩ := adT ht h2
 unfold aoO aPE
 rw [List.map_cons, List.map_cons, List.map_map, aiS a3 a4, aiS b3 b4]
 congr 2
 refine List.map_congr_left (fun j hj => ?_)
 have hj2 : j < k := List.mem_range.1 (List.mem_filter.1 hj).1
 obtain ⟨v1, v2⟩ := ajQ ht (show j < l.length by omega)
 show (agB (mkRat (l.getD j 0) 65535) (mkRat (l.getD j 0) 65535)).1 = _
 rw [aCt, aiS (by omega) (by omega)]
theorem aJU {r : List Rat} (h1 : r ≠ []) (h2 : r.length ≤ 1000000) (h3 : ∀ q ∈ r, adE q ∧ (agB q q).2.1 = 0) : aeV (r.map (fun q => fx q), ()) = some (ayI (r.map fun q => (agB q q).1), 0, ()) :=
 aaI (enc := fun l : List Rat => (l.map (fun q => fx q), ())) r ⟨h1, h2, h3⟩ (fun b hb => List.map_inj_right (fun a b hab => ai1 hab) |>.1 (Prod.mk.inj hb).1)
theorem aoA (c : CvT × Unit) (x : BdT) (i : Int × Bool × List FxT × Unit) (l : List Int) (hc : c.1.2.1 = l) (ht : ad9 l) (hlo : inU x.1) (hhi : inU x.2.1) :
  ac1 (fun i2 => (ahJ c x i i2).toO) (0, (aoO l x.1 x.2.1 0).map (fun q => fx q), ()) = some (.inr (apX l x.1 x.2.1, 0, ())) := by
 obtain ⟨lo, hi, u⟩ := x
 dsimp only at hlo hhi ⊢
 have hl1 := ht.1
 have hl2 := ht.2.1
 have w1 : w64 (len l - 1) = ((l.length - 1 : Nat) : Int) := by rw [aaC, aaA (by omega)]; omega
 have hw : ∀ n : Int, inU n → w64 (n * ((l.length - 1 : Nat) : Int)) = n * ((l.length - 1 : Nat) : Int) := by
  intro n hn
  have a1 : 0 ≤ n * ((l.length - 1 : Nat) : Int) := Int.mul_nonneg hn.1 (by omega)
  have a2 : n * ((l.length - 1 : Nat) : Int) ≤ 1000000000000 * ((l.length - 1 : Nat) : Int) := Int.mul_le_mul_of_nonneg_right hn.2 (by omega)
  exact aaA (by omega)
 refine aaN (fun i : Int × List FxT × Unit => ∃ k : Nat, k ≤ l.length ∧ i = ((k : Int), (aoO l lo hi k).map (fun q => fx q), ())) (fun i => ((l.length : Int) - i.1).toNat) (fun _ => Sum.inr (apX l lo hi, 0, ())) ?_ _ ⟨0, by omega, rfl⟩
 rintro i ⟨k, k1, rfl⟩
 simp only [ahJ, hc, aaM, w1, hw lo hlo, hw hi hhi]
 have hlen := aKh l lo hi k
 rcases Nat.lt_or_ge k l.length with hk | hk
 ·left
  have wk : w64 ((k : Int) + 1) = ((k + 1 : Nat) : Int) := by rw [aaA (by omega)]; omega
  have wm : w64 ((k : Int) * 1000000000000) = (k : Int) * 1000000000000 := aaA (by omega)
  have bv := ajQ ht hk
  have iv := anU bv (by omega) (by omega)
  refine ⟨(((k + 1 : Nat) : Int), (aoO l lo hi (k + 1)).map (fun q => fx q), ()), ?_, ⟨k + 1, by omega, rfl⟩, by dsimp only; omega, (by first | exact True.intro | rfl)⟩
  rw [wk, wm]
  refine uT (decide_eq_true (by rw [aaC]; omega)) (uN ⟨by omega, by rw [aaC]; omega⟩ (uC (aFE l lo hi k, ()) rfl ?_))
  rw [aHY]
  cases hin : aFE l lo hi k
  ·exact uF rfl rfl
  ·refine uT rfl (uC _ (aQC (d := 65535) iv (by omega) (by omega)) (uN (by simp only [List.length_map]; omega) ?_))
   refine uB (uB (uN (by simp) ?_))
   rw [List.take_length, if_pos rfl, List.map_append]; rfl
 ·right
  obtain rfl : k = l.length := by omega
  refine uF (decide_eq_false (by rw [aaC]; omega)) (uC (apX l lo hi, 0, ()) ?_ rfl)
  rw [List.take_length, aJU (by unfold aoO; simp) (by omega) (aKi ht hlo hhi (Nat.le_refl _)), aEK ht hlo hhi (Nat.le_refl _)]
  rfl
theorem atW (c : CvT × Unit) (x : BdT) (y) (h : aeF (c, x, ()) = some y) : (aiN c x).toO = some y := by
 unfold aeF at h
 split at h
 case isFalse => cases h
 case isTrue hp =>
 obtain ⟨ht, hlo, hhi, hle⟩ := hp
 dsimp only at ht hlo hhi hle h
 injection h with h
 subst h
 obtain ⟨⟨kind, tab, l, u0⟩, u1⟩ := c
 obtain ⟨lo, hi, u2⟩ := x
 dsimp only at ht hlo hhi hle ⊢
 obtain ⟨a1, a2, a3, a4⟩ := adT ht hlo
 obtain ⟨b1, b2, b3, b4⟩ := adT ht hhi
 have hT : ∀ n : Int, inU n → afZ (((kind, tab, l, ()), ()), fx (mkRat n 1000000000000), ()) = some (ax4 (aNm tab (mkRat n 1000000000000))) := by
  intro n hn
  have h0 : 0 ≤ mkRat n 1000000000000 := by
   have : (0 : Rat) = mkRat 0 1000000000000 := by decide
   rw [this, aAH]; exact hn.1
  exact aAz (c := (kind, tab, l, ())) (apH hn) h0 (auP hn) ht
 unfold aiN
 refine uO (0, true, [], ()) rfl ?_
 refine aaN (fun i : Int × Bool × List FxT × Unit => i = (0, true, [], ()) ∨ i = (1, false, [fx (mkRat (akW tab lo) 65535000000000000)], ()) ∨ i = (2, false, [fx (mkRat (akW tab lo) 65535000000000000), fx (mkRat (akW tab hi) 65535000000000000)], ())) (fun i => ((2 : Int) - i.1).toNat) (fun _ => (apX tab lo hi, 0, ())) ?_ _ (Or.inl rfl)
 rintro i (rfl | rfl | rfl)
 ·left
  refine ⟨(1, false, [fx (mkRat (akW tab lo) 65535000000000000)], ()), ?_, Or.inr (Or.inl rfl), by dsimp only; omega, (by first | exact True.intro | rfl)⟩
  refine uT rfl (uT rfl (uN ⟨by decide, by decide⟩ (uC _ (afH (d := 1000000000000) (avU hlo) (by omega) (by omega)) (uC _ (hT lo hlo) ?_))))
  rw [a1]
  exact uF rfl (uN (by decide) rfl)
 ·left
  refine ⟨(2, false, [fx (mkRat (akW tab lo) 65535000000000000), fx (mkRat (akW tab hi) 65535000000000000)], ()), ?_, Or.inr (Or.inr rfl), by dsimp only; omega, (by first | exact True.intro | rfl)⟩
  refine uF rfl (uT rfl (uN ⟨by dsimp only; omega, by dsimp only; omega⟩ (uC _ (afH (d := 1000000000000) (avU hhi) (by omega) (by omega)) (uC _ (hT hi hhi) ?_))))
  rw [b1]
  refine uF rfl (uN (by simp) ?_)
  refine uB (uB (uN (by simp) rfl))
 ·right
  refine uF rfl (uF rfl ?_)
  refine uO (0, (aoO tab lo hi 0).map (fun q => fx q), ()) rfl ?_
  exact aoA _ (lo, hi, u2) _ tab rfl ht hlo hhi
set_option maxRecDepth 100000
open Go Go.Vg Go.Proofs
noncomputable section
def aQa : LTab := []
def aLJ (n : Int) (d : Int) : TT ((List UInt8 × List UInt8 × Unit) × Unit) :=
 .call (axK (n, d, ())) afI fun y =>
 .ok (((y.1.1, y.1.2.1, ()), ()))
def aLH : LTab := []
def l9_tent_t : TT ((Int × List Int × List (Int × Int × Int × Int × Int × Int × Unit) × Unit) × Unit) :=
 .ok (((2, List.take 3 [0, 65535, 0], [], ()), ()))
def aIP : LTab := []
def l9_steps_t : TT ((Int × List Int × List (Int × Int × Int × Int × Int × Int × Unit) × Unit) × Unit) :=
 .ok (((3, [], List.take 2 [(500000, 1000000, 0, 1, 1, 0, ()), (1000000, 2000000, -1000000, 2, 1, 500000, ())], ()), ()))
def aLI : LTab := []
def l9_root_t : TT ((Int × List Int × List (Int × Int × Int × Int × Int × Int × Unit) × Unit) × Unit) :=
 .ok (((3, [], [(1000000, 1000000, 0, 1, 2, 0, ())], ()), ()))
def aIO : LTab := []
def arJ (c : Int × List Int × List (Int × Int × Int × Int × Int × Int × Unit) × Unit) (x : List UInt8 × List UInt8 × Unit) (y : List UInt8 × List UInt8 × Unit) : TT (Bool × Unit) :=
 .call (abZ ((c.1, c.2.1, c.2.2.1, ()), (x.1, x.2.1, ()), ())) afI fun y1 =>
 .ite (match y1.1.1 == y.1 with
| true =>
 match y1.1.2.1 == y.2.1 with
 | true => true
 | false => false
| false => false)
 (.ok ((y1.2.1 == 0, ())))
 (.ok ((false, ())))
def aIN : LTab := []
def l9_wakes_t : TT (Bool × Unit) :=
 .call (aqA ()) aNl fun y =>
 .call (ab9 (1, 4, ())) aeY fun y1 =>
 .call (abZ (y.1, y1.1, ())) afI fun y2 =>
 .call (aqA ()) aNl fun y3 =>
 .call (agM (y3.1, (250000000000, 250000000000, ()), ())) atZ fun y4 =>
 .call (ajF ()) aNl fun y5 =>
 .call (agM (y5.1, (250000000000, 750000000000, ()), ())) atZ fun y6 =>
 .call (ajF ()) aNl fun y7 =>
 .call (agL (y7.1, ())) aCf fun y8 =>
 .call (ajF ()) aNl fun y9 =>
 .call (ab9 (1, 4, ())) aeY fun y10 =>
 .call (ab9 (1, 2, ())) aeY fun y11 =>
 .call (adZ (y9.1, y10.1, y11.1, ())) Dd1 fun y12 =>
 .ite (y12.1)
 (.call (ajF ()) aNl fun y13 =>
 .call (ab9 (2, 1, ())) aeY fun y14 =>
 .call (ab9 (0, 1, ())) aeY fun y15 =>
 .call (adZ (y13.1, y14.1, y15.1, ())) Dd1 fun y16 =>
 .ite (y16.1)
 (.call (amX ()) aNl fun y17 =>
 .call (ab9 (3, 4, ())) aeY fun y18 =>
 .call (ab9 (3, 4, ())) aeY fun y19 =>
 .call (adZ (y17.1, y18.1, y19.1, ())) Dd1 fun y20 =>
 .ite (y20.1)
 (.call (amX ()) aNl fun y21 =>
 .call (ab9 (1, 2, ())) aeY fun y22 =>
 .call (ab9 (1, 2, ())) aeY fun y23 =>
 .call (adZ (y21.1, y22.1, y23.1, ())) Dd1 fun y24 =>
 .ite (y24.1)
 (.ite (y2.2.1 == 5)
 (.ite (match y4.1.1 == 500000000000 with
| true =>
 match y4.1.2.1 == 500000000000 with
 | true => true
 | false => false
| false => false)
 (.ite (y4.2.1 == 0)
 (.ite (match y6.1.1 == 500000000000 with
| true =>
 match y6.1.2.1 == 1000000000000 with
 | true => true
 | false => false
| false => false)
 (.ite (y6.2.1 == 0)
 (.ite (y8.1 == 0)
 (.ite (y8.2.1 == 0)
 (.call (afG ((0, [], [], ()), ())) Dd6 fun y25 =>
 .ok ((y25.1 == 90, ())))
 (.ok ((false, ()))))
 (.ok ((false, ()))))
 (.ok ((false, ()))))
 (.ok ((false, ()))))
 (.ok ((false, ()))))
 (.ok ((false, ()))))
 (.ok ((false, ()))))
 (.ok ((false, ()))))
 (.ok ((false, ()))))
 (.ok ((false, ()))))
 (.ok ((false, ())))
end
theorem aLK (n d : Int) (y) (h : ab9 (n, d, ()) = some y) : (aLJ n d).toO = some y := by
 unfold ab9 abY at h
 split at h
 ·rename_i hp
  exact uC (ofQ n d) (by unfold axK alY; rw [if_pos hp]) h
 ·cases h
theorem aFz (y) (h : ajF () = some y) : l9_tent_t.toO = some y := h
theorem aDr (y) (h : amX () = some y) : l9_steps_t.toO = some y := h
theorem aFA (y) (h : aqA () = some y) : l9_root_t.toO = some y := h
theorem aDq (c : CvT) (x z : FxT) (y) (h : adZ (c, x, z, ()) = some y) : (arJ c x z).toO = some y := by
 unfold adZ at h
 dsimp only at h
 cases hr : abZ (c, x, ()) with
 | none => rw [hr] at h; cases h
 | some r =>
  rw [hr] at h
  injection h with h
  subst h
  unfold arJ
  refine uC r hr ?_
  obtain ⟨⟨r1, r2, r3⟩, r4, r5⟩ := r
  obtain ⟨z1, z2, z3⟩ := z
  dsimp only
  by_cases c1 : r1 = z1
  ·subst c1
   by_cases c2 : r2 = z2
   ·subst c2
    refine uT (by simp) ?_
    rw [aaK]
    by_cases c3 : r4 = 0
    ·subst c3
     rw [aHj rfl]; rfl
    ·rw [awD (fun h => c3 (by injection h with _ h; injection h with h _)), beq_eq_false_iff_ne.2 c3]
   ·rw [awD (fun h => c2 (by injection h with h _; injection h with _ h; injection h with h _))]
    refine uF ?_ rfl
    simp [beq_eq_false_iff_ne.2 c2]
  ·rw [awD (fun h => c1 (by injection h with h _; injection h with h _))]
   refine uF ?_ rfl
   simp [beq_eq_false_iff_ne.2 c1]
theorem al8 : acD aqU := by decide
theorem auX : acD stepsC := by decide
theorem ay6 : acD rootC := by decide
theorem aGD : ad9 [0, 65535, 0] := by decide
theorem ahB {n : Int} {d : Nat} (hn : aa9 n) (hd : d ≠ 0) (h2 : d ≤ 9223372036854775807) : ab9 (n, (d : Int), ()) = some (fx (mkRat n d), ()) := afH hn hd h2
theorem aHW : agL (aqU, ()) = some (0, 0, ()) := by
 unfold agL; dsimp only; rw [if_pos al8]; decide
theorem apK {c : CvT} (hr : acD c) {n : Int} (hn : inU n) : abZ (c, fx (mkRat n 1000000000000), ()) = some (an5 c (mkRat n 1000000000000)) := by
 unfold abZ
 dsimp only
 rw [if_pos hr, afJ (apH hn)]
 dsimp only
 rw [an9 hn]
theorem aCs : abZ (aqU, fx (mkRat 1 4), ()) = some (fx (mkRat 1 2), 0, ()) := by
 have e : mkRat 1 4 = mkRat 250000000000 1000000000000 := by rw [Rat.mkRat_eq_iff (by omega) (by omega)]; omega
 have hu : inU 250000000000 := ⟨by omega, by omega⟩
 rw [e, apK al8 hu]
 obtain ⟨q1, -⟩ := adT aGD hu
 have : an5 aqU (mkRat 250000000000 1000000000000) = ax4 (aNm [0, 65535, 0] (mkRat 250000000000 1000000000000)) := rfl
 rw [this, q1]
 have hm : akW [0, 65535, 0] 250000000000 = 32767500000000000 := by decide
 have e2 : mkRat 32767500000000000 65535000000000000 = mkRat 1 2 := by rw [Rat.mkRat_eq_iff (by omega) (by omega)]; omega
 rw [hm, e2]; rfl
theorem aNJ : abZ (aqU, fx (mkRat 2 1), ()) = some (fx (mkRat 0 1), 0, ()) := by
 have hf : adE (mkRat 2 1) := adW ⟨by omega, by omega⟩
 have hc : ab7 (mkRat 2 1) = mkRat 1000000000000 1000000000000 := by
  rw [aGB]
  unfold ab7
  rw [if_neg (by decide), if_pos (by decide)]
 have hu : inU 1000000000000 := ⟨by omega, by omega⟩
 unfold abZ
 dsimp only
 rw [if_pos al8, afJ hf]
 dsimp only
 rw [hc]
 obtain ⟨q1, -⟩ := adT aGD hu
 have : an5 aqU (mkRat 1000000000000 1000000000000) = ax4 (aNm [0, 65535, 0] (mkRat 1000000000000 1000000000000)) := rfl
 rw [this, q1]
 have hm : akW [0, 65535, 0] 1000000000000 = 0 := by decide
 have e2 : mkRat 0 65535000000000000 = mkRat 0 1 := by rw [Rat.mkRat_eq_iff (by omega) (by omega)]; omega
 rw [hm, e2]; rfl
theorem aHX : agM (aqU, (250000000000, 750000000000, ()), ()) = some ((500000000000, 1000000000000, ()), 0, ()) := by
 unfold agM
 dsimp only
 rw [if_pos al8, if_pos (by decide)]
 have : aHs aqU (aqS (250000000000, 750000000000, ())) = (apX [0, 65535, 0] 250000000000 750000000000, 0, ()) := rfl
 rw [this]
 have h2 : apX [0, 65535, 0] 250000000000 750000000000 = (500000000000, 1000000000000, ()) := by decide
 rw [h2]
theorem aCz : abZ (rootC, fx (mkRat 1 4), ()) = some (([], [], ()), 5, ()) := by
 have e : mkRat 1 4 = mkRat 250000000000 1000000000000 := by rw [Rat.mkRat_eq_iff (by omega) (by omega)]; omega
 have hu : inU 250000000000 := ⟨by omega, by omega⟩
 rw [e, apK ay6 hu]
 have : an5 rootC (mkRat 250000000000 1000000000000) = atU rootC.2.2.1 (mkRat 250000000000 1000000000000) := rfl
 rw [this]
 unfold atU
 rw [aq8]
 have hp : aa7 250000000000 rootC.2.2.1 = 0 := by decide
 rw [hp, if_neg (by decide)]
theorem aIK : afG ((0, [], [], ()), ()) = some (90, ()) := by decide
theorem aDU : aBH 1 2 250000000000 = 500000000000 := by
 unfold aBH
 exact aBj (by omega) (by decide) (by decide)
theorem aCV : aJW (250000000000, 250000000000, ()) 1 2 = ((500000000000, 500000000000, ()), 0, ()) := by
 unfold aJW
 have hp : ∀ b : Bool, ax6 1 2 250000000000 b = (500000000000, 0, ()) := by
  intro b
  unfold ax6
  rw [aDU, if_neg (by decide), if_neg (fun h => h.2 (by decide))]
  rfl
 have e1 : (1 : Int).toNat = 1 := rfl
 have e2 : (2 : Int).toNat = 2 := rfl
 have e3 : (250000000000 : Int).toNat = 250000000000 := rfl
 dsimp only
 rw [if_pos (by decide), if_pos (by decide), e1, e2, e3, hp, hp]
 decide
theorem aH1 : agM (rootC, (250000000000, 250000000000, ()), ()) = some ((500000000000, 500000000000, ()), 0, ()) := by
 unfold agM
 dsimp only
 rw [if_pos ay6, if_pos (by decide)]
 have h1 : aHs rootC (aqS (250000000000, 250000000000, ())) = atH [(1000000, 1000000, 0, 1, 2, 0, ())] 250000000000 250000000000 := rfl
 rw [h1]
 unfold atH
 have hp : aa7 250000000000 [((1000000, 1000000, 0, 1, 2, 0, ()) : aeX)] = 0 := by decide
 rw [hp]
 show some (ar5 _ _ _ 1 0 []) = _
 have hs : aCi [(1000000, 1000000, 0, 1, 2, 0, ())] 250000000000 250000000000 0 = ((500000000000, 500000000000, ()), 0, ()) := by
  unfold aCi
  have e1 : max (250000000000 : Int) (ab8 [(1000000, 1000000, 0, 1, 2, 0, ())] 0 * 1000000) = 250000000000 := by decide
  have e2 : min (250000000000 : Int) ((([(1000000, 1000000, 0, 1, 2, 0, ())] : List aeX).getD 0 (0, 0, 0, 0, 0, 0, ())).1 * 1000000) = 250000000000 := by decide
  rw [e1, e2]
  show ayC (1000000, 1000000, 0, 1, 2, 0, ()) 250000000000 250000000000 = _
  unfold ayC
  have e3 : ayB (1000000, 1000000, 0, 1, 2, 0, ()) 250000000000 250000000000 = (250000000000, 250000000000, ()) := by decide
  rw [e3]
  dsimp only
  rw [aCV]
  decide
 rw [alP, hs]
 decide
theorem av5 {n : Int} {d : Nat} (hd : d ≠ 0) (hn : aa9 n) (h2 : d ≤ 9223372036854775807) : adE (mkRat n d) := ad3 hd (abH hn) (abH ⟨by omega, by omega⟩)
theorem aEM : abZ (stepsC, fx (mkRat 3 4), ()) = some (fx (mkRat 3 4), 0, ()) := by
 have e : mkRat 3 4 = mkRat 750000000000 1000000000000 := by rw [Rat.mkRat_eq_iff (by omega) (by omega)]; omega
 have hu : inU 750000000000 := ⟨by omega, by omega⟩
 rw [e, apK auX hu]
 have : an5 stepsC (mkRat 750000000000 1000000000000) = atU stepsC.2.2.1 (mkRat 750000000000 1000000000000) := rfl
 rw [this]
 unfold atU
 rw [aq8]
 have hp : aa7 750000000000 stepsC.2.2.1 = 1 := by decide
 rw [hp, if_pos (by decide)]
 show some (ax4 (aDC (1000000, 2000000, -1000000, 2, 1, 500000, ()) (mkRat 750000000000 1000000000000))) = _
 unfold aDC
 dsimp only
 obtain ⟨l1, -⟩ := ag9 (m := 2000000) (a := -1000000) ⟨by omega, by omega⟩ ⟨by omega, by omega⟩ hu
 have hm : aeM 2000000 (-1000000) 750000000000 = 500000000000000000 := by decide
 have e2 : mkRat 500000000000000000 1000000000000000000 = mkRat 1 2 := by rw [Rat.mkRat_eq_iff (by omega) (by omega)]; omega
 rw [l1, hm, e2]
 simp only [Option.bind_some]
 have hpos : azH (mkRat 1 2) = mkRat 1 2 := by unfold azH; rw [if_neg (by decide)]
 have hn : ((2 : Int) - 1).toNat = 1 := rfl
 rw [hpos, hn]
 have hmul : mkRat 1 2 * mkRat 1 2 = mkRat 1 4 := by rw [Rat.mkRat_mul_mkRat]; rfl
 have h1 : ac7 (mkRat 1 2) 1 (mkRat 1 2) = some (mkRat 1 4) := by
  show (acG (mkRat 1 2 * mkRat 1 2)).bind some = _
  rw [hmul]; unfold acG
  rw [if_pos (av5 (by omega) ⟨by omega, by omega⟩ (by omega))]; rfl
 rw [h1]
 simp only [Option.bind_some]
 have hadd : mkRat 1 4 + mkRat 500000 1000000 = mkRat 3 4 := by
  rw [Rat.mkRat_add_mkRat _ _ (by omega) (by omega), Rat.mkRat_eq_iff (by omega) (by omega)]; decide
 have hc : ab7 (mkRat 3 4) = mkRat 3 4 := by rw [e]; exact an9 hu
 rw [hadd]
 unfold acG
 rw [if_pos (av5 (by omega) ⟨by omega, by omega⟩ (by omega))]
 show some (ax4 (some (ab7 (mkRat 3 4)))) = _
 rw [hc, ← e]; rfl
theorem aHZ : abZ (stepsC, fx (mkRat 1 2), ()) = some (fx (mkRat 1 2), 0, ()) := by
 have e : mkRat 1 2 = mkRat 500000000000 1000000000000 := by rw [Rat.mkRat_eq_iff (by omega) (by omega)]; omega
 have hu : inU 500000000000 := ⟨by omega, by omega⟩
 rw [e, apK auX hu]
 have : an5 stepsC (mkRat 500000000000 1000000000000) = atU stepsC.2.2.1 (mkRat 500000000000 1000000000000) := rfl
 rw [this]
 unfold atU
 rw [aq8]
 have hp : aa7 500000000000 stepsC.2.2.1 = 0 := by decide
 rw [hp, if_pos (by decide)]
 show some (ax4 (aDC (500000, 1000000, 0, 1, 1, 0, ()) (mkRat 500000000000 1000000000000))) = _
 unfold aDC
 dsimp only
 obtain ⟨l1, -⟩ := ag9 (m := 1000000) (a := 0) ⟨by omega, by omega⟩ ⟨by omega, by omega⟩ hu
 have hm : aeM 1000000 0 500000000000 = 500000000000000000 := by decide
 have e2 : mkRat 500000000000000000 1000000000000000000 = mkRat 1 2 := by rw [Rat.mkRat_eq_iff (by omega) (by omega)]; omega
 rw [l1, hm, e2]
 simp only [Option.bind_some]
 have hpos : azH (mkRat 1 2) = mkRat 1 2 := by unfold azH; rw [if_neg (by decide)]
 have hn : ((1 : Int) - 1).toNat = 0 := rfl
 rw [hpos, hn]
 have h1 : ac7 (mkRat 1 2) 0 (mkRat 1 2) = some (mkRat 1 2) := rfl
 rw [h1]
 simp only [Option.bind_some]
 have hadd : mkRat 1 2 + mkRat 0 1000000 = mkRat 1 2 := by
  rw [Rat.mkRat_add_mkRat _ _ (by omega) (by omega), Rat.mkRat_eq_iff (by omega) (by omega)]; decide
 have hc : ab7 (mkRat 1 2) = mkRat 1 2 := by rw [e]; exact an9 hu
 rw [hadd]
 unfold acG
 rw [if_pos (av5 (by omega) ⟨by omega, by omega⟩ (by omega))]
 show some (ax4 (some (ab7 (mkRat 1 2)))) = _
 rw [hc, ← e]; rfl
theorem at3 {c : CvT} {x z : FxT} (h : abZ (c, x, ()) = some (z, 0, ())) : adZ (c, x, z, ()) = some (true, ()) := by
 unfold adZ
 dsimp only
 rw [h]
 show some (eqb (z, 0, ()) (z, 0, ()), ()) = _
 rw [aHj rfl]
theorem aDp (y) (h : asD () = some y) : l9_wakes_t.toO = some y := by
 injection h with h
 subst h
 unfold l9_wakes_t
 have o14 : ab9 (1, 4, ()) = some (fx (mkRat 1 4), ()) := ahB (d := 4) ⟨by omega, by omega⟩ (by omega) (by omega)
 have o12 : ab9 (1, 2, ()) = some (fx (mkRat 1 2), ()) := ahB (d := 2) ⟨by omega, by omega⟩ (by omega) (by omega)
 have o21 : ab9 (2, 1, ()) = some (fx (mkRat 2 1), ()) := ahB (d := 1) ⟨by omega, by omega⟩ (by omega) (by omega)
 have o01 : ab9 (0, 1, ()) = some (fx (mkRat 0 1), ()) := ahB (d := 1) ⟨by omega, by omega⟩ (by omega) (by omega)
 have o34 : ab9 (3, 4, ()) = some (fx (mkRat 3 4), ()) := ahB (d := 4) ⟨by omega, by omega⟩ (by omega) (by omega)
 refine uC (rootC, ()) rfl (uC _ o14 (uC _ aCz (uC (rootC, ()) rfl (uC _ aH1 ?_))))
 refine uC (aqU, ()) rfl (uC _ aHX (uC (aqU, ()) rfl (uC _ aHW ?_)))
 refine uC (aqU, ()) rfl (uC _ o14 (uC _ o12 (uC _ (at3 aCs) (uT rfl ?_))))
 refine uC (aqU, ()) rfl (uC _ o21 (uC _ o01 (uC _ (at3 aNJ) (uT rfl ?_))))
 refine uC (stepsC, ()) rfl (uC _ o34 (uC _ o34 (uC _ (at3 aEM) (uT rfl ?_))))
 refine uC (stepsC, ()) rfl (uC _ o12 (uC _ o12 (uC _ (at3 aHZ) (uT rfl ?_))))
 refine uT rfl (uT rfl (uT rfl (uT rfl (uT rfl (uT rfl (uT rfl ?_))))))
 exact uC _ aIK rfl
set_option maxRecDepth 100000
open Go Go.Vg Go.Proofs
noncomputable section
def aPz : LTab := []
def aEG (a : List UInt8) : TT (Int × Int × Unit) :=
 .call (afC (a, ())) Dd6 fun y =>
 .ite (y.1 != 0)
 (.ok ((0, y.1, ())))
 (.call (aNb (a, 10, 64, ())) aRQ fun y1 =>
 .ite (y1.2.1)
 (.ok ((0, 6, ())))
 (.ok ((y1.1, 0, ()))))
def aJm : LTab := []
def ae8 (y3 : (Int) × (Bool) × Unit) (c : (Int × List Int × List (Int × Int × Int × Int × Int × Int × Unit) × Unit) × Unit) (y1 : ((List UInt8) × (List UInt8) × Unit) × (Int) × Unit) : TT ((List UInt8 × List UInt8 × Unit) × Int × Unit) :=
 .tt <| .tt <| .tt <| .tt <| .tt <| .tt <| .ite (y3.1 != y3.1)
 (.ite (w64 (w64 (len c.1.2.1 - 1) - 1) != w64 (w64 (len c.1.2.1 - 1) - 1))
 (.call (aaF (y3.1, ())) aeY fun y20 =>
 .call (afW ((y1.1.1, y1.1.2.1, ()), y20.1, ())) afI fun y21 =>
 .ite (y21.2.1 != 0)
 (.ok (((#[].toList, #[].toList, ()), y21.2.1, ())))
 (.need (inb (w64 (y3.1 + 1)) (len c.1.2.1)) <| .need (inb y3.1 (len c.1.2.1)) <| .call (aaF (w64 (gi c.1.2.1 (w64 (y3.1 + 1)) 0 - gi c.1.2.1 y3.1 0), ())) aeY fun y22 =>
 .call (ad8 (y22.1, (y21.1.1, y21.1.2.1, ()), ())) afI fun y23 =>
 .ite (y23.2.1 != 0)
 (.ok (((#[].toList, #[].toList, ()), y23.2.1, ())))
 (.need (inb y3.1 (len c.1.2.1)) <| .call (aaF (gi c.1.2.1 y3.1 0, ())) aeY fun y24 =>
 .call (adO (y24.1, (y23.1.1, y23.1.2.1, ()), ())) afI fun y25 =>
 .ite (y25.2.1 != 0)
 (.ok (((#[].toList, #[].toList, ()), y25.2.1, ())))
 (.call (aaF (65535, ())) aeY fun y26 =>
 .call (afF ((y25.1.1, y25.1.2.1, ()), y26.1, ())) afI fun y27 =>
 .ok (((y27.1.1, y27.1.2.1, ()), y27.2.1, ()))))))
 (.call (aaF (y3.1, ())) aeY fun y28 =>
 .call (afW ((y1.1.1, y1.1.2.1, ()), y28.1, ())) afI fun y29 =>
 .ite (y29.2.1 != 0)
 (.ok (((#[].toList, #[].toList, ()), y29.2.1, ())))
 (.need (inb (w64 (y3.1 + 1)) (len c.1.2.1)) <| .need (inb y3.1 (len c.1.2.1)) <| .call (aaF (w64 (gi c.1.2.1 (w64 (y3.1 + 1)) 0 - gi c.1.2.1 y3.1 0), ())) aeY fun y30 =>
 .call (ad8 (y30.1, (y29.1.1, y29.1.2.1, ()), ())) afI fun y31 =>
 .ite (y31.2.1 != 0)
 (.ok (((#[].toList, #[].toList, ()), y31.2.1, ())))
 (.need (inb y3.1 (len c.1.2.1)) <| .call (aaF (gi c.1.2.1 y3.1 0, ())) aeY fun y32 =>
 .call (adO (y32.1, (y31.1.1, y31.1.2.1, ()), ())) afI fun y33 =>
 .ite (y33.2.1 != 0)
 (.ok (((#[].toList, #[].toList, ()), y33.2.1, ())))
 (.call (aaF (65535, ())) aeY fun y34 =>
 .call (afF ((y33.1.1, y33.1.2.1, ()), y34.1, ())) afI fun y35 =>
 .ok (((y35.1.1, y35.1.2.1, ()), y35.2.1, ())))))))
 (.ite (w64 (w64 (len c.1.2.1 - 1) - 1) != w64 (w64 (len c.1.2.1 - 1) - 1))
 (.call (aaF (w64 (w64 (len c.1.2.1 - 1) - 1), ())) aeY fun y36 =>
 .call (afW ((y1.1.1, y1.1.2.1, ()), y36.1, ())) afI fun y37 =>
 .ite (y37.2.1 != 0)
 (.ok (((#[].toList, #[].toList, ()), y37.2.1, ())))
 (.need (inb (w64 (w64 (w64 (len c.1.2.1 - 1) - 1) + 1)) (len c.1.2.1)) <| .need (inb (w64 (w64 (len c.1.2.1 - 1) - 1)) (len c.1.2.1)) <| .call (aaF (w64 (gi c.1.2.1 (w64 (w64 (w64 (len c.1.2.1 - 1) - 1) + 1)) 0 - gi c.1.2.1 (w64 (w64 (len c.1.2.1 - 1) - 1)) 0), ())) aeY fun y38 =>
 .call (ad8 (y38.1, (y37.1.1, y37.1.2.1, ()), ())) afI fun y39 =>
 .ite (y39.2.1 != 0)
 (.ok (((#[].toList, #[].toList, ()), y39.2.1, ())))
 (.need (inb (w64 (w64 (len c.1.2.1 - 1) - 1)) (len c.1.2.1)) <| .call (aaF (gi c.1.2.1 (w64 (w64 (len c.1.2.1 - 1) - 1)) 0, ())) aeY fun y40 =>
 .call (adO (y40.1, (y39.1.1, y39.1.2.1, ()), ())) afI fun y41 =>
 .ite (y41.2.1 != 0)
 (.ok (((#[].toList, #[].toList, ()), y41.2.1, ())))
 (.call (aaF (65535, ())) aeY fun y42 =>
 .call (afF ((y41.1.1, y41.1.2.1, ()), y42.1, ())) afI fun y43 =>
 .ok (((y43.1.1, y43.1.2.1, ()), y43.2.1, ()))))))
 (.ite (decide (y3.1 < w64 (w64 (len c.1.2.1 - 1) - 1)))
 (.call (aaF (y3.1, ())) aeY fun y44 =>
 .call (afW ((y1.1.1, y1.1.2.1, ()), y44.1, ())) afI fun y45 =>
 .ite (y45.2.1 != 0)
 (.ok (((#[].toList, #[].toList, ()), y45.2.1, ())))
 (.need (inb (w64 (y3.1 + 1)) (len c.1.2.1)) <| .need (inb y3.1 (len c.1.2.1)) <| .call (aaF (w64 (gi c.1.2.1 (w64 (y3.1 + 1)) 0 - gi c.1.2.1 y3.1 0), ())) aeY fun y46 =>
 .call (ad8 (y46.1, (y45.1.1, y45.1.2.1, ()), ())) afI fun y47 =>
 .ite (y47.2.1 != 0)
 (.ok (((#[].toList, #[].toList, ()), y47.2.1, ())))
 (.need (inb y3.1 (len c.1.2.1)) <| .call (aaF (gi c.1.2.1 y3.1 0, ())) aeY fun y48 =>
 .call (adO (y48.1, (y47.1.1, y47.1.2.1, ()), ())) afI fun y49 =>
 .ite (y49.2.1 != 0)
 (.ok (((#[].toList, #[].toList, ()), y49.2.1, ())))
 (.call (aaF (65535, ())) aeY fun y50 =>
 .call (afF ((y49.1.1, y49.1.2.1, ()), y50.1, ())) afI fun y51 =>
 .ok (((y51.1.1, y51.1.2.1, ()), y51.2.1, ()))))))
 (.ite (decide (y3.1 > w64 (w64 (len c.1.2.1 - 1) - 1)))
 (.call (aaF (w64 (w64 (len c.1.2.1 - 1) - 1), ())) aeY fun y52 =>
 .call (afW ((y1.1.1, y1.1.2.1, ()), y52.1, ())) afI fun y53 =>
 .ite (y53.2.1 != 0)
 (.ok (((#[].toList, #[].toList, ()), y53.2.1, ())))
 (.need (inb (w64 (w64 (w64 (len c.1.2.1 - 1) - 1) + 1)) (len c.1.2.1)) <| .need (inb (w64 (w64 (len c.1.2.1 - 1) - 1)) (len c.1.2.1)) <| .call (aaF (w64 (gi c.1.2.1 (w64 (w64 (w64 (len c.1.2.1 - 1) - 1) + 1)) 0 - gi c.1.2.1 (w64 (w64 (len c.1.2.1 - 1) - 1)) 0), ())) aeY fun y54 =>
 .call (ad8 (y54.1, (y53.1.1, y53.1.2.1, ()), ())) afI fun y55 =>
 .ite (y55.2.1 != 0)
 (.ok (((#[].toList, #[].toList, ()), y55.2.1, ())))
 (.need (inb (w64 (w64 (len c.1.2.1 - 1) - 1)) (len c.1.2.1)) <| .call (aaF (gi c.1.2.1 (w64 (w64 (len c.1.2.1 - 1) - 1)) 0, ())) aeY fun y56 =>
 .call (adO (y56.1, (y55.1.1, y55.1.2.1, ()), ())) afI fun y57 =>
 .ite (y57.2.1 != 0)
 (.ok (((#[].toList, #[].toList, ()), y57.2.1, ())))
 (.call (aaF (65535, ())) aeY fun y58 =>
 .call (afF ((y57.1.1, y57.1.2.1, ()), y58.1, ())) afI fun y59 =>
 .ok (((y59.1.1, y59.1.2.1, ()), y59.2.1, ()))))))
 (.call (aaF (y3.1, ())) aeY fun y60 =>
 .call (afW ((y1.1.1, y1.1.2.1, ()), y60.1, ())) afI fun y61 =>
 .ite (y61.2.1 != 0)
 (.ok (((#[].toList, #[].toList, ()), y61.2.1, ())))
 (.need (inb (w64 (y3.1 + 1)) (len c.1.2.1)) <| .need (inb y3.1 (len c.1.2.1)) <| .call (aaF (w64 (gi c.1.2.1 (w64 (y3.1 + 1)) 0 - gi c.1.2.1 y3.1 0), ())) aeY fun y62 =>
 .call (ad8 (y62.1, (y61.1.1, y61.1.2.1, ()), ())) afI fun y63 =>
 .ite (y63.2.1 != 0)
 (.ok (((#[].toList, #[].toList, ()), y63.2.1, ())))
 (.need (inb y3.1 (len c.1.2.1)) <| .call (aaF (gi c.1.2.1 y3.1 0, ())) aeY fun y64 =>
 .call (adO (y64.1, (y63.1.1, y63.1.2.1, ()), ())) afI fun y65 =>
 .ite (y65.2.1 != 0)
 (.ok (((#[].toList, #[].toList, ()), y65.2.1, ())))
 (.call (aaF (65535, ())) aeY fun y66 =>
 .call (afF ((y65.1.1, y65.1.2.1, ()), y66.1, ())) afI fun y67 =>
 .ok (((y67.1.1, y67.1.2.1, ()), y67.2.1, ())))))))))
def ae7 (y1 : ((List UInt8) × (List UInt8) × Unit) × (Int) × Unit) (c : (Int × List Int × List (Int × Int × Int × Int × Int × Int × Unit) × Unit) × Unit) : TT ((List UInt8 × List UInt8 × Unit) × Int × Unit) :=
 .call (aaF (0, ())) aeY fun y4 =>
 .call (afW ((y1.1.1, y1.1.2.1, ()), y4.1, ())) afI fun y5 =>
 .ite (y5.2.1 != 0)
 (.ok (((#[].toList, #[].toList, ()), y5.2.1, ())))
 (.need (inb (w64 (0 + 1)) (len c.1.2.1)) <| .need (asT Int 0 ≤ 0 ∧ 0 < len c.1.2.1) <| .call (aaF (w64 (gi c.1.2.1 (w64 (0 + 1)) 0 - gi c.1.2.1 0 0), ())) aeY fun y6 =>
 .call (ad8 (y6.1, (y5.1.1, y5.1.2.1, ()), ())) afI fun y7 =>
 .ite (y7.2.1 != 0)
 (.ok (((#[].toList, #[].toList, ()), y7.2.1, ())))
 (.need (asT Int 0 ≤ 0 ∧ 0 < len c.1.2.1) <| .call (aaF (gi c.1.2.1 0 0, ())) aeY fun y8 =>
 .call (adO (y8.1, (y7.1.1, y7.1.2.1, ()), ())) afI fun y9 =>
 .ite (y9.2.1 != 0)
 (.ok (((#[].toList, #[].toList, ()), y9.2.1, ())))
 (.call (aaF (65535, ())) aeY fun y10 =>
 .call (afF ((y9.1.1, y9.1.2.1, ()), y10.1, ())) afI fun y11 =>
 .ok (((y11.1.1, y11.1.2.1, ()), y11.2.1, ())))))
def arZ (c : (Int × List Int × List (Int × Int × Int × Int × Int × Int × Unit) × Unit) × Unit) (x : List UInt8 × List UInt8 × Unit) : TT ((List UInt8 × List UInt8 × Unit) × Int × Unit) :=
 .call (aaF (w64 (len c.1.2.1 - 1), ())) aeY fun y =>
 .call (ad8 ((x.1, x.2.1, ()), y.1, ())) afI fun y1 =>
 .ite (y1.2.1 != 0)
 (.ok (((#[].toList, #[].toList, ()), y1.2.1, ())))
 (.call (ajL ((y1.1.1, y1.1.2.1, ()), ())) aGy fun y2 =>
  .ite (y2.2.1 != 0)
  (.ok (((#[].toList, #[].toList, ()), y2.2.1, ())))
  (.call (aNc (y2.1, ())) aRQ fun y3 =>
   .ite (y3.2.1)
   (.tt <| .tt <| .tt <| .tt <| .tt <| .tt <| .tt <| .tt <| .ite (y3.1 != y3.1)
    (ae7 y1 c)
    (.ite (decide (y3.1 < 0))
     (ae7 y1 c)
     (.ite (decide (y3.1 > 0))
      (ae8 y3 c y1)
      (ae8 y3 c y1))))
   (.tt <| .tt <| .tt <| .tt <| .tt <| .tt <| .tt <| .tt <| .ite (y3.1 != y3.1)
    (ae7 y1 c)
    (.ite (decide (y3.1 < 0))
     (ae7 y1 c)
     (.ite (decide (y3.1 > 0))
      (ae8 y3 c y1)
      (ae8 y3 c y1))))))
end
theorem aQu {z : Int} (h : Fit z) : (dec z).length ≤ 601 := by
 unfold Fit at h
 unfold dec
 split
 ·rw [List.length_cons]; omega
 ·omega
theorem aJ9 (a : List UInt8) (y) (h : akL (a, ()) = some y) : (aEG a).toO = some y := by
 unfold akL at h
 injection h with h
 subst h
 dsimp only
 unfold aEG
 refine uC _ (adR a) ?_
 cases hz : rdW a with
 | none => exact uT rfl rfl
 | some z =>
  obtain ⟨hf, rfl⟩ := aeH hz
  refine uF rfl (uC _ (aRm (Nat.le_trans (aQu hf) (by omega))) ?_)
  dsimp only
  by_cases c : aa9 z
  ·rw [if_pos c, if_pos c]
   exact uF rfl rfl
  ·rw [if_neg c, if_neg c]
   exact uT rfl rfl
theorem al6 {l : List Int} {p : Rat} {k : Nat} (ht : ad9 l) (hp : adE p) (hk : k + 1 < l.length) (hpl : aiW l p = k) (y1 : FxT × Int × Unit) (e1 : y1 = (fx p, 0, ()))
  {I A D : Int} (eI : I = k) (eA : A = l.getD k 0) (eD : D = l.getD (k + 1) 0 - l.getD k 0) {p1 p2 p3 : Prop} (h1 : p1) (h2 : p2) (h3 : p3) {d1 : FxT × Unit} {d2 : FxT × Int × Unit} :
  (TT.call (aaF (I, ())) d1 fun y4 => .call (afW ((y1.1.1, y1.1.2.1, ()), y4.1, ())) d2 fun y5 => .ite (y5.2.1 != 0) (.ok (((#[].toList, #[].toList, ()), y5.2.1, ())))
   (.need p1 <| .need p2 <| .call (aaF (D, ())) d1 fun y6 => .call (ad8 (y6.1, (y5.1.1, y5.1.2.1, ()), ())) d2 fun y7 => .ite (y7.2.1 != 0) (.ok (((#[].toList, #[].toList, ()), y7.2.1, ())))
    (.need p3 <| .call (aaF (A, ())) d1 fun y8 => .call (adO (y8.1, (y7.1.1, y7.1.2.1, ()), ())) d2 fun y9 => .ite (y9.2.1 != 0) (.ok (((#[].toList, #[].toList, ()), y9.2.1, ())))
     (.call (aaF (65535, ())) d1 fun y10 => .call (afF ((y9.1.1, y9.1.2.1, ()), y10.1, ())) d2 fun y11 => .ok (((y11.1.1, y11.1.2.1, ()), y11.2.1, ())))))).toO
   = some (ax4 ((acG (p - mkRat (aiW l p : Int) 1)).bind fun r => (acG (r * mkRat (l.getD (aiW l p + 1) 0 - l.getD (aiW l p) 0) 1)).bind fun t => (acG (mkRat (l.getD (aiW l p) 0) 1 + t)).bind fun y => acG (y / mkRat 65535 1))) := by
 have hl2 := ht.2.1
 subst eI eA eD e1
 rw [hpl]
 have i6 : aa9 65535 := ⟨by omega, by omega⟩
 have ik : aa9 (k : Int) := ⟨by omega, by omega⟩
 have bv := ajQ ht (show k < l.length by omega)
 have bv1 := ajQ ht hk
 have iv := anU bv (by omega) (by omega)
 have id : aa9 (l.getD (k + 1) 0 - l.getD k 0) := ⟨by have := bv.1; have := bv.2; have := bv1.1; have := bv1.2; omega, by have := bv.1; have := bv.2; have := bv1.1; have := bv1.2; omega⟩
 refine uC _ (ab4 ik) (uC _ (aPa hp (adW ik)) ?_)
 cases g1 : acG (p - mkRat (k : Int) 1) with
 | none => exact uT rfl rfl
 | some r =>
  have hr := (ae0 g1).1
  simp only [Option.bind_some]
  refine uF rfl (uN h1 (uN h2 (uC _ (ab4 id) (uC _ (aqN (adW id) hr) ?_))))
  rw [Rat.mul_comm]
  cases g2 : acG (r * mkRat (l.getD (k + 1) 0 - l.getD k 0) 1) with
  | none => exact uT rfl rfl
  | some t =>
   have ht' := (ae0 g2).1
   simp only [Option.bind_some]
   refine uF rfl (uN h3 (uC _ (ab4 iv) (uC _ (aCc (adW iv) ht') ?_)))
   cases g3 : acG (mkRat (l.getD k 0) 1 + t) with
   | none => exact uT rfl rfl
   | some y =>
    have hy := (ae0 g3).1
    exact uF rfl (uC _ (ab4 i6) (uC _ (aHE hy (adW i6) (aG7 (by omega))) rfl))
theorem aD4 (c : CvT × Unit) (x : FxT) (y) (h : afZ (c, x, ()) = some y) : (arZ c x).toO = some y := by
 obtain ⟨⟨l', q⟩, ⟨hq, h0, h1, ht⟩, hx, rfl⟩ := aaD h
 obtain ⟨rfl, hx2⟩ := Prod.mk.inj hx; obtain ⟨rfl, -⟩ := Prod.mk.inj hx2; dsimp only
 dsimp only at hq h0 h1 ht
 obtain ⟨kd, l, sg, u⟩ := l'
 dsimp only at ht ⊢
 have hl1 := ht.1
 have hl2 := ht.2.1
 have w1 : w64 (len l - 1) = ((l.length - 1 : Nat) : Int) := by rw [aaC, aaA (by omega)]; omega
 have w2 : w64 (((l.length - 1 : Nat) : Int) - 1) = ((l.length - 2 : Nat) : Int) := by rw [aaA (by omega)]; omega
 have w3 : w64 (((l.length - 2 : Nat) : Int) + 1) = ((l.length - 2 + 1 : Nat) : Int) := by rw [aaA (by omega)]; omega
 have in1 : aa9 ((l.length - 1 : Nat) : Int) := ⟨by omega, by omega⟩
 unfold arZ ae7 ae8 aNm
 dsimp only
 rw [w1, w2, w3]
 refine uC _ (ab4 in1) (uC _ (aqN hq (adW in1)) ?_)
 cases hs : acG (q * mkRat ((l.length - 1 : Nat) : Int) 1) with
 | none => exact uT rfl rfl
 | some p =>
 obtain ⟨hp, e⟩ := ae0 hs
 have hlp : (0 : Rat) ≤ mkRat ((l.length - 1 : Nat) : Int) 1 := by
  rw [aeA]
  have := Rat.intCast_le_intCast.2 (show (0 : Int) ≤ ((l.length - 1 : Nat) : Int) by omega)
  exact this
 have hp0 : 0 ≤ p := by rw [e]; exact Rat.mul_nonneg h0 hlp
 have hp1 : p ≤ ((l.length - 1 : Nat) : Int) := by
  rw [e]
  have := Rat.mul_le_mul_of_nonneg_right h1 hlp
  rw [Rat.one_mul] at this
  rw [aeA] at this ⊢
  exact this
 clear e hs
 simp only [Option.bind_some]
 have hf0 : 0 ≤ p.floor := Rat.le_floor_iff.2 hp0
 have hf1 : p.floor ≤ ((l.length - 1 : Nat) : Int) := by
  have h2 := Rat.floor_le p
  have h3 := Rat.le_trans h2 hp1
  exact Rat.intCast_le_intCast.1 h3
 have efl : fl p = p.floor := Int.le_antisymm (Rat.le_floor_iff.2 (aQ7 p)) ((ai2 p _).2 (Rat.floor_le p))
 have ifl : aa9 (fl p) := by rw [efl]; exact ⟨by omega, by omega⟩
 refine uF rfl (uC _ (show ajL (fx p, ()) = some (dec (fl p), 0, ()) from ?_) (uF rfl (uC _ (aRo (z := fl p) ?_) (uF rfl ?_))))
 ·unfold ajL; dsimp only; rw [afJ hp]
 ·exact ifl
 dsimp only
 rw [efl]
 generalize hF : p.floor = F at hf0 hf1
 have hpl : aiW l p = min F.toNat (l.length - 2) := by unfold aiW; rw [hF]
 obtain ⟨n, rfl⟩ := Int.eq_ofNat_of_zero_le hf0
 have wn : w64 ((n : Int) + 1) = ((n + 1 : Nat) : Int) := by rw [aaA (by omega)]; omega
 rw [wn]
 simp only [aaM]
 have hD : ∀ k, k + 1 < l.length → w64 (l.getD (k + 1) 0 - l.getD k 0) = l.getD (k + 1) 0 - l.getD k 0 := by
  intro k hk
  have b := ajQ ht (show k < l.length by omega)
  have b1 := ajQ ht hk
  exact aaA (by have := b.1; have := b.2; have := b1.1; have := b1.2; omega)
 rw [Int.toNat_natCast] at hpl
 repeat (first | refine uV ?_ | refine uF (bne_self_eq_false _) ?_)
 refine uF sd ?_
 rcases Nat.eq_zero_or_pos n with c0 | c0
 ·refine uF sd ?_
  repeat (first | refine uV ?_ | refine uF (bne_self_eq_false _) ?_)
  by_cases c1 : n < l.length - 2
  ·refine uT sd ?_
   exact al6 ht hp (k := n) (by omega) (by rw [hpl]; omega) _ rfl rfl rfl (hD n (by omega)) ⟨by exact sn, by exact sn⟩ ⟨by exact sn, by exact sn⟩ ⟨by exact sn, by exact sn⟩
  refine uF sd ?_
  by_cases c2 : n = l.length - 2
  ·refine uF sd ?_
   exact al6 ht hp (k := n) (by omega) (by rw [hpl]; omega) _ rfl rfl rfl (hD n (by omega)) ⟨by exact sn, by exact sn⟩ ⟨by exact sn, by exact sn⟩ ⟨by exact sn, by exact sn⟩
  refine uT sd ?_
  exact al6 ht hp (k := l.length - 2) (by omega) (by rw [hpl]; omega) _ rfl rfl rfl (hD (l.length - 2) (by omega)) ⟨by exact sn, by exact sn⟩ ⟨by exact sn, by exact sn⟩ ⟨by exact sn, by exact sn⟩
 ·refine uT sd ?_
  repeat (first | refine uV ?_ | refine uF (bne_self_eq_false _) ?_)
  by_cases c1 : n < l.length - 2
  ·refine uT sd ?_
   exact al6 ht hp (k := n) (by omega) (by rw [hpl]; omega) _ rfl rfl rfl (hD n (by omega)) ⟨by exact sn, by exact sn⟩ ⟨by exact sn, by exact sn⟩ ⟨by exact sn, by exact sn⟩
  refine uF sd ?_
  by_cases c2 : n = l.length - 2
  ·refine uF sd ?_
   exact al6 ht hp (k := n) (by omega) (by rw [hpl]; omega) _ rfl rfl rfl (hD n (by omega)) ⟨by exact sn, by exact sn⟩ ⟨by exact sn, by exact sn⟩ ⟨by exact sn, by exact sn⟩
  refine uT sd ?_
  exact al6 ht hp (k := l.length - 2) (by omega) (by rw [hpl]; omega) _ rfl rfl rfl (hD (l.length - 2) (by omega)) ⟨by exact sn, by exact sn⟩ ⟨by exact sn, by exact sn⟩ ⟨by exact sn, by exact sn⟩
set_option maxRecDepth 100000
open Go Go.Vg Go.Proofs
noncomputable section
abbrev DTl (d : Int × List Int × List (Int × Int × Int × Int × Int × Int × Unit) × Bool × Bool × Unit) : Prop := Qq true ∧ (Qq (42 : TypeId) ∧ Qq (0 : Int) ∧ True ∧ True ∧ True) ∧ Qq true ∧ (Qq (25 : TypeId) ∧ Qq d.1 ∧ Qq d.2.1 ∧ Qq d.2.2.1 ∧ Qq d.2.2.2.1 ∧ Qq d.2.2.2.2.1 ∧ True) ∧ Qq true ∧ True
abbrev gP (d : Int × List Int × List (Int × Int × Int × Int × Int × Int × Unit) × Bool × Bool × Unit) (i : Int) := gi d.2.2.1 i (0, 0, 0, 0, 0, 0, ())
def aEV : LTab := [(70, 7, 4100, { tag := 0, ι := Bool × (List Int) × Unit, vs := .appN (.c 3 1) 4 3 (Ty.int IntKind.i64) <| .nil, ks := [3, 2, 1], kh := [3, 1, 0], fresh := 1 }), (70, 58, 5124, { tag := 1, ι := (Int) × Bool × (List Int) × Unit, vs := .dat (.s 4) (Ty.int IntKind.i64) <| .appN (.c 3 1) 5 3 (Ty.int IntKind.i64) <| .nil, ks := [3, 2, 1], kh := [3, 1, 0], fresh := 1 }), (70, 60, 5124, { tag := 2, ι := Bool × (List Int) × Unit, vs := .appN (.c 3 1) 5 3 (Ty.int IntKind.i64) <| .nil, ks := [3, 2, 1], kh := [3, 1, 0], fresh := 1 }), (70, 4014, 19459, { tag := 3, ι := (Int) × (Int) × (List Int) × Unit, vs := .dat (.s 7) (Ty.int IntKind.i64) <| .dat (.s 6) (Ty.int IntKind.i64) <| .row 5 (Ty.int IntKind.i64) <| .nil, ks := [5, 3, 2], kh := [5, 3, 1, 0], fresh := 0 }), (70, 60, 5123, { tag := 4, ι := (List Int) × Unit, vs := .app (.c 3 1) 5 3 (Ty.int IntKind.i64) <| .nil, ks := [3, 2, 1], kh := [3, 1, 0], fresh := 1 })]
def ag4 (i : (Int) × Bool × (List Int) × Unit) (d : Int × List Int × List (Int × Int × Int × Int × Int × Int × Unit) × Bool × Bool × Unit) : TT (((Int) × Bool × (List Int) × Unit) ⊕ ((Bool × (List Int) × Unit) ⊕ ((Int × List Int × List (Int × Int × Int × Int × Int × Int × Unit) × Unit) × Unit))) :=
 .tt <| .lt (i.2.2.1 : List Int) fun z4 => .triv ((Qq 3 ∧ Qq 0 ∧ Qq true) ∧ (Qq 1 ∧ Qq 0 ∧ Qq true) ∧ (Qq 0 ∧ Qq 0 ∧ Qq true) ∧ True) tv <| .triv ((Qq (3 : TypeId) ∧ Qq z4) ∧ Qq true ∧ (Qq (42 : TypeId) ∧ Qq (2 : Int) ∧ (Qq 4 ∧ Qq 0 ∧ Qq (List.length z4) ∧ Qq true) ∧ True ∧ True) ∧ DTl d) tv <| .ok (.inr (.inl ((false, z4, ()))))
def ak8 (d : Int × List Int × List (Int × Int × Int × Int × Int × Int × Unit) × Bool × Bool × Unit) (i : (Int) × Bool × (List Int) × Unit) : TT (((Int) × Bool × (List Int) × Unit) ⊕ ((Bool × (List Int) × Unit) ⊕ ((Int × List Int × List (Int × Int × Int × Int × Int × Int × Unit) × Unit) × Unit))) :=
 .ite (i.2.1)
 (.ite (decide (i.1 < len d.2.1))
  (.ite (decide (i.1 < 8))
   (.need (inb i.1 (len d.2.1)) <| .need (1 * 8 ≤ 140737488355328) <| .tt <| .lt (w64 (i.1 + 1) : Int) fun z => .lt ([w64 (gi d.2.1 i.1 0)] : List Int) fun z1 => .triv (Qq z ∧ (Qq 3 ∧ Qq 0 ∧ Qq true) ∧ (Qq 1 ∧ Qq 0 ∧ Qq true) ∧ (Qq 0 ∧ Qq 0 ∧ Qq true) ∧ True) tv <| .triv ((Qq (3 : TypeId) ∧ Qq z1) ∧ Qq true ∧ (Qq (42 : TypeId) ∧ Qq (2 : Int) ∧ (Qq 5 ∧ Qq 0 ∧ Qq 1 ∧ Qq true) ∧ True ∧ True) ∧ DTl d) tv <| .ok (.inl ((z, false, z1, ()))))
   (.tt <| .triv ((Qq 3 ∧ Qq 0 ∧ Qq true) ∧ (Qq 1 ∧ Qq 0 ∧ Qq true) ∧ (Qq 0 ∧ Qq 0 ∧ Qq true) ∧ True) tv <| .triv ((Qq (42 : TypeId) ∧ Qq (2 : Int) ∧ True ∧ True ∧ True) ∧ DTl d) tv <| .ok (.inr (.inl ((true, [], ()))))))
  (.tt <| .triv ((Qq 3 ∧ Qq 0 ∧ Qq true) ∧ (Qq 1 ∧ Qq 0 ∧ Qq true) ∧ (Qq 0 ∧ Qq 0 ∧ Qq true) ∧ True) tv <| .triv ((Qq (42 : TypeId) ∧ Qq (2 : Int) ∧ True ∧ True ∧ True) ∧ DTl d) tv <| .ok (.inr (.inl ((true, [], ()))))))
 (.ite (decide (i.1 < len d.2.1))
  (.ite (decide (i.1 < 8))
   (.need (inb i.1 (len d.2.1)) <| .need ((List.length i.2.2.1 + 1) * 8 ≤ 140737488355328) <| .tt <| .lt (w64 (i.1 + 1) : Int) fun z2 => .lt (List.take (List.length i.2.2.1) i.2.2.1 ++ [w64 (gi d.2.1 i.1 0)] : List Int) fun z3 => .triv (Qq z2 ∧ (Qq 3 ∧ Qq 0 ∧ Qq true) ∧ (Qq 1 ∧ Qq 0 ∧ Qq true) ∧ (Qq 0 ∧ Qq 0 ∧ Qq true) ∧ True) tv <| .need ((((3 : TypeId) = 3) ∧ ((z3 : List Int) = z3)) ∧ (true = true) ∧ (((42 : TypeId) = 42) ∧ (((2 : Int) = 2) ∧ ((((5) = (5)) ∧ (((0) = (0)) ∧ ((List.length i.2.2.1 + 1 = List.length z3) ∧ ((true) = (true))))) ∧ (True ∧ True)))) ∧ DTl d) <| .ok (.inl ((z2, false, z3, ()))))
   (ag4 i d))
  (ag4 i d))
def ahU (d : Int × List Int × List (Int × Int × Int × Int × Int × Int × Unit) × Bool × Bool × Unit) (j : Bool × List Int × Unit) (i1 : Bool × List Int × Unit) (i2 : (Int) × (Int) × (List Int) × Unit) : TT (((Int) × (Int) × (List Int) × Unit) ⊕ ((Bool × (List Int) × Unit) ⊕ ((Int × List Int × List (Int × Int × Int × Int × Int × Int × Unit) × Unit) × Unit))) :=
 .ite (decide (i2.1 < len i1.2.1))
 (.need (inb i2.1 (len i1.2.1)) <| .need (w64 (Int.tdiv 65535 (len i1.2.1)) ≠ 0) <| .need (inb i2.1 (len i1.2.1)) <| .tt <| .lt (w64 (i2.1 + 1) : Int) fun z9 => .lt (w64 (w64 (i2.2.1 + 1) + Int.tmod (List.getD i2.2.2.1 (0 + Int.toNat i2.1) 0) (w64 (Int.tdiv 65535 (len i1.2.1)))) : Int) fun z10 => .lt (List.set i2.2.2.1 (0 + Int.toNat i2.1) (w64 (z10 - 1)) : List Int) fun z11 => .triv (Qq z10 ∧ Qq z9 ∧ Qq (w64 (Int.tdiv 65535 (len i1.2.1))) ∧ (Qq 3 ∧ Qq 0 ∧ Qq true) ∧ (Qq 1 ∧ Qq 0 ∧ Qq true) ∧ True) tv <| .triv ((Qq (3 : TypeId) ∧ Qq z11) ∧ Qq true ∧ (Qq (42 : TypeId) ∧ Qq (2 : Int) ∧ (Qq 5 ∧ Qq 0 ∧ Qq (List.length i1.2.1) ∧ Qq true) ∧ True ∧ True) ∧ DTl d) tv <| .ok (.inl ((z9, z10, z11, ()))))
 (.ok (.inr (.inr (((2, List.take (List.length i1.2.1) i2.2.2.1, [], ()), ())))))
def ak7 (d : Int × List Int × List (Int × Int × Int × Int × Int × Int × Unit) × Bool × Bool × Unit) (j : Bool × List Int × Unit) (i1 : Bool × (List Int) × Unit) : TT ((Bool × (List Int) × Unit) ⊕ ((Int × List Int × List (Int × Int × Int × Int × Int × Int × Unit) × Unit) × Unit)) :=
 .ite (i1.1)
 (.triv (1 * 8 ≤ 140737488355328) (by decide) <| .tt <| .lt ([w64 (65535 * (↑0 : Int))] : List Int) fun z6 => .triv ((Qq 3 ∧ Qq 0 ∧ Qq true) ∧ (Qq 1 ∧ Qq 0 ∧ Qq true) ∧ (Qq 0 ∧ Qq 0 ∧ Qq true) ∧ True) tv <| .triv ((Qq (3 : TypeId) ∧ Qq z6) ∧ Qq true ∧ (Qq (42 : TypeId) ∧ Qq (2 : Int) ∧ (Qq 5 ∧ Qq 0 ∧ Qq 1 ∧ Qq true) ∧ True ∧ True) ∧ DTl d) tv <| .ok (.inl ((false, z6, ()))))
 (.ite (decide (len i1.2.1 < 2))
 (.need ((List.length i1.2.1 + 1) * 8 ≤ 140737488355328) <| .tt <| .lt (List.take (List.length i1.2.1) i1.2.1 ++ [w64 (65535 * len i1.2.1)] : List Int) fun z7 => .triv ((Qq 3 ∧ Qq 0 ∧ Qq true) ∧ (Qq 1 ∧ Qq 0 ∧ Qq true) ∧ (Qq 0 ∧ Qq 0 ∧ Qq true) ∧ True) tv <| .need ((((3 : TypeId) = 3) ∧ ((z7 : List Int) = z7)) ∧ (true = true) ∧ (((42 : TypeId) = 42) ∧ (((2 : Int) = 2) ∧ ((((5) = (5)) ∧ (((0) = (0)) ∧ ((List.length i1.2.1 + 1 = List.length z7) ∧ ((true) = (true))))) ∧ (True ∧ True)))) ∧ DTl d) <| .ok (.inl ((false, z7, ()))))
 (.ite (d.2.2.2.2.1)
 (.need (len i1.2.1 ≠ 0) <| .loop 3 (.tt <| .lt (i1.2.1 : List Int) fun z8 => .triv (Qq (0 : Int) ∧ Qq (0 : Int) ∧ Qq (w64 (Int.tdiv 65535 (len z8))) ∧ (Qq 3 ∧ Qq 0 ∧ Qq true) ∧ (Qq 1 ∧ Qq 0 ∧ Qq true) ∧ True) tv <| .triv ((Qq (3 : TypeId) ∧ Qq z8) ∧ Qq true ∧ (Qq (42 : TypeId) ∧ Qq (2 : Int) ∧ (Qq 5 ∧ Qq 0 ∧ Qq (List.length z8) ∧ Qq true) ∧ True ∧ True) ∧ DTl d) tv <| .ok ((0, 0, z8, ()))) (ahU d j i1))
 (.ok (.inr (((2, List.take (List.length i1.2.1) i1.2.1, [], ()), ()))))))
def ahT (d : Int × List Int × List (Int × Int × Int × Int × Int × Int × Unit) × Bool × Bool × Unit) (j : Bool × List Int × Unit) (i3 : List Int × Unit) (i4 : (Int) × (Int) × (List Int) × Unit) : TT (((Int) × (Int) × (List Int) × Unit) ⊕ (((List Int) × Unit) ⊕ ((Int × List Int × List (Int × Int × Int × Int × Int × Int × Unit) × Unit) × Unit))) :=
 .ite (decide (i4.1 < len i3.1))
 (.need (inb i4.1 (len i3.1)) <| .need (w64 (Int.tdiv 65535 (len i3.1)) ≠ 0) <| .need (inb i4.1 (len i3.1)) <| .tt <| .lt (w64 (i4.1 + 1) : Int) fun z14 => .lt (w64 (w64 (i4.2.1 + 1) + Int.tmod (List.getD i4.2.2.1 (0 + Int.toNat i4.1) 0) (w64 (Int.tdiv 65535 (len i3.1)))) : Int) fun z15 => .lt (List.set i4.2.2.1 (0 + Int.toNat i4.1) (w64 (z15 - 1)) : List Int) fun z16 => .triv (Qq z15 ∧ Qq z14 ∧ Qq (w64 (Int.tdiv 65535 (len i3.1))) ∧ (Qq 3 ∧ Qq 0 ∧ Qq true) ∧ (Qq 1 ∧ Qq 0 ∧ Qq true) ∧ True) tv <| .triv ((Qq (3 : TypeId) ∧ Qq z16) ∧ Qq true ∧ (Qq (42 : TypeId) ∧ Qq (2 : Int) ∧ (Qq 5 ∧ Qq 0 ∧ Qq (List.length i3.1) ∧ Qq true) ∧ True ∧ True) ∧ DTl d) tv <| .ok (.inl ((z14, z15, z16, ()))))
 (.ok (.inr (.inr (((2, List.take (List.length i3.1) i4.2.2.1, [], ()), ())))))
def ak6 (d : Int × List Int × List (Int × Int × Int × Int × Int × Int × Unit) × Bool × Bool × Unit) (j : Bool × List Int × Unit) (i3 : (List Int) × Unit) : TT (((List Int) × Unit) ⊕ ((Int × List Int × List (Int × Int × Int × Int × Int × Int × Unit) × Unit) × Unit)) :=
 .ite (decide (len i3.1 < 2))
 (.need ((List.length i3.1 + 1) * 8 ≤ 140737488355328) <| .tt <| .lt (List.take (List.length i3.1) i3.1 ++ [w64 (65535 * len i3.1)] : List Int) fun z13 => .triv ((Qq 3 ∧ Qq 0 ∧ Qq true) ∧ (Qq 1 ∧ Qq 0 ∧ Qq true) ∧ (Qq 0 ∧ Qq 0 ∧ Qq true) ∧ True) tv <| .need ((((3 : TypeId) = 3) ∧ ((z13 : List Int) = z13)) ∧ (true = true) ∧ (((42 : TypeId) = 42) ∧ (((2 : Int) = 2) ∧ ((((5) = (5)) ∧ (((0) = (0)) ∧ ((List.length i3.1 + 1 = List.length z13) ∧ ((true) = (true))))) ∧ (True ∧ True)))) ∧ DTl d) <| .ok (.inl ((z13, ()))))
 (.ite (d.2.2.2.2.1)
 (.need (len i3.1 ≠ 0) <| .loop 3 (.tt <| .triv (Qq (0 : Int) ∧ Qq (0 : Int) ∧ Qq (w64 (Int.tdiv 65535 (len i3.1))) ∧ (Qq 3 ∧ Qq 0 ∧ Qq true) ∧ (Qq 1 ∧ Qq 0 ∧ Qq true) ∧ True) tv <| .triv ((Qq (3 : TypeId) ∧ Qq i3.1) ∧ Qq true ∧ (Qq (42 : TypeId) ∧ Qq (2 : Int) ∧ (Qq 5 ∧ Qq 0 ∧ Qq (List.length i3.1) ∧ Qq true) ∧ True ∧ True) ∧ DTl d) tv <| .ok ((0, 0, i3.1, ()))) (ahT d j i3))
 (.ok (.inr (((2, List.take (List.length i3.1) i3.1, [], ()), ())))))
def ahV (d : Int × List Int × List (Int × Int × Int × Int × Int × Int × Unit) × Bool × Bool × Unit) (j : Bool × (List Int) × Unit) : TT ((Int × List Int × List (Int × Int × Int × Int × Int × Int × Unit) × Unit) × Unit) :=
 .ite (j.1)
 (.loop 2 (.tt <| .triv ((Qq 3 ∧ Qq 0 ∧ Qq true) ∧ (Qq 1 ∧ Qq 0 ∧ Qq true) ∧ (Qq 0 ∧ Qq 0 ∧ Qq true) ∧ True) tv <| .triv ((Qq (42 : TypeId) ∧ Qq (2 : Int) ∧ True ∧ True ∧ True) ∧ DTl d) tv <| .ok ((true, [], ()))) (ak7 d j))
 (.loop 4 (.tt <| .lt (j.2.1 : List Int) fun z12 => .triv ((Qq 3 ∧ Qq 0 ∧ Qq true) ∧ (Qq 1 ∧ Qq 0 ∧ Qq true) ∧ (Qq 0 ∧ Qq 0 ∧ Qq true) ∧ True) tv <| .triv ((Qq (3 : TypeId) ∧ Qq z12) ∧ Qq true ∧ (Qq (42 : TypeId) ∧ Qq (2 : Int) ∧ (Qq 5 ∧ Qq 0 ∧ Qq (List.length z12) ∧ Qq true) ∧ True ∧ True) ∧ DTl d) tv <| .ok ((z12, ()))) (ak6 d j))
def ajT (d : Int × List Int × List (Int × Int × Int × Int × Int × Int × Unit) × Bool × Bool × Unit) : TT ((Int × List Int × List (Int × Int × Int × Int × Int × Int × Unit) × Unit) × Unit) :=
 .join 0 (ι := Bool × (List Int) × Unit) (.loop 1 (.tt <| .triv (Qq (0 : Int) ∧ (Qq 3 ∧ Qq 0 ∧ Qq true) ∧ (Qq 1 ∧ Qq 0 ∧ Qq true) ∧ (Qq 0 ∧ Qq 0 ∧ Qq true) ∧ True) tv <| .triv ((Qq (42 : TypeId) ∧ Qq (2 : Int) ∧ True ∧ True ∧ True) ∧ DTl d) tv <| .ok ((0, true, [], ()))) (ak8 d)) (ahV d)
def aAX : LTab := [(69, 250, 11268, { tag := 0, ι := (Int) × (Int) × Bool × (List (Int × Int × Int × Int × Int × Int × Unit)) × Unit, vs := .dat (.s 6) (Ty.int IntKind.i64) <| .dat (.s 5) (Ty.int IntKind.i64) <| .appN (.c 3 2) 11 64 (Ty.pair (Ty.int IntKind.i64) (Ty.pair (Ty.int IntKind.i64) (Ty.pair (Ty.int IntKind.i64) (Ty.pair (Ty.int IntKind.i64) (Ty.pair (Ty.int IntKind.i64) (Ty.pair (Ty.int IntKind.i64) Ty.unit)))))) <| .nil, ks := [4, 3, 2, 1], kh := [3, 1, 0], fresh := 1 })]
def afL (d : Int × List Int × List (Int × Int × Int × Int × Int × Int × Unit) × Bool × Bool × Unit) : TT (((Int) × (Int) × Bool × (List (Int × Int × Int × Int × Int × Int × Unit)) × Unit) ⊕ ((Int × List Int × List (Int × Int × Int × Int × Int × Int × Unit) × Unit) × Unit)) :=
 .ite (d.2.2.2.2.1)
 (.triv (asT Int 0 ≤ 1 ∧ 1 ≤ (↑1 : Int)) (by decide) <| .triv (inb (w64 (1 - 1)) (↑1 : Int)) (by decide) <| .ok (.inr (((3, [], List.take 1 (List.set [(0, 1000000, 0, 1, 1, 0, ())] (0 + Int.toNat (w64 (1 - 1))) (1000000, (List.getD [(0, 1000000, 0, 1, 1, 0, ())] (0 + Int.toNat (w64 (1 - 1))) (0, 0, 0, 0, 0, 0, ())).2)), ()), ()))))
 (.triv (inb (w64 (1 - 1)) (↑1 : Int)) (by decide) <| .ok (.inr (((3, [], List.take 1 (List.set [(0, 1000000, 0, 1, 1, 0, ())] (0 + Int.toNat (w64 (1 - 1))) (1000000, (List.getD [(0, 1000000, 0, 1, 1, 0, ())] (0 + Int.toNat (w64 (1 - 1))) (0, 0, 0, 0, 0, 0, ())).2)), ()), ()))))
def aiH (d : Int × List Int × List (Int × Int × Int × Int × Int × Int × Unit) × Bool × Bool × Unit) (i : (Int) × (Int) × Bool × (List (Int × Int × Int × Int × Int × Int × Unit)) × Unit) : TT (((Int) × (Int) × Bool × (List (Int × Int × Int × Int × Int × Int × Unit)) × Unit) ⊕ ((Int × List Int × List (Int × Int × Int × Int × Int × Int × Unit) × Unit) × Unit)) :=
 .ite (i.2.2.1)
 (.ite (decide (i.1 < if 3 < len d.2.2.1 then 3 else len d.2.2.1))
  (.need (inb i.1 (len d.2.2.1)) <| .triv (asT Int 4 ≠ 0) (by decide) <| .ite (d.2.2.2.1)
   (.triv (asT Int 4 ≠ 0) (by decide) <| .ite (d.2.2.2.2.1)
    (.call (abK (w64 (1 + w64 (Int.tmod (gP d i.1).2.2.2.2.1 4)), w64 (1 + w64 (Int.tmod (gP d i.1).2.2.2.2.2.1 4)), ())) Dd1 fun y =>
     .ite (y.1)
     (.need (1 * 48 ≤ 140737488355328) <| .tt <| .lt (w64 (i.1 + 1) : Int) fun z1 => .lt (w64 (w64 (i.2.1 + 1000) + w64 (1000 * w64 (gP d i.1).1)) : Int) fun z2 => .lt ([(z2, if w64 (0 - w64 (100 * w64 (gP d i.1).2.1)) > w64 (100 * w64 (gP d i.1).2.1) then w64 (0 - w64 (100 * w64 (gP d i.1).2.1)) else w64 (100 * w64 (gP d i.1).2.1), if w64 (0 - w64 (10 * w64 (gP d i.1).2.2.1)) > w64 (10 * w64 (gP d i.1).2.2.1) then w64 (0 - w64 (10 * w64 (gP d i.1).2.2.1)) else w64 (10 * w64 (gP d i.1).2.2.1), 1, w64 (1 + w64 (Int.tmod (gP d i.1).2.2.2.2.2.1 4)), w64 (10 * w64 (gP d i.1).2.2.2.1), ())] : List (Int × Int × Int × Int × Int × Int × Unit)) fun z3 => .triv (Qq z2 ∧ Qq z1 ∧ Qq (if 3 < len d.2.2.1 then 3 else len d.2.2.1 : Int) ∧ (Qq 3 ∧ Qq 0 ∧ Qq true) ∧ (Qq 1 ∧ Qq 0 ∧ Qq true) ∧ (Qq 0 ∧ Qq 0 ∧ Qq true) ∧ True) tv <| .triv ((Qq (64 : TypeId) ∧ Qq z3) ∧ Qq true ∧ (Qq (42 : TypeId) ∧ Qq (3 : Int) ∧ True ∧ (Qq 11 ∧ Qq 0 ∧ Qq 1 ∧ Qq true) ∧ True) ∧ DTl d) tv <| .ok (.inl ((z1, z2, false, z3, ()))))
     (.need (1 * 48 ≤ 140737488355328) <| .tt <| .lt (w64 (i.1 + 1) : Int) fun z4 => .lt (w64 (w64 (i.2.1 + 1000) + w64 (1000 * w64 (gP d i.1).1)) : Int) fun z5 => .lt ([(z5, if w64 (0 - w64 (100 * w64 (gP d i.1).2.1)) > w64 (100 * w64 (gP d i.1).2.1) then w64 (0 - w64 (100 * w64 (gP d i.1).2.1)) else w64 (100 * w64 (gP d i.1).2.1), if w64 (0 - w64 (10 * w64 (gP d i.1).2.2.1)) > w64 (10 * w64 (gP d i.1).2.2.1) then w64 (0 - w64 (10 * w64 (gP d i.1).2.2.1)) else w64 (10 * w64 (gP d i.1).2.2.1), w64 (1 + w64 (Int.tmod (gP d i.1).2.2.2.2.1 4)), w64 (1 + w64 (Int.tmod (gP d i.1).2.2.2.2.2.1 4)), w64 (10 * w64 (gP d i.1).2.2.2.1), ())] : List (Int × Int × Int × Int × Int × Int × Unit)) fun z6 => .triv (Qq z5 ∧ Qq z4 ∧ Qq (if 3 < len d.2.2.1 then 3 else len d.2.2.1 : Int) ∧ (Qq 3 ∧ Qq 0 ∧ Qq true) ∧ (Qq 1 ∧ Qq 0 ∧ Qq true) ∧ (Qq 0 ∧ Qq 0 ∧ Qq true) ∧ True) tv <| .triv ((Qq (64 : TypeId) ∧ Qq z6) ∧ Qq true ∧ (Qq (42 : TypeId) ∧ Qq (3 : Int) ∧ True ∧ (Qq 11 ∧ Qq 0 ∧ Qq 1 ∧ Qq true) ∧ True) ∧ DTl d) tv <| .ok (.inl ((z4, z5, false, z6, ())))))
    (.call (abK (w64 (1 + w64 (Int.tmod (gP d i.1).2.2.2.2.1 4)), w64 (1 + w64 (Int.tmod (gP d i.1).2.2.2.2.2.1 4)), ())) Dd1 fun y1 =>
     .ite (y1.1)
     (.need (1 * 48 ≤ 140737488355328) <| .tt <| .lt (w64 (i.1 + 1) : Int) fun z7 => .lt (w64 (w64 (i.2.1 + 1000) + w64 (1000 * w64 (gP d i.1).1)) : Int) fun z8 => .lt ([(z8, w64 (100 * w64 (gP d i.1).2.1), w64 (10 * w64 (gP d i.1).2.2.1), 1, w64 (1 + w64 (Int.tmod (gP d i.1).2.2.2.2.2.1 4)), w64 (10 * w64 (gP d i.1).2.2.2.1), ())] : List (Int × Int × Int × Int × Int × Int × Unit)) fun z9 => .triv (Qq z8 ∧ Qq z7 ∧ Qq (if 3 < len d.2.2.1 then 3 else len d.2.2.1 : Int) ∧ (Qq 3 ∧ Qq 0 ∧ Qq true) ∧ (Qq 1 ∧ Qq 0 ∧ Qq true) ∧ (Qq 0 ∧ Qq 0 ∧ Qq true) ∧ True) tv <| .triv ((Qq (64 : TypeId) ∧ Qq z9) ∧ Qq true ∧ (Qq (42 : TypeId) ∧ Qq (3 : Int) ∧ True ∧ (Qq 11 ∧ Qq 0 ∧ Qq 1 ∧ Qq true) ∧ True) ∧ DTl d) tv <| .ok (.inl ((z7, z8, false, z9, ()))))
     (.need (1 * 48 ≤ 140737488355328) <| .tt <| .lt (w64 (i.1 + 1) : Int) fun z10 => .lt (w64 (w64 (i.2.1 + 1000) + w64 (1000 * w64 (gP d i.1).1)) : Int) fun z11 => .lt ([(z11, w64 (100 * w64 (gP d i.1).2.1), w64 (10 * w64 (gP d i.1).2.2.1), w64 (1 + w64 (Int.tmod (gP d i.1).2.2.2.2.1 4)), w64 (1 + w64 (Int.tmod (gP d i.1).2.2.2.2.2.1 4)), w64 (10 * w64 (gP d i.1).2.2.2.1), ())] : List (Int × Int × Int × Int × Int × Int × Unit)) fun z12 => .triv (Qq z11 ∧ Qq z10 ∧ Qq (if 3 < len d.2.2.1 then 3 else len d.2.2.1 : Int) ∧ (Qq 3 ∧ Qq 0 ∧ Qq true) ∧ (Qq 1 ∧ Qq 0 ∧ Qq true) ∧ (Qq 0 ∧ Qq 0 ∧ Qq true) ∧ True) tv <| .triv ((Qq (64 : TypeId) ∧ Qq z12) ∧ Qq true ∧ (Qq (42 : TypeId) ∧ Qq (3 : Int) ∧ True ∧ (Qq 11 ∧ Qq 0 ∧ Qq 1 ∧ Qq true) ∧ True) ∧ DTl d) tv <| .ok (.inl ((z10, z11, false, z12, ()))))))
   (.ite (d.2.2.2.2.1)
    (.call (abK (w64 (1 + w64 (Int.tmod (gP d i.1).2.2.2.2.1 4)), 1, ())) Dd1 fun y2 =>
     .ite (y2.1)
     (.need (1 * 48 ≤ 140737488355328) <| .tt <| .lt (w64 (i.1 + 1) : Int) fun z13 => .lt (w64 (w64 (i.2.1 + 1000) + w64 (1000 * w64 (gP d i.1).1)) : Int) fun z14 => .lt ([(z14, if w64 (0 - w64 (100 * w64 (gP d i.1).2.1)) > w64 (100 * w64 (gP d i.1).2.1) then w64 (0 - w64 (100 * w64 (gP d i.1).2.1)) else w64 (100 * w64 (gP d i.1).2.1), if w64 (0 - w64 (10 * w64 (gP d i.1).2.2.1)) > w64 (10 * w64 (gP d i.1).2.2.1) then w64 (0 - w64 (10 * w64 (gP d i.1).2.2.1)) else w64 (10 * w64 (gP d i.1).2.2.1), 1, 1, w64 (10 * w64 (gP d i.1).2.2.2.1), ())] : List (Int × Int × Int × Int × Int × Int × Unit)) fun z15 => .triv (Qq z14 ∧ Qq z13 ∧ Qq (if 3 < len d.2.2.1 then 3 else len d.2.2.1 : Int) ∧ (Qq 3 ∧ Qq 0 ∧ Qq true) ∧ (Qq 1 ∧ Qq 0 ∧ Qq true) ∧ (Qq 0 ∧ Qq 0 ∧ Qq true) ∧ True) tv <| .triv ((Qq (64 : TypeId) ∧ Qq z15) ∧ Qq true ∧ (Qq (42 : TypeId) ∧ Qq (3 : Int) ∧ True ∧ (Qq 11 ∧ Qq 0 ∧ Qq 1 ∧ Qq true) ∧ True) ∧ DTl d) tv <| .ok (.inl ((z13, z14, false, z15, ()))))
     (.need (1 * 48 ≤ 140737488355328) <| .tt <| .lt (w64 (i.1 + 1) : Int) fun z16 => .lt (w64 (w64 (i.2.1 + 1000) + w64 (1000 * w64 (gP d i.1).1)) : Int) fun z17 => .lt ([(z17, if w64 (0 - w64 (100 * w64 (gP d i.1).2.1)) > w64 (100 * w64 (gP d i.1).2.1) then w64 (0 - w64 (100 * w64 (gP d i.1).2.1)) else w64 (100 * w64 (gP d i.1).2.1), if w64 (0 - w64 (10 * w64 (gP d i.1).2.2.1)) > w64 (10 * w64 (gP d i.1).2.2.1) then w64 (0 - w64 (10 * w64 (gP d i.1).2.2.1)) else w64 (10 * w64 (gP d i.1).2.2.1), w64 (1 + w64 (Int.tmod (gP d i.1).2.2.2.2.1 4)), 1, w64 (10 * w64 (gP d i.1).2.2.2.1), ())] : List (Int × Int × Int × Int × Int × Int × Unit)) fun z18 => .triv (Qq z17 ∧ Qq z16 ∧ Qq (if 3 < len d.2.2.1 then 3 else len d.2.2.1 : Int) ∧ (Qq 3 ∧ Qq 0 ∧ Qq true) ∧ (Qq 1 ∧ Qq 0 ∧ Qq true) ∧ (Qq 0 ∧ Qq 0 ∧ Qq true) ∧ True) tv <| .triv ((Qq (64 : TypeId) ∧ Qq z18) ∧ Qq true ∧ (Qq (42 : TypeId) ∧ Qq (3 : Int) ∧ True ∧ (Qq 11 ∧ Qq 0 ∧ Qq 1 ∧ Qq true) ∧ True) ∧ DTl d) tv <| .ok (.inl ((z16, z17, false, z18, ())))))
    (.call (abK (w64 (1 + w64 (Int.tmod (gP d i.1).2.2.2.2.1 4)), 1, ())) Dd1 fun y3 =>
     .ite (y3.1)
     (.need (1 * 48 ≤ 140737488355328) <| .tt <| .lt (w64 (i.1 + 1) : Int) fun z19 => .lt (w64 (w64 (i.2.1 + 1000) + w64 (1000 * w64 (gP d i.1).1)) : Int) fun z20 => .lt ([(z20, w64 (100 * w64 (gP d i.1).2.1), w64 (10 * w64 (gP d i.1).2.2.1), 1, 1, w64 (10 * w64 (gP d i.1).2.2.2.1), ())] : List (Int × Int × Int × Int × Int × Int × Unit)) fun z21 => .triv (Qq z20 ∧ Qq z19 ∧ Qq (if 3 < len d.2.2.1 then 3 else len d.2.2.1 : Int) ∧ (Qq 3 ∧ Qq 0 ∧ Qq true) ∧ (Qq 1 ∧ Qq 0 ∧ Qq true) ∧ (Qq 0 ∧ Qq 0 ∧ Qq true) ∧ True) tv <| .triv ((Qq (64 : TypeId) ∧ Qq z21) ∧ Qq true ∧ (Qq (42 : TypeId) ∧ Qq (3 : Int) ∧ True ∧ (Qq 11 ∧ Qq 0 ∧ Qq 1 ∧ Qq true) ∧ True) ∧ DTl d) tv <| .ok (.inl ((z19, z20, false, z21, ()))))
     (.need (1 * 48 ≤ 140737488355328) <| .tt <| .lt (w64 (i.1 + 1) : Int) fun z22 => .lt (w64 (w64 (i.2.1 + 1000) + w64 (1000 * w64 (gP d i.1).1)) : Int) fun z23 => .lt ([(z23, w64 (100 * w64 (gP d i.1).2.1), w64 (10 * w64 (gP d i.1).2.2.1), w64 (1 + w64 (Int.tmod (gP d i.1).2.2.2.2.1 4)), 1, w64 (10 * w64 (gP d i.1).2.2.2.1), ())] : List (Int × Int × Int × Int × Int × Int × Unit)) fun z24 => .triv (Qq z23 ∧ Qq z22 ∧ Qq (if 3 < len d.2.2.1 then 3 else len d.2.2.1 : Int) ∧ (Qq 3 ∧ Qq 0 ∧ Qq true) ∧ (Qq 1 ∧ Qq 0 ∧ Qq true) ∧ (Qq 0 ∧ Qq 0 ∧ Qq true) ∧ True) tv <| .triv ((Qq (64 : TypeId) ∧ Qq z24) ∧ Qq true ∧ (Qq (42 : TypeId) ∧ Qq (3 : Int) ∧ True ∧ (Qq 11 ∧ Qq 0 ∧ Qq 1 ∧ Qq true) ∧ True) ∧ DTl d) tv <| .ok (.inl ((z22, z23, false, z24, ())))))))
  (.ite ((if 3 < len d.2.2.1 then 3 else len d.2.2.1) == 0)
   (afL d)
   (.ite (d.2.2.2.2.1)
    (.bad)
    (.bad))))
 (.ite (decide (i.1 < if 3 < len d.2.2.1 then 3 else len d.2.2.1))
  (.need (inb i.1 (len d.2.2.1)) <| .triv (asT Int 4 ≠ 0) (by decide) <| .ite (d.2.2.2.1)
   (.triv (asT Int 4 ≠ 0) (by decide) <| .ite (d.2.2.2.2.1)
    (.call (abK (w64 (1 + w64 (Int.tmod (gP d i.1).2.2.2.2.1 4)), w64 (1 + w64 (Int.tmod (gP d i.1).2.2.2.2.2.1 4)), ())) Dd1 fun y4 =>
     .ite (y4.1)
     (.need ((List.length i.2.2.2.1 + 1) * 48 ≤ 140737488355328) <| .tt <| .lt (w64 (i.1 + 1) : Int) fun z25 => .lt (w64 (w64 (i.2.1 + 1000) + w64 (1000 * w64 (gP d i.1).1)) : Int) fun z26 => .lt (List.take (List.length i.2.2.2.1) i.2.2.2.1 ++ [(z26, if w64 (0 - w64 (100 * w64 (gP d i.1).2.1)) > w64 (100 * w64 (gP d i.1).2.1) then w64 (0 - w64 (100 * w64 (gP d i.1).2.1)) else w64 (100 * w64 (gP d i.1).2.1), if w64 (0 - w64 (10 * w64 (gP d i.1).2.2.1)) > w64 (10 * w64 (gP d i.1).2.2.1) then w64 (0 - w64 (10 * w64 (gP d i.1).2.2.1)) else w64 (10 * w64 (gP d i.1).2.2.1), 1, w64 (1 + w64 (Int.tmod (gP d i.1).2.2.2.2.2.1 4)), w64 (10 * w64 (gP d i.1).2.2.2.1), ())] : List (Int × Int × Int × Int × Int × Int × Unit)) fun z27 => .triv (Qq z26 ∧ Qq z25 ∧ Qq (if 3 < len d.2.2.1 then 3 else len d.2.2.1 : Int) ∧ (Qq 3 ∧ Qq 0 ∧ Qq true) ∧ (Qq 1 ∧ Qq 0 ∧ Qq true) ∧ (Qq 0 ∧ Qq 0 ∧ Qq true) ∧ True) tv <| .need ((((64 : TypeId) = 64) ∧ ((z27 : List (Int × Int × Int × Int × Int × Int × Unit)) = z27)) ∧ (true = true) ∧ (((42 : TypeId) = 42) ∧ (((3 : Int) = 3) ∧ (True ∧ ((((11) = (11)) ∧ (((0) = (0)) ∧ ((List.length i.2.2.2.1 + 1 = List.length z27) ∧ ((true) = (true))))) ∧ True)))) ∧ DTl d) <| .ok (.inl ((z25, z26, false, z27, ()))))
     (.need ((List.length i.2.2.2.1 + 1) * 48 ≤ 140737488355328) <| .tt <| .lt (w64 (i.1 + 1) : Int) fun z28 => .lt (w64 (w64 (i.2.1 + 1000) + w64 (1000 * w64 (gP d i.1).1)) : Int) fun z29 => .lt (List.take (List.length i.2.2.2.1) i.2.2.2.1 ++ [(z29, if w64 (0 - w64 (100 * w64 (gP d i.1).2.1)) > w64 (100 * w64 (gP d i.1).2.1) then w64 (0 - w64 (100 * w64 (gP d i.1).2.1)) else w64 (100 * w64 (gP d i.1).2.1), if w64 (0 - w64 (10 * w64 (gP d i.1).2.2.1)) > w64 (10 * w64 (gP d i.1).2.2.1) then w64 (0 - w64 (10 * w64 (gP d i.1).2.2.1)) else w64 (10 * w64 (gP d i.1).2.2.1), w64 (1 + w64 (Int.tmod (gP d i.1).2.2.2.2.1 4)), w64 (1 + w64 (Int.tmod (gP d i.1).2.2.2.2.2.1 4)), w64 (10 * w64 (gP d i.1).2.2.2.1), ())] : List (Int × Int × Int × Int × Int × Int × Unit)) fun z30 => .triv (Qq z29 ∧ Qq z28 ∧ Qq (if 3 < len d.2.2.1 then 3 else len d.2.2.1 : Int) ∧ (Qq 3 ∧ Qq 0 ∧ Qq true) ∧ (Qq 1 ∧ Qq 0 ∧ Qq true) ∧ (Qq 0 ∧ Qq 0 ∧ Qq true) ∧ True) tv <| .need ((((64 : TypeId) = 64) ∧ ((z30 : List (Int × Int × Int × Int × Int × Int × Unit)) = z30)) ∧ (true = true) ∧ (((42 : TypeId) = 42) ∧ (((3 : Int) = 3) ∧ (True ∧ ((((11) = (11)) ∧ (((0) = (0)) ∧ ((List.length i.2.2.2.1 + 1 = List.length z30) ∧ ((true) = (true))))) ∧ True)))) ∧ DTl d) <| .ok (.inl ((z28, z29, false, z30, ())))))
    (.call (abK (w64 (1 + w64 (Int.tmod (gP d i.1).2.2.2.2.1 4)), w64 (1 + w64 (Int.tmod (gP d i.1).2.2.2.2.2.1 4)), ())) Dd1 fun y5 =>
     .ite (y5.1)
     (.need ((List.length i.2.2.2.1 + 1) * 48 ≤ 140737488355328) <| .tt <| .lt (w64 (i.1 + 1) : Int) fun z31 => .lt (w64 (w64 (i.2.1 + 1000) + w64 (1000 * w64 (gP d i.1).1)) : Int) fun z32 => .lt (List.take (List.length i.2.2.2.1) i.2.2.2.1 ++ [(z32, w64 (100 * w64 (gP d i.1).2.1), w64 (10 * w64 (gP d i.1).2.2.1), 1, w64 (1 + w64 (Int.tmod (gP d i.1).2.2.2.2.2.1 4)), w64 (10 * w64 (gP d i.1).2.2.2.1), ())] : List (Int × Int × Int × Int × Int × Int × Unit)) fun z33 => .triv (Qq z32 ∧ Qq z31 ∧ Qq (if 3 < len d.2.2.1 then 3 else len d.2.2.1 : Int) ∧ (Qq 3 ∧ Qq 0 ∧ Qq true) ∧ (Qq 1 ∧ Qq 0 ∧ Qq true) ∧ (Qq 0 ∧ Qq 0 ∧ Qq true) ∧ True) tv <| .need ((((64 : TypeId) = 64) ∧ ((z33 : List (Int × Int × Int × Int × Int × Int × Unit)) = z33)) ∧ (true = true) ∧ (((42 : TypeId) = 42) ∧ (((3 : Int) = 3) ∧ (True ∧ ((((11) = (11)) ∧ (((0) = (0)) ∧ ((List.length i.2.2.2.1 + 1 = List.length z33) ∧ ((true) = (true))))) ∧ True)))) ∧ DTl d) <| .ok (.inl ((z31, z32, false, z33, ()))))
     (.need ((List.length i.2.2.2.1 + 1) * 48 ≤ 140737488355328) <| .tt <| .lt (w64 (i.1 + 1) : Int) fun z34 => .lt (w64 (w64 (i.2.1 + 1000) + w64 (1000 * w64 (gP d i.1).1)) : Int) fun z35 => .lt (List.take (List.length i.2.2.2.1) i.2.2.2.1 ++ [(z35, w64 (100 * w64 (gP d i.1).2.1), w64 (10 * w64 (gP d i.1).2.2.1), w64 (1 + w64 (Int.tmod (gP d i.1).2.2.2.2.1 4)), w64 (1 + w64 (Int.tmod (gP d i.1).2.2.2.2.2.1 4)), w64 (10 * w64 (gP d i.1).2.2.2.1), ())] : List (Int × Int × Int × Int × Int × Int × Unit)) fun z36 => .triv (Qq z35 ∧ Qq z34 ∧ Qq (if 3 < len d.2.2.1 then 3 else len d.2.2.1 : Int) ∧ (Qq 3 ∧ Qq 0 ∧ Qq true) ∧ (Qq 1 ∧ Qq 0 ∧ Qq true) ∧ (Qq 0 ∧ Qq 0 ∧ Qq true) ∧ True) tv <| .need ((((64 : TypeId) = 64) ∧ ((z36 : List (Int × Int × Int × Int × Int × Int × Unit)) = z36)) ∧ (true = true) ∧ (((42 : TypeId) = 42) ∧ (((3 : Int) = 3) ∧ (True ∧ ((((11) = (11)) ∧ (((0) = (0)) ∧ ((List.length i.2.2.2.1 + 1 = List.length z36) ∧ ((true) = (true))))) ∧ True)))) ∧ DTl d) <| .ok (.inl ((z34, z35, false, z36, ()))))))
   (.ite (d.2.2.2.2.1)
    (.call (abK (w64 (1 + w64 (Int.tmod (gP d i.1).2.2.2.2.1 4)), 1, ())) Dd1 fun y6 =>
     .ite (y6.1)
     (.need ((List.length i.2.2.2.1 + 1) * 48 ≤ 140737488355328) <| .tt <| .lt (w64 (i.1 + 1) : Int) fun z37 => .lt (w64 (w64 (i.2.1 + 1000) + w64 (1000 * w64 (gP d i.1).1)) : Int) fun z38 => .lt (List.take (List.length i.2.2.2.1) i.2.2.2.1 ++ [(z38, if w64 (0 - w64 (100 * w64 (gP d i.1).2.1)) > w64 (100 * w64 (gP d i.1).2.1) then w64 (0 - w64 (100 * w64 (gP d i.1).2.1)) else w64 (100 * w64 (gP d i.1).2.1), if w64 (0 - w64 (10 * w64 (gP d i.1).2.2.1)) > w64 (10 * w64 (gP d i.1).2.2.1) then w64 (0 - w64 (10 * w64 (gP d i.1).2.2.1)) else w64 (10 * w64 (gP d i.1).2.2.1), 1, 1, w64 (10 * w64 (gP d i.1).2.2.2.1), ())] : List (Int × Int × Int × Int × Int × Int × Unit)) fun z39 => .triv (Qq z38 ∧ Qq z37 ∧ Qq (if 3 < len d.2.2.1 then 3 else len d.2.2.1 : Int) ∧ (Qq 3 ∧ Qq 0 ∧ Qq true) ∧ (Qq 1 ∧ Qq 0 ∧ Qq true) ∧ (Qq 0 ∧ Qq 0 ∧ Qq true) ∧ True) tv <| .need ((((64 : TypeId) = 64) ∧ ((z39 : List (Int × Int × Int × Int × Int × Int × Unit)) = z39)) ∧ (true = true) ∧ (((42 : TypeId) = 42) ∧ (((3 : Int) = 3) ∧ (True ∧ ((((11) = (11)) ∧ (((0) = (0)) ∧ ((List.length i.2.2.2.1 + 1 = List.length z39) ∧ ((true) = (true))))) ∧ True)))) ∧ DTl d) <| .ok (.inl ((z37, z38, false, z39, ()))))
     (.need ((List.length i.2.2.2.1 + 1) * 48 ≤ 140737488355328) <| .tt <| .lt (w64 (i.1 + 1) : Int) fun z40 => .lt (w64 (w64 (i.2.1 + 1000) + w64 (1000 * w64 (gP d i.1).1)) : Int) fun z41 => .lt (List.take (List.length i.2.2.2.1) i.2.2.2.1 ++ [(z41, if w64 (0 - w64 (100 * w64 (gP d i.1).2.1)) > w64 (100 * w64 (gP d i.1).2.1) then w64 (0 - w64 (100 * w64 (gP d i.1).2.1)) else w64 (100 * w64 (gP d i.1).2.1), if w64 (0 - w64 (10 * w64 (gP d i.1).2.2.1)) > w64 (10 * w64 (gP d i.1).2.2.1) then w64 (0 - w64 (10 * w64 (gP d i.1).2.2.1)) else w64 (10 * w64 (gP d i.1).2.2.1), w64 (1 + w64 (Int.tmod (gP d i.1).2.2.2.2.1 4)), 1, w64 (10 * w64 (gP d i.1).2.2.2.1), ())] : List (Int × Int × Int × Int × Int × Int × Unit)) fun z42 => .triv (Qq z41 ∧ Qq z40 ∧ Qq (if 3 < len d.2.2.1 then 3 else len d.2.2.1 : Int) ∧ (Qq 3 ∧ Qq 0 ∧ Qq true) ∧ (Qq 1 ∧ Qq 0 ∧ Qq true) ∧ (Qq 0 ∧ Qq 0 ∧ Qq true) ∧ True) tv <| .need ((((64 : TypeId) = 64) ∧ ((z42 : List (Int × Int × Int × Int × Int × Int × Unit)) = z42)) ∧ (true = true) ∧ (((42 : TypeId) = 42) ∧ (((3 : Int) = 3) ∧ (True ∧ ((((11) = (11)) ∧ (((0) = (0)) ∧ ((List.length i.2.2.2.1 + 1 = List.length z42) ∧ ((true) = (true))))) ∧ True)))) ∧ DTl d) <| .ok (.inl ((z40, z41, false, z42, ())))))
    (.call (abK (w64 (1 + w64 (Int.tmod (gP d i.1).2.2.2.2.1 4)), 1, ())) Dd1 fun y7 =>
     .ite (y7.1)
     (.need ((List.length i.2.2.2.1 + 1) * 48 ≤ 140737488355328) <| .tt <| .lt (w64 (i.1 + 1) : Int) fun z43 => .lt (w64 (w64 (i.2.1 + 1000) + w64 (1000 * w64 (gP d i.1).1)) : Int) fun z44 => .lt (List.take (List.length i.2.2.2.1) i.2.2.2.1 ++ [(z44, w64 (100 * w64 (gP d i.1).2.1), w64 (10 * w64 (gP d i.1).2.2.1), 1, 1, w64 (10 * w64 (gP d i.1).2.2.2.1), ())] : List (Int × Int × Int × Int × Int × Int × Unit)) fun z45 => .triv (Qq z44 ∧ Qq z43 ∧ Qq (if 3 < len d.2.2.1 then 3 else len d.2.2.1 : Int) ∧ (Qq 3 ∧ Qq 0 ∧ Qq true) ∧ (Qq 1 ∧ Qq 0 ∧ Qq true) ∧ (Qq 0 ∧ Qq 0 ∧ Qq true) ∧ True) tv <| .need ((((64 : TypeId) = 64) ∧ ((z45 : List (Int × Int × Int × Int × Int × Int × Unit)) = z45)) ∧ (true = true) ∧ (((42 : TypeId) = 42) ∧ (((3 : Int) = 3) ∧ (True ∧ ((((11) = (11)) ∧ (((0) = (0)) ∧ ((List.length i.2.2.2.1 + 1 = List.length z45) ∧ ((true) = (true))))) ∧ True)))) ∧ DTl d) <| .ok (.inl ((z43, z44, false, z45, ()))))
     (.need ((List.length i.2.2.2.1 + 1) * 48 ≤ 140737488355328) <| .tt <| .lt (w64 (i.1 + 1) : Int) fun z46 => .lt (w64 (w64 (i.2.1 + 1000) + w64 (1000 * w64 (gP d i.1).1)) : Int) fun z47 => .lt (List.take (List.length i.2.2.2.1) i.2.2.2.1 ++ [(z47, w64 (100 * w64 (gP d i.1).2.1), w64 (10 * w64 (gP d i.1).2.2.1), w64 (1 + w64 (Int.tmod (gP d i.1).2.2.2.2.1 4)), 1, w64 (10 * w64 (gP d i.1).2.2.2.1), ())] : List (Int × Int × Int × Int × Int × Int × Unit)) fun z48 => .triv (Qq z47 ∧ Qq z46 ∧ Qq (if 3 < len d.2.2.1 then 3 else len d.2.2.1 : Int) ∧ (Qq 3 ∧ Qq 0 ∧ Qq true) ∧ (Qq 1 ∧ Qq 0 ∧ Qq true) ∧ (Qq 0 ∧ Qq 0 ∧ Qq true) ∧ True) tv <| .need ((((64 : TypeId) = 64) ∧ ((z48 : List (Int × Int × Int × Int × Int × Int × Unit)) = z48)) ∧ (true = true) ∧ (((42 : TypeId) = 42) ∧ (((3 : Int) = 3) ∧ (True ∧ ((((11) = (11)) ∧ (((0) = (0)) ∧ ((List.length i.2.2.2.1 + 1 = List.length z48) ∧ ((true) = (true))))) ∧ True)))) ∧ DTl d) <| .ok (.inl ((z46, z47, false, z48, ())))))))
  (.ite ((if 3 < len d.2.2.1 then 3 else len d.2.2.1) == 0)
   (afL d)
   (.ite (d.2.2.2.2.1)
    (.need (asT Int 0 ≤ 1 ∧ 1 ≤ len i.2.2.2.1) <| .triv (inb (w64 (1 - 1)) (↑1 : Int)) (by decide) <| .ok (.inr (((3, [], List.take 1 (List.set i.2.2.2.1 (0 + Int.toNat (w64 (1 - 1))) (1000000, (List.getD i.2.2.2.1 (0 + Int.toNat (w64 (1 - 1))) (0, 0, 0, 0, 0, 0, ())).2)), ()), ()))))
    (.need (inb (w64 ((if 3 < len d.2.2.1 then 3 else len d.2.2.1) - 1)) (len i.2.2.2.1)) <| .ok (.inr (((3, [], List.take (List.length i.2.2.2.1) (List.set i.2.2.2.1 (0 + Int.toNat (w64 ((if 3 < len d.2.2.1 then 3 else len d.2.2.1) - 1))) (1000000, (List.getD i.2.2.2.1 (0 + Int.toNat (w64 ((if 3 < len d.2.2.1 then 3 else len d.2.2.1) - 1))) (0, 0, 0, 0, 0, 0, ())).2)), ()), ())))))))
def agQ (d : Int × List Int × List (Int × Int × Int × Int × Int × Int × Unit) × Bool × Bool × Unit) : TT ((Int × List Int × List (Int × Int × Int × Int × Int × Int × Unit) × Unit) × Unit) :=
 .loop 0 (.tt <| .lt ([] : List (Int × Int × Int × Int × Int × Int × Unit)) fun z => .triv (Qq (0 : Int) ∧ Qq (0 : Int) ∧ Qq (if 3 < len d.2.2.1 then 3 else len d.2.2.1 : Int) ∧ (Qq 3 ∧ Qq 0 ∧ Qq true) ∧ (Qq 1 ∧ Qq 0 ∧ Qq true) ∧ (Qq 0 ∧ Qq 0 ∧ Qq true) ∧ True) tv <| .triv ((Qq (42 : TypeId) ∧ Qq (3 : Int) ∧ True ∧ True ∧ True) ∧ DTl d) tv <| .ok ((0, 0, true, z, ()))) (aiH d)
end
end Go.Vs
