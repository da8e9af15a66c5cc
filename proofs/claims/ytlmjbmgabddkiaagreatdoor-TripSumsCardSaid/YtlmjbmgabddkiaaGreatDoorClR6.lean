/-
  A runner over the evaluator, and calls that have been run. Own work; no condition.
-/
import Derived.Test.YtlmjbmgabddkiaaGreatDoorClR5
import Derived.Test.YtlmjbmgabddkiaaGreatDoorLib
import Derived.Lib.AppendIntMem
import Derived.Lib.Join
import Derived.Lib.Repeat
set_option linter.unusedVariables false
set_option linter.unusedSimpArgs false
namespace Go.Vg
open Go Go.RowKit Go.Proofs
def Gt (P : Program) (w : World) : Prop := Lib.TabIs P w "internal/strconv.uint64pow10" .u64 Lib.pow10Tab
section
variable {P : Program}
theorem aMn {g : Nat} (hg : P.globalNamed "internal/strconv.uint64pow10" = some g) : adN (Gt P) := by
 intro w w' hb h
 unfold Gt Lib.TabIs World.var? at h ⊢
 rw [hg] at h ⊢
 simp only [wj] at h ⊢
 have hlt : g < w.heap.size := by
  rcases zt g w.heap.size with h' | h'
  ·exact h'
  ·rw [xq h'] at h; cases h
 rw [hb.block g hlt]
 exact h
theorem aKa (hg : (P.globalNamed "internal/strconv.uint64pow10").isSome = true) : adN (Gt P) := by
 obtain ⟨g, h⟩ := xk.1 hg
 exact aMn h
theorem anR : ∀ (f n : Nat) (acc : List UInt8), n < 10 ^ (f + 1) → agC (f + 1) n acc = Lib.decDigits n ++ acc
 | 0, n, acc, h => by
  have h9 : n < 10 := by simpa using h
  rw [Lib.decDigits_one h9]
  simp [agC, show Nat.ble n 9 = true from xz zb]
 | f + 1, n, acc, h => by
  by_cases h9 : n < 10
  ·rw [Lib.decDigits_one h9]
   simp [agC, show Nat.ble n 9 = true from xz zb]
  ·have hb : Nat.ble n 9 = false := by
    cases hc : Nat.ble n 9 with
    | false => rfl
    | true => have := Nat.le_of_ble_eq_true hc; omega
   have hd : n / 10 < 10 ^ (f + 1) := by
    rw [yL zb]
    rw [yA] at h
    exact h
   rw [show agC (f + 1 + 1) n acc = agC (f + 1) (n / 10) (UInt8.ofNat (48 + n % 10) :: acc) by rw [agC, hb], anR f _ _ hd]
   conv => rhs; rw [Lib.decDigits, dif_neg h9]
   simp
theorem aCO {n : Int} (h0 : -9223372036854775808 ≤ n) (h1 : n ≤ 9223372036854775807) : aJ5 n = Lib.itoa n := by
 unfold Lib.itoa
 cases n with
 | ofNat m =>
  have h1' : (m : Int) ≤ 9223372036854775807 := h1
  rw [if_neg (by show ¬ (m : Int) < 0; omega)]
  have hm : m < 10 ^ (24 + 1) := zb
  show agC 25 m [] = Lib.decDigits m
  rw [anR 24 m [] hm, xc]
 | negSucc m =>
  rw [if_pos zb]
  have hm : m + 1 < 10 ^ (24 + 1) := zb
  show 45 :: agC 25 (m + 1) [] = 45 :: Lib.decDigits (m + 1)
  rw [anR 24 _ [] hm, xc]
theorem aFD (l : List UInt8) : ∀ n, aOo l n = Lib.repeatL l n
 | 0 => rfl
 | n + 1 => by simp only [aOo, Lib.repeatL]; rw [aFD l n]
theorem ay9 : 100000000 ≤ lim := zf
theorem agF : ∀ (f n : Nat), n < 10 ^ (f + 1) → (Lib.decDigits n).length ≤ f + 1
 | 0, n, h => by rw [Lib.decDigits_one (by simpa using h)]; simp
 | f + 1, n, h => by
  by_cases h9 : n < 10
  ·rw [Lib.decDigits_one h9]; simp
  ·have hd : n / 10 < 10 ^ (f + 1) := by
    rw [yL zb]
    rw [yA] at h
    exact h
   rw [Lib.decDigits, dif_neg h9]
   have := agF f _ hd
   simp; omega
theorem aBm {n : Int} (h0 : -9223372036854775808 ≤ n) (h1 : n ≤ 9223372036854775807) : (aJ5 n).length ≤ lim := by
 refine zu ?_ ay9
 rw [aCO h0 h1]
 unfold Lib.itoa
 split
 ·have := agF 24 n.natAbs zb
  simp; omega
 ·have := agF 24 n.toNat zb
  omega
theorem azD {ok : Nat → Prop} {w : World} {x : Int} {v : Value} (h : RdV ok w (.int .i64) x v) : v = .int .i64 x ∧ -9223372036854775808 ≤ x ∧ x ≤ 9223372036854775807 := by
 obtain ⟨cs, ⟨rfl, h1, h2⟩, hv⟩ := h
 have hv' : [Value.int .i64 x] = [v] := hv
 injection hv' with hv'
 exact ⟨hv'.symm, h1, h2⟩
theorem aL0 (s : List UInt8) (m : Nat) : aNo s (m : Int) = Lib.repeatL s m := by unfold aNo; rw [zj, aFD]
theorem aFC (s : List UInt8) (m : Nat) (h : s.length * m ≤ 1000 * 100000) : (Lib.repeatL s m).length ≤ lim := by
 rw [Lib.repeatL_length, xd]
 exact zu h ay9
theorem aNe {ok : Nat → Prop} {w : World} {x : List UInt8} {v : Value} (h : RdV ok w .str x v) : v = .string ⟨⟨x⟩⟩ := by
 obtain ⟨cs, ⟨rfl, _⟩, hv⟩ := h
 have hv' : [Value.string ⟨⟨x⟩⟩] = [v] := hv
 injection hv' with hv'
 exact hv'.symm
theorem aAG {ok : Nat → Prop} {w : World} {x : List UInt8} (h : x.length ≤ lim) : RdVs ok w (.pair .str .unit) (x, ()) [.string ⟨⟨x⟩⟩] :=
 ⟨_, [], rfl, ⟨_, ⟨rfl, h⟩, rfl⟩, rfl⟩
theorem aN1 (fi fr : Nat) (hei : acO P fi = true) (her : acO P fr = true)
  (hi : ∀ (n : Int), -9223372036854775808 ≤ n → n ≤ 9223372036854775807 → ∀ w : World, Gt P w → Calls P fi #[.int .i64 n] w fun e w' => e = .returned (.string ⟨(Lib.itoa n).toArray⟩) ∧ ∃ k os, w' = Sort.grow (w.drewN k) os)
  (hr : ∀ (s : ByteArray) (c : Nat) (w : World), c ≤ 9223372036854775807 → s.size * c ≤ 140737488355328 → Calls P fr #[.string s, .int .i64 c] w fun e w' => e = .returned (.string ⟨(Lib.repeatL s.data.toList c).toArray⟩) ∧ Below w.heap.size w w') :
  adZ P (Gt P) (aCX fi fr) := by
 intro f A R x y h
 unfold aCX at h
 split at h
 ·rename_i hf
  have := aaC hf
  subst this
  unfold aHz at h
  split at h
  ·rename_i x
   obtain ⟨n, u⟩ := x
   injection h with h
   subst h
   refine ⟨hei, fun w ok vs z hG hok hvs hz => ?_⟩
   have hz' : z = (n, u) := hz
   subst hz'
   obtain ⟨v, us, rfl, hv, hus⟩ := hvs
   have hus' : us = [] := hus
   subst hus'
   obtain ⟨rfl, h0, h1⟩ := azD hv
   refine (hi n h0 h1 w hG).mono ?_
   rintro e w' ⟨rfl, k, os, rfl⟩
   refine ⟨[.string ⟨⟨aJ5 n⟩⟩], ?_, aAG (aBm h0 h1), Lib.below_grow _ _ (zi _) _ _⟩
   rw [aCO h0 h1]
   rfl
  ·cases h
 ·split at h
  ·rename_i hf
   have := aaC hf
   subst this
   unfold az3 at h
   split at h
   ·rename_i x
    obtain ⟨s, n, u⟩ := x
    split at h
    ·rename_i hc
     injection h with h
     subst h
     refine ⟨her, fun w ok vs z hG hok hvs hz => ?_⟩
     have hz' : z = (s, n, u) := hz
     subst hz'
     obtain ⟨v, us, rfl, hv, v2, us2, rfl, hv2, hus⟩ := hvs
     have hus' : us2 = [] := hus
     subst hus'
     obtain ⟨rfl, _, _⟩ := azD hv2
     have e1 := aNe hv
     subst e1
     have hc' : aLZ (s : List UInt8) (n : Int) = true := hc
     unfold aLZ at hc'
     simp only [zk, zH] at hc'
     obtain ⟨⟨g1, g2⟩, g3⟩ := hc'
     have g3 := Nat.le_of_ble_eq_true g3
     obtain ⟨m, rfl⟩ := zG g1
     have hm : m ≤ 100000 := zb
     have hmul : List.length (α := UInt8) s * m ≤ 1000 * 100000 := Nat.mul_le_mul g3 hm
     refine (hr ⟨⟨s⟩⟩ m w zb (by show List.length (α := UInt8) s * m ≤ _; omega)).mono ?_
     rintro e w' ⟨rfl, hb⟩
     have hrep : aNo (s : List UInt8) (m : Int) = Lib.repeatL s m := aL0 s m
     refine ⟨[.string ⟨⟨aNo s (m : Int)⟩⟩], ?_, aAG ?_, hb⟩
     ·rw [hrep]; rfl
     ·rw [hrep]; exact aFC s m hmul
    ·cases h
   ·cases h
  ·cases h
theorem aCN (sep : List UInt8) (l : List (List UInt8)) : aEl sep l = Lib.join l sep := by
 have ht : ∀ r : List (List UInt8), aJ3 sep r = Lib.joinTail sep r := by
  intro r
  induction r with
  | nil => rfl
  | cons y r ih => simp only [aJ3, ih, Lib.joinTail, List.map_cons, List.flatten_cons, yU]
 cases l with
 | nil => rfl
 | cons x r => rw [Lib.join_cons, ← ht]; rfl
theorem apS {ok : Nat → Prop} {w : World} : ∀ (x : List (List UInt8)) (cs : List Value), RdL (Rd ok w .str) x cs → cs = x.map fun s => .string ⟨⟨s⟩⟩
 | [], _, hc => by simpa [RdL] using hc
 | y :: x, _, ⟨c1, c2, e, h1, h2⟩ => by rw [e, (show c1 = _ from h1.1), apS x c2 h2]; rfl
theorem aEk {fj : Nat}
  (hj : ∀ (bk o c : Nat) (xs : List ByteArray) (sep : ByteArray) (w : World), (∀ (j : Nat) x, xs[j]? = some x → w.cell? ⟨bk, o + j, none⟩ = some (.string x)) → bk < w.heap.size → xs.length ≤ 140737488355328 → xs.length ≤ c →
   (Lib.join (xs.map (·.data.toList)) sep.data.toList).length ≤ 140737488355328 →
   Calls P fj #[.slice (some ⟨bk, o, none⟩) xs.length c, .string sep] w fun e w' => e = .returned (.string ⟨(Lib.join (xs.map (·.data.toList)) sep.data.toList).toArray⟩) ∧ Below w.heap.size w w')
  {w : World} {l : List (List UInt8)} {sep : List UInt8} {b o cap : Nat} {c : Array Value} {e : TypeId} {fr : Nat × Nat} (hb : w.heap[b]? = some (.cells c e fr)) (hbl : b < w.heap.size)
  (hr : (c.toList.drop o).take l.length = l.map fun s => .string ⟨⟨s⟩⟩) (k1 : l.length ≤ cap) (g1 : l.length ≤ 1000) (g2 : (aEl sep l).length ≤ 1000000) :
  Calls P fj #[.slice (some ⟨b, o, none⟩) l.length cap, .string ⟨⟨sep⟩⟩] w fun e w' => e = .returned (.string ⟨⟨aEl sep l⟩⟩) ∧ Below w.heap.size w w' := by
 have hm : (l.map (fun s : List UInt8 => (⟨⟨s⟩⟩ : ByteArray))).length = l.length := xj ..
 have hmm : (l.map (fun s : List UInt8 => (⟨⟨s⟩⟩ : ByteArray))).map (·.data.toList) = l := by rw [List.map_map]; exact List.map_id _
 have hcall := hj b o cap (l.map fun s => ⟨⟨s⟩⟩) ⟨⟨sep⟩⟩ w (fun j x hx => ?_) hbl (by rw [hm]; omega) (by rw [hm]; exact k1) (by rw [hmm, ← aCN]; exact zu g2 zf)
 ·rw [hm, hmm, ← aCN] at hcall
  exact hcall
 ·have hj' : j < l.length := by rw [← hm]; exact (zx.1 hx).1
  have e4 : c[o + j]? = some (.string x) := by
   have e5 : ((c.toList.drop o).take l.length)[j]? = some (.string x) := by
    rw [hr]
    rw [List.getElem?_map] at hx ⊢
    cases hq : l[j]? with
    | none => rw [hq] at hx; cases hx
    | some q =>
     rw [hq] at hx
     injection hx with hx
     subst hx
     rfl
   rw [zU, if_pos hj', yu, zT] at e5
   exact e5
  simp [World.cell?, hb, e4]
theorem aMv (fi fr fj : Nat) (hl : adZ P (Gt P) (aCX fi fr)) (hej : acO P fj = true)
  (hj : ∀ (bk o c : Nat) (xs : List ByteArray) (sep : ByteArray) (w : World), (∀ (j : Nat) x, xs[j]? = some x → w.cell? ⟨bk, o + j, none⟩ = some (.string x)) → bk < w.heap.size → xs.length ≤ 140737488355328 → xs.length ≤ c →
   (Lib.join (xs.map (·.data.toList)) sep.data.toList).length ≤ 140737488355328 →
   Calls P fj #[.slice (some ⟨bk, o, none⟩) xs.length c, .string sep] w fun e w' => e = .returned (.string ⟨(Lib.join (xs.map (·.data.toList)) sep.data.toList).toArray⟩) ∧ Below w.heap.size w w') :
  adZ P (Gt P) (aBI fi fr fj) := by
 intro f A R x y h
 unfold aBI at h
 split at h
 ·rename_i hf
  have := aaC hf
  subst this
  unfold aHy at h
  split at h
  ·rename_i x
   obtain ⟨l, sep, u⟩ := x
   split at h
   ·rename_i hc
    injection h with h
    subst h
    have hc' : aG2 sep l = true := hc
    unfold aG2 at hc'
    simp only [zk] at hc'
    obtain ⟨g0, g1, g2⟩ := hc'
    have g0 := Nat.le_of_ble_eq_true g0
    have g1 := Nat.le_of_ble_eq_true g1
    have g2 := Nat.le_of_ble_eq_true g2
    refine ⟨hej, fun w ok vs z hG hok hvs hz => ?_⟩
    have hz' : z = (l, sep, u) := hz
    subst hz'
    obtain ⟨v, us, rfl, hv, v2, us2, rfl, hv2, hus⟩ := hvs
    have hus' : us2 = [] := hus
    subst hus'
    have e1 := aNe hv2
    subst e1
    obtain ⟨cs, ⟨a, cap, e2, k1, k2, k3⟩, hv⟩ := hv
    subst e2
    have hv' : [Value.slice a (List.length (α := List UInt8) l) cap] = [v] := hv
    injection hv' with hv'
    subst hv'
    rcases k3 with k3 | ⟨b, o, c, e, fr, rfl, hokb, hb, hs, hr⟩
    ·have k3' : l = [] := k3
     rw [k3'] at g0
     cases g0
    ·have hs' : o + List.length (α := List UInt8) l * 1 ≤ c.size := hs
     have hr' := apS _ _ hr
     have hbl : b < w.heap.size := hok b hokb
     have hr2 : (c.toList.drop o).take (List.length (α := List UInt8) l) = (l : List (List UInt8)).map fun s => Value.string ⟨⟨s⟩⟩ := by
      rw [← apS _ _ hr]
      show _ = (c.toList.drop o).take (List.length (α := List UInt8) l * 1)
      rw [Nat.mul_one]
     refine (aEk hj (l := l) (sep := sep) hb hbl hr2 k1 g1 g2).mono ?_
     rintro e w' ⟨rfl, hbw⟩
     exact ⟨[.string ⟨⟨aEl sep l⟩⟩], rfl, aAG (zu g2 zf), hbw⟩
   ·cases h
  ·cases h
 ·exact hl f A R x y h
end
end Go.Vg
