/-
  A runner over the evaluator, and calls that have been run. Own work; no condition.
-/
import Derived.Test.YtlmjbmgabddkiaaGreatDoorClR5
import Derived.Test.YtlmjbmgabddkiaaGreatDoorLib
import Derived.Lib.AppendIntMem
import Derived.Lib.Join
import Derived.Lib.Repeat
set_option linter.unusedVariables false
set_option linter.unusedSimpArgs false
namespace Go.Vg
open Go Go.RowKit Go.Proofs
def Gt (P : Program) (w : World) : Prop := Lib.TabIs P w "internal/strconv.uint64pow10" .u64 Lib.pow10Tab
section
variable {P : Program}
theorem aQw {g : Nat} (hg : P.globalNamed "internal/strconv.uint64pow10" = some g) : adZ (Gt P) := by
 intro w w' hb h
 unfold Gt Lib.TabIs World.var? at h ⊢
 rw [hg] at h ⊢
 simp only [wD] at h ⊢
 have hlt : g < w.heap.size := by
  rcases zv g w.heap.size with h' | h'
  ·exact h'
  ·rw [xd h'] at h; cases h
 rw [hb.block g hlt]
 exact h
theorem aN9 (hg : (P.globalNamed "internal/strconv.uint64pow10").isSome = true) : adZ (Gt P) := by
 obtain ⟨g, h⟩ := xh.1 hg
 exact aQw h
theorem aqI : ∀ (f n : Nat) (acc : List UInt8), n < 10 ^ (f + 1) → ahO (f + 1) n acc = Lib.decDigits n ++ acc
 | 0, n, acc, h => by
  have h9 : n < 10 := by simpa using h
  rw [Lib.decDigits_one h9]
  simp [ahO, show Nat.ble n 9 = true from xC zb]
 | f + 1, n, acc, h => by
  by_cases h9 : n < 10
  ·rw [Lib.decDigits_one h9]
   simp [ahO, show Nat.ble n 9 = true from xC zb]
  ·have hb : Nat.ble n 9 = false := by
    cases hc : Nat.ble n 9 with
    | false => rfl
    | true => have := Nat.le_of_ble_eq_true hc; omega
   have hd : n / 10 < 10 ^ (f + 1) := by
    rw [yV zb]
    rw [yw] at h
    exact h
   rw [show ahO (f + 1 + 1) n acc = ahO (f + 1) (n / 10) (UInt8.ofNat (48 + n % 10) :: acc) by rw [ahO, hb], aqI f _ _ hd]
   conv => rhs; rw [Lib.decDigits, dif_neg h9]
   simp
theorem aGa {n : Int} (h0 : -9223372036854775808 ≤ n) (h1 : n ≤ 9223372036854775807) : aN4 n = Lib.itoa n := by
 unfold Lib.itoa
 cases n with
 | ofNat m =>
  have h1' : (m : Int) ≤ 9223372036854775807 := h1
  rw [if_neg (by show ¬ (m : Int) < 0; omega)]
  have hm : m < 10 ^ (24 + 1) := zb
  show ahO 25 m [] = Lib.decDigits m
  rw [aqI 24 m [] hm, xH]
 | negSucc m =>
  rw [if_pos zb]
  have hm : m + 1 < 10 ^ (24 + 1) := zb
  show 45 :: ahO 25 (m + 1) [] = 45 :: Lib.decDigits (m + 1)
  rw [aqI 24 _ [] hm, xH]
theorem aI9 (l : List UInt8) : ∀ n, aSJ l n = Lib.repeatL l n
 | 0 => rfl
 | n + 1 => by simp only [aSJ, Lib.repeatL]; rw [aI9 l n]
theorem ax5 : 100000000 ≤ lim := zf
theorem ahQ : ∀ (f n : Nat), n < 10 ^ (f + 1) → (Lib.decDigits n).length ≤ f + 1
 | 0, n, h => by rw [Lib.decDigits_one (by simpa using h)]; simp
 | f + 1, n, h => by
  by_cases h9 : n < 10
  ·rw [Lib.decDigits_one h9]; simp
  ·have hd : n / 10 < 10 ^ (f + 1) := by
    rw [yV zb]
    rw [yw] at h
    exact h
   rw [Lib.decDigits, dif_neg h9]
   have := ahQ f _ hd
   simp; omega
theorem aEz {n : Int} (h0 : -9223372036854775808 ≤ n) (h1 : n ≤ 9223372036854775807) : (aN4 n).length ≤ lim := by
 refine zw ?_ ax5
 rw [aGa h0 h1]
 unfold Lib.itoa
 split
 ·have := ahQ 24 n.natAbs zb
  simp; omega
 ·have := ahQ 24 n.toNat zb
  omega
theorem aCr {ok : Nat → Prop} {w : World} {x : Int} {v : Value} (h : RdV ok w (.int .i64) x v) : v = .int .i64 x ∧ -9223372036854775808 ≤ x ∧ x ≤ 9223372036854775807 := by
 obtain ⟨cs, ⟨rfl, h1, h2⟩, hv⟩ := h
 have hv' : [Value.int .i64 x] = [v] := hv
 injection hv' with hv'
 exact ⟨hv'.symm, h1, h2⟩
theorem aP9 (s : List UInt8) (m : Nat) : aRD s (m : Int) = Lib.repeatL s m := by unfold aRD; rw [zm, aI9]
theorem aI8 (s : List UInt8) (m : Nat) (h : s.length * m ≤ 1000 * 100000) : (Lib.repeatL s m).length ≤ lim := by
 rw [Lib.repeatL_length, yW]
 exact zw h ax5
theorem aRr {ok : Nat → Prop} {w : World} {x : List UInt8} {v : Value} (h : RdV ok w .str x v) : v = .string ⟨⟨x⟩⟩ := by
 obtain ⟨cs, ⟨rfl, _⟩, hv⟩ := h
 have hv' : [Value.string ⟨⟨x⟩⟩] = [v] := hv
 injection hv' with hv'
 exact hv'.symm
theorem aDG {ok : Nat → Prop} {w : World} {x : List UInt8} (h : x.length ≤ lim) : RdVs ok w (.pair .str .unit) (x, ()) [.string ⟨⟨x⟩⟩] :=
 ⟨_, [], rfl, ⟨_, ⟨rfl, h⟩, rfl⟩, rfl⟩
theorem aSl (fi fr : Nat) (hei : adG P fi = true) (her : adG P fr = true)
  (hi : ∀ (n : Int), -9223372036854775808 ≤ n → n ≤ 9223372036854775807 → ∀ w : World, Gt P w → Calls P fi #[.int .i64 n] w fun e w' => e = .returned (.string ⟨(Lib.itoa n).toArray⟩) ∧ ∃ k os, w' = Sort.grow (w.drewN k) os)
  (hr : ∀ (s : ByteArray) (c : Nat) (w : World), c ≤ 9223372036854775807 → s.size * c ≤ 140737488355328 → Calls P fr #[.string s, .int .i64 c] w fun e w' => e = .returned (.string ⟨(Lib.repeatL s.data.toList c).toArray⟩) ∧ Below w.heap.size w w') :
  aeX P (Gt P) (aGj fi fr) := by
 intro f A R x y h
 unfold aGj at h
 split at h
 ·rename_i hf
  have := aaE hf
  subst this
  unfold aLj at h
  split at h
  ·rename_i x
   obtain ⟨n, u⟩ := x
   injection h with h
   subst h
   refine ⟨hei, fun w ok vs z hG hok hvs hz => ?_⟩
   have hz' : z = (n, u) := hz
   subst hz'
   obtain ⟨v, us, rfl, hv, hus⟩ := hvs
   have hus' : us = [] := hus
   subst hus'
   obtain ⟨rfl, h0, h1⟩ := aCr hv
   refine (hi n h0 h1 w hG).mono ?_
   rintro e w' ⟨rfl, k, os, rfl⟩
   refine ⟨[.string ⟨⟨aN4 n⟩⟩], ?_, aDG (aEz h0 h1), Lib.below_grow _ _ (zj _) _ _⟩
   rw [aGa h0 h1]
   rfl
  ·cases h
 ·split at h
  ·rename_i hf
   have := aaE hf
   subst this
   unfold aCR at h
   split at h
   ·rename_i x
    obtain ⟨s, n, u⟩ := x
    split at h
    ·rename_i hc
     injection h with h
     subst h
     refine ⟨her, fun w ok vs z hG hok hvs hz => ?_⟩
     have hz' : z = (s, n, u) := hz
     subst hz'
     obtain ⟨v, us, rfl, hv, v2, us2, rfl, hv2, hus⟩ := hvs
     have hus' : us2 = [] := hus
     subst hus'
     obtain ⟨rfl, _, _⟩ := aCr hv2
     have e1 := aRr hv
     subst e1
     have hc' : aP8 (s : List UInt8) (n : Int) = true := hc
     unfold aP8 at hc'
     simp only [zn, zX] at hc'
     obtain ⟨⟨g1, g2⟩, g3⟩ := hc'
     have g3 := Nat.le_of_ble_eq_true g3
     obtain ⟨m, rfl⟩ := zE g1
     have hm : m ≤ 100000 := zb
     have hmul : List.length (α := UInt8) s * m ≤ 1000 * 100000 := Nat.mul_le_mul g3 hm
     refine (hr ⟨⟨s⟩⟩ m w zb (by show List.length (α := UInt8) s * m ≤ _; omega)).mono ?_
     rintro e w' ⟨rfl, hb⟩
     have hrep : aRD (s : List UInt8) (m : Int) = Lib.repeatL s m := aP9 s m
     refine ⟨[.string ⟨⟨aRD s (m : Int)⟩⟩], ?_, aDG ?_, hb⟩
     ·rw [hrep]; rfl
     ·rw [hrep]; exact aI8 s m hmul
    ·cases h
   ·cases h
  ·cases h
theorem aF9 (sep : List UInt8) (l : List (List UInt8)) : aCp sep l = Lib.join l sep := by
 have ht : ∀ r : List (List UInt8), aHO sep r = Lib.joinTail sep r := by
  intro r
  induction r with
  | nil => rfl
  | cons y r ih => simp only [aHO, ih, Lib.joinTail, wF, wj, zY]
 cases l with
 | nil => rfl
 | cons x r => rw [Lib.join_cons, ← ht]; rfl
theorem anM {ok : Nat → Prop} {w : World} : ∀ (x : List (List UInt8)) (cs : List Value), RdL (Rd ok w .str) x cs → cs = x.map fun s => .string ⟨⟨s⟩⟩
 | [], _, hc => by simpa [RdL] using hc
 | y :: x, _, ⟨c1, c2, e, h1, h2⟩ => by rw [e, (show c1 = _ from h1.1), anM x c2 h2]; rfl
theorem ax9 {fj : Nat}
  (hj : ∀ (bk o c : Nat) (xs : List ByteArray) (sep : ByteArray) (w : World), (∀ (j : Nat) x, xs[j]? = some x → w.cell? ⟨bk, o + j, none⟩ = some (.string x)) → bk < w.heap.size → xs.length ≤ 140737488355328 → xs.length ≤ c →
   (Lib.join (xs.map (·.data.toList)) sep.data.toList).length ≤ 140737488355328 →
   Calls P fj #[.slice (some ⟨bk, o, none⟩) xs.length c, .string sep] w fun e w' => e = .returned (.string ⟨(Lib.join (xs.map (·.data.toList)) sep.data.toList).toArray⟩) ∧ Below w.heap.size w w')
  {w : World} {l : List (List UInt8)} {sep : List UInt8} {b o cap : Nat} {c : Array Value} {e : TypeId} {fr : Nat × Nat} (hb : w.heap[b]? = some (.cells c e fr)) (hbl : b < w.heap.size)
  (hr : (c.toList.drop o).take l.length = l.map fun s => .string ⟨⟨s⟩⟩) (k1 : l.length ≤ cap) (g1 : l.length ≤ 1000) (g2 : (aCp sep l).length ≤ 1000000) :
  Calls P fj #[.slice (some ⟨b, o, none⟩) l.length cap, .string ⟨⟨sep⟩⟩] w fun e w' => e = .returned (.string ⟨⟨aCp sep l⟩⟩) ∧ Below w.heap.size w w' := by
 have hm : (l.map (fun s : List UInt8 => (⟨⟨s⟩⟩ : ByteArray))).length = l.length := yG ..
 have hmm : (l.map (fun s : List UInt8 => (⟨⟨s⟩⟩ : ByteArray))).map (·.data.toList) = l := by rw [List.map_map]; exact List.map_id _
 have hcall := hj b o cap (l.map fun s => ⟨⟨s⟩⟩) ⟨⟨sep⟩⟩ w (fun j x hx => ?_) hbl (by rw [hm]; omega) (by rw [hm]; exact k1) (by rw [hmm, ← aF9]; exact zw g2 zf)
 ·rw [hm, hmm, ← aF9] at hcall
  exact hcall
 ·have hj' : j < l.length := by rw [← hm]; exact (zz.1 hx).1
  have e4 : c[o + j]? = some (.string x) := by
   have e5 : ((c.toList.drop o).take l.length)[j]? = some (.string x) := by
    rw [hr]
    rw [List.getElem?_map] at hx ⊢
    cases hq : l[j]? with
    | none => rw [hq] at hx; cases hx
    | some q =>
     rw [hq] at hx
     injection hx with hx
     subst hx
     rfl
   rw [zV, if_pos hj', yD, zS] at e5
   exact e5
  simp [World.cell?, hb, e4]
theorem aQF (fi fr fj : Nat) (hl : aeX P (Gt P) (aGj fi fr)) (hej : adG P fj = true)
  (hj : ∀ (bk o c : Nat) (xs : List ByteArray) (sep : ByteArray) (w : World), (∀ (j : Nat) x, xs[j]? = some x → w.cell? ⟨bk, o + j, none⟩ = some (.string x)) → bk < w.heap.size → xs.length ≤ 140737488355328 → xs.length ≤ c →
   (Lib.join (xs.map (·.data.toList)) sep.data.toList).length ≤ 140737488355328 →
   Calls P fj #[.slice (some ⟨bk, o, none⟩) xs.length c, .string sep] w fun e w' => e = .returned (.string ⟨(Lib.join (xs.map (·.data.toList)) sep.data.toList).toArray⟩) ∧ Below w.heap.size w w') :
  aeX P (Gt P) (aEU fi fr fj) := by
 intro f A R x y h
 unfold aEU at h
 split at h
 ·rename_i hf
  have := aaE hf
  subst this
  unfold aLi at h
  split at h
  ·rename_i x
   obtain ⟨l, sep, u⟩ := x
   split at h
   ·rename_i hc
    injection h with h
    subst h
    have hc' : aKJ sep l = true := hc
    unfold aKJ at hc'
    simp only [zn] at hc'
    obtain ⟨g0, g1, g2⟩ := hc'
    have g0 := Nat.le_of_ble_eq_true g0
    have g1 := Nat.le_of_ble_eq_true g1
    have g2 := Nat.le_of_ble_eq_true g2
    refine ⟨hej, fun w ok vs z hG hok hvs hz => ?_⟩
    have hz' : z = (l, sep, u) := hz
    subst hz'
    obtain ⟨v, us, rfl, hv, v2, us2, rfl, hv2, hus⟩ := hvs
    have hus' : us2 = [] := hus
    subst hus'
    have e1 := aRr hv2
    subst e1
    obtain ⟨cs, ⟨a, cap, e2, k1, k2, k3⟩, hv⟩ := hv
    subst e2
    have hv' : [Value.slice a (List.length (α := List UInt8) l) cap] = [v] := hv
    injection hv' with hv'
    subst hv'
    rcases k3 with k3 | ⟨b, o, c, e, fr, rfl, hokb, hb, hs, hr⟩
    ·have k3' : l = [] := k3
     rw [k3'] at g0
     cases g0
    ·have hs' : o + List.length (α := List UInt8) l * 1 ≤ c.size := hs
     have hr' := anM _ _ hr
     have hbl : b < w.heap.size := hok b hokb
     have hr2 : (c.toList.drop o).take (List.length (α := List UInt8) l) = (l : List (List UInt8)).map fun s => Value.string ⟨⟨s⟩⟩ := by
      rw [← anM _ _ hr]
      show _ = (c.toList.drop o).take (List.length (α := List UInt8) l * 1)
      rw [wX]
     refine (ax9 hj (l := l) (sep := sep) hb hbl hr2 k1 g1 g2).mono ?_
     rintro e w' ⟨rfl, hbw⟩
     exact ⟨[.string ⟨⟨aCp sep l⟩⟩], rfl, aDG (zw g2 zf), hbw⟩
   ·cases h
  ·cases h
 ·exact hl f A R x y h
end
end Go.Vg
