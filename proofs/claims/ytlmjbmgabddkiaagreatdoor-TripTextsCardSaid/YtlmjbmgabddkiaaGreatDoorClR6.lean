/-
  A runner over the evaluator, and calls that have been run. Own work; no condition.
-/
import Derived.Test.YtlmjbmgabddkiaaGreatDoorClR5
import Derived.Test.YtlmjbmgabddkiaaGreatDoorLib
import Derived.Lib.AppendIntMem
import Derived.Lib.Join
import Derived.Lib.Repeat
set_option linter.unusedVariables false
set_option linter.unusedSimpArgs false
namespace Go.Vg
open Go Go.RowKit Go.Proofs
def Gt (P : Program) (w : World) : Prop := Lib.TabIs P w "internal/strconv.uint64pow10" .u64 Lib.pow10Tab
section
variable {P : Program}
theorem aMd {g : Nat} (hg : P.globalNamed "internal/strconv.uint64pow10" = some g) : adF (Gt P) := by
 intro w w' hb h
 unfold Gt Lib.TabIs World.var? at h ⊢
 rw [hg] at h ⊢
 simp only [wk] at h ⊢
 have hlt : g < w.heap.size := by
  rcases zv g w.heap.size with h' | h'
  ·exact h'
  ·rw [xp h'] at h; cases h
 rw [hb.block g hlt]
 exact h
theorem aJ0 (hg : (P.globalNamed "internal/strconv.uint64pow10").isSome = true) : adF (Gt P) := by
 obtain ⟨g, h⟩ := xa.1 hg
 exact aMd h
theorem am9 : ∀ (f n : Nat) (acc : List UInt8), n < 10 ^ (f + 1) → afX (f + 1) n acc = Lib.decDigits n ++ acc
 | 0, n, acc, h => by
  have h9 : n < 10 := by simpa using h
  rw [Lib.decDigits_one h9]
  simp [afX, show Nat.ble n 9 = true from xw zb]
 | f + 1, n, acc, h => by
  by_cases h9 : n < 10
  ·rw [Lib.decDigits_one h9]
   simp [afX, show Nat.ble n 9 = true from xw zb]
  ·have hb : Nat.ble n 9 = false := by
    cases hc : Nat.ble n 9 with
    | false => rfl
    | true => have := Nat.le_of_ble_eq_true hc; omega
   have hd : n / 10 < 10 ^ (f + 1) := by
    rw [yS zb]
    rw [yH] at h
    exact h
   rw [show afX (f + 1 + 1) n acc = afX (f + 1) (n / 10) (UInt8.ofNat (48 + n % 10) :: acc) by rw [afX, hb], am9 f _ _ hd]
   conv => rhs; rw [Lib.decDigits, dif_neg h9]
   simp
theorem aCz {n : Int} (h0 : -9223372036854775808 ≤ n) (h1 : n ≤ 9223372036854775807) : aJV n = Lib.itoa n := by
 unfold Lib.itoa
 cases n with
 | ofNat m =>
  have h1' : (m : Int) ≤ 9223372036854775807 := h1
  rw [if_neg (by show ¬ (m : Int) < 0; omega)]
  have hm : m < 10 ^ (24 + 1) := zb
  show afX 25 m [] = Lib.decDigits m
  rw [am9 24 m [] hm, xe]
 | negSucc m =>
  rw [if_pos zb]
  have hm : m + 1 < 10 ^ (24 + 1) := zb
  show 45 :: afX 25 (m + 1) [] = 45 :: Lib.decDigits (m + 1)
  rw [am9 24 _ [] hm, xe]
theorem aFn (l : List UInt8) : ∀ n, aOp l n = Lib.repeatL l n
 | 0 => rfl
 | n + 1 => by simp only [aOp, Lib.repeatL]; rw [aFn l n]
theorem at1 : 100000000 ≤ lim := ze
theorem afY : ∀ (f n : Nat), n < 10 ^ (f + 1) → (Lib.decDigits n).length ≤ f + 1
 | 0, n, h => by rw [Lib.decDigits_one (by simpa using h)]; simp
 | f + 1, n, h => by
  by_cases h9 : n < 10
  ·rw [Lib.decDigits_one h9]; simp
  ·have hd : n / 10 < 10 ^ (f + 1) := by
    rw [yS zb]
    rw [yH] at h
    exact h
   rw [Lib.decDigits, dif_neg h9]
   have := afY f _ hd
   simp; omega
theorem aA5 {n : Int} (h0 : -9223372036854775808 ≤ n) (h1 : n ≤ 9223372036854775807) : (aJV n).length ≤ lim := by
 refine zw ?_ at1
 rw [aCz h0 h1]
 unfold Lib.itoa
 split
 ·have := afY 24 n.natAbs zb
  simp; omega
 ·have := afY 24 n.toNat zb
  omega
theorem ayX {ok : Nat → Prop} {w : World} {x : Int} {v : Value} (h : RdV ok w (.int .i64) x v) : v = .int .i64 x ∧ -9223372036854775808 ≤ x ∧ x ≤ 9223372036854775807 := by
 obtain ⟨cs, ⟨rfl, h1, h2⟩, hv⟩ := h
 have hv' : [Value.int .i64 x] = [v] := hv
 injection hv' with hv'
 exact ⟨hv'.symm, h1, h2⟩
theorem aLO (s : List UInt8) (m : Nat) : aNg s (m : Int) = Lib.repeatL s m := by unfold aNg; rw [zj, aFn]
theorem aFm (s : List UInt8) (m : Nat) (h : s.length * m ≤ 1000 * 100000) : (Lib.repeatL s m).length ≤ lim := by
 rw [Lib.repeatL_length, yV]
 exact zw h at1
theorem aM3 {ok : Nat → Prop} {w : World} {x : List UInt8} {v : Value} (h : RdV ok w .str x v) : v = .string ⟨⟨x⟩⟩ := by
 obtain ⟨cs, ⟨rfl, _⟩, hv⟩ := h
 have hv' : [Value.string ⟨⟨x⟩⟩] = [v] := hv
 injection hv' with hv'
 exact hv'.symm
theorem aAu {ok : Nat → Prop} {w : World} {x : List UInt8} (h : x.length ≤ lim) : RdVs ok w (.pair .str .unit) (x, ()) [.string ⟨⟨x⟩⟩] :=
 ⟨_, [], rfl, ⟨_, ⟨rfl, h⟩, rfl⟩, rfl⟩
theorem aN1 (fi fr : Nat) (hei : acF P fi = true) (her : acF P fr = true)
  (hi : ∀ (n : Int), -9223372036854775808 ≤ n → n ≤ 9223372036854775807 → ∀ w : World, Gt P w → Calls P fi #[.int .i64 n] w fun e w' => e = .returned (.string ⟨(Lib.itoa n).toArray⟩) ∧ ∃ k os, w' = Sort.grow (w.drewN k) os)
  (hr : ∀ (s : ByteArray) (c : Nat) (w : World), c ≤ 9223372036854775807 → s.size * c ≤ 140737488355328 → Calls P fr #[.string s, .int .i64 c] w fun e w' => e = .returned (.string ⟨(Lib.repeatL s.data.toList c).toArray⟩) ∧ Below w.heap.size w w') :
  adR P (Gt P) (aCI fi fr) := by
 intro f A R x y h
 unfold aCI at h
 split at h
 ·rename_i hf
  have := aaB hf
  subst this
  unfold aHn at h
  split at h
  ·rename_i x
   obtain ⟨n, u⟩ := x
   injection h with h
   subst h
   refine ⟨hei, fun w ok vs z hG hok hvs hz => ?_⟩
   have hz' : z = (n, u) := hz
   subst hz'
   obtain ⟨v, us, rfl, hv, hus⟩ := hvs
   have hus' : us = [] := hus
   subst hus'
   obtain ⟨rfl, h0, h1⟩ := ayX hv
   refine (hi n h0 h1 w hG).mono ?_
   rintro e w' ⟨rfl, k, os, rfl⟩
   refine ⟨[.string ⟨⟨aJV n⟩⟩], ?_, aAu (aA5 h0 h1), Lib.below_grow _ _ (zi _) _ _⟩
   rw [aCz h0 h1]
   rfl
  ·cases h
 ·split at h
  ·rename_i hf
   have := aaB hf
   subst this
   unfold azM at h
   split at h
   ·rename_i x
    obtain ⟨s, n, u⟩ := x
    split at h
    ·rename_i hc
     injection h with h
     subst h
     refine ⟨her, fun w ok vs z hG hok hvs hz => ?_⟩
     have hz' : z = (s, n, u) := hz
     subst hz'
     obtain ⟨v, us, rfl, hv, v2, us2, rfl, hv2, hus⟩ := hvs
     have hus' : us2 = [] := hus
     subst hus'
     obtain ⟨rfl, _, _⟩ := ayX hv2
     have e1 := aM3 hv
     subst e1
     have hc' : aLN (s : List UInt8) (n : Int) = true := hc
     unfold aLN at hc'
     simp only [zk, zV] at hc'
     obtain ⟨⟨g1, g2⟩, g3⟩ := hc'
     have g3 := Nat.le_of_ble_eq_true g3
     obtain ⟨m, rfl⟩ := zG g1
     have hm : m ≤ 100000 := zb
     have hmul : List.length (α := UInt8) s * m ≤ 1000 * 100000 := Nat.mul_le_mul g3 hm
     refine (hr ⟨⟨s⟩⟩ m w zb (by show List.length (α := UInt8) s * m ≤ _; omega)).mono ?_
     rintro e w' ⟨rfl, hb⟩
     have hrep : aNg (s : List UInt8) (m : Int) = Lib.repeatL s m := aLO s m
     refine ⟨[.string ⟨⟨aNg s (m : Int)⟩⟩], ?_, aAu ?_, hb⟩
     ·rw [hrep]; rfl
     ·rw [hrep]; exact aFm s m hmul
    ·cases h
   ·cases h
  ·cases h
theorem aCy (sep : List UInt8) (l : List (List UInt8)) : ayW sep l = Lib.join l sep := by
 have ht : ∀ r : List (List UInt8), aD2 sep r = Lib.joinTail sep r := by
  intro r
  induction r with
  | nil => rfl
  | cons y r ih => simp only [aD2, ih, Lib.joinTail, xP, xH, zW]
 cases l with
 | nil => rfl
 | cons x r => rw [Lib.join_cons, ← ht]; rfl
theorem ak5 {ok : Nat → Prop} {w : World} : ∀ (x : List (List UInt8)) (cs : List Value), RdL (Rd ok w .str) x cs → cs = x.map fun s => .string ⟨⟨s⟩⟩
 | [], _, hc => by simpa [RdL] using hc
 | y :: x, _, ⟨c1, c2, e, h1, h2⟩ => by rw [e, (show c1 = _ from h1.1), ak5 x c2 h2]; rfl
theorem at5 {fj : Nat}
  (hj : ∀ (bk o c : Nat) (xs : List ByteArray) (sep : ByteArray) (w : World), (∀ (j : Nat) x, xs[j]? = some x → w.cell? ⟨bk, o + j, none⟩ = some (.string x)) → bk < w.heap.size → xs.length ≤ 140737488355328 → xs.length ≤ c →
   (Lib.join (xs.map (·.data.toList)) sep.data.toList).length ≤ 140737488355328 →
   Calls P fj #[.slice (some ⟨bk, o, none⟩) xs.length c, .string sep] w fun e w' => e = .returned (.string ⟨(Lib.join (xs.map (·.data.toList)) sep.data.toList).toArray⟩) ∧ Below w.heap.size w w')
  {w : World} {l : List (List UInt8)} {sep : List UInt8} {b o cap : Nat} {c : Array Value} {e : TypeId} {fr : Nat × Nat} (hb : w.heap[b]? = some (.cells c e fr)) (hbl : b < w.heap.size)
  (hr : (c.toList.drop o).take l.length = l.map fun s => .string ⟨⟨s⟩⟩) (k1 : l.length ≤ cap) (g1 : l.length ≤ 1000) (g2 : (ayW sep l).length ≤ 1000000) :
  Calls P fj #[.slice (some ⟨b, o, none⟩) l.length cap, .string ⟨⟨sep⟩⟩] w fun e w' => e = .returned (.string ⟨⟨ayW sep l⟩⟩) ∧ Below w.heap.size w w' := by
 have hm : (l.map (fun s : List UInt8 => (⟨⟨s⟩⟩ : ByteArray))).length = l.length := yD ..
 have hmm : (l.map (fun s : List UInt8 => (⟨⟨s⟩⟩ : ByteArray))).map (·.data.toList) = l := by rw [List.map_map]; exact List.map_id _
 have hcall := hj b o cap (l.map fun s => ⟨⟨s⟩⟩) ⟨⟨sep⟩⟩ w (fun j x hx => ?_) hbl (by rw [hm]; omega) (by rw [hm]; exact k1) (by rw [hmm, ← aCy]; exact zw g2 ze)
 ·rw [hm, hmm, ← aCy] at hcall
  exact hcall
 ·have hj' : j < l.length := by rw [← hm]; exact (zC.1 hx).1
  have e4 : c[o + j]? = some (.string x) := by
   have e5 : ((c.toList.drop o).take l.length)[j]? = some (.string x) := by
    rw [hr]
    rw [List.getElem?_map] at hx ⊢
    cases hq : l[j]? with
    | none => rw [hq] at hx; cases hx
    | some q =>
     rw [hq] at hx
     injection hx with hx
     subst hx
     rfl
   rw [zX, if_pos hj', yA, zU] at e5
   exact e5
  simp [World.cell?, hb, e4]
theorem aMj (fi fr fj : Nat) (hl : adR P (Gt P) (aCI fi fr)) (hej : acF P fj = true)
  (hj : ∀ (bk o c : Nat) (xs : List ByteArray) (sep : ByteArray) (w : World), (∀ (j : Nat) x, xs[j]? = some x → w.cell? ⟨bk, o + j, none⟩ = some (.string x)) → bk < w.heap.size → xs.length ≤ 140737488355328 → xs.length ≤ c →
   (Lib.join (xs.map (·.data.toList)) sep.data.toList).length ≤ 140737488355328 →
   Calls P fj #[.slice (some ⟨bk, o, none⟩) xs.length c, .string sep] w fun e w' => e = .returned (.string ⟨(Lib.join (xs.map (·.data.toList)) sep.data.toList).toArray⟩) ∧ Below w.heap.size w w') :
  adR P (Gt P) (aBm fi fr fj) := by
 intro f A R x y h
 unfold aBm at h
 split at h
 ·rename_i hf
  have := aaB hf
  subst this
  unfold aHm at h
  split at h
  ·rename_i x
   obtain ⟨l, sep, u⟩ := x
   split at h
   ·rename_i hc
    injection h with h
    subst h
    have hc' : aGQ sep l = true := hc
    unfold aGQ at hc'
    simp only [zk] at hc'
    obtain ⟨g0, g1, g2⟩ := hc'
    have g0 := Nat.le_of_ble_eq_true g0
    have g1 := Nat.le_of_ble_eq_true g1
    have g2 := Nat.le_of_ble_eq_true g2
    refine ⟨hej, fun w ok vs z hG hok hvs hz => ?_⟩
    have hz' : z = (l, sep, u) := hz
    subst hz'
    obtain ⟨v, us, rfl, hv, v2, us2, rfl, hv2, hus⟩ := hvs
    have hus' : us2 = [] := hus
    subst hus'
    have e1 := aM3 hv2
    subst e1
    obtain ⟨cs, ⟨a, cap, e2, k1, k2, k3⟩, hv⟩ := hv
    subst e2
    have hv' : [Value.slice a (List.length (α := List UInt8) l) cap] = [v] := hv
    injection hv' with hv'
    subst hv'
    rcases k3 with k3 | ⟨b, o, c, e, fr, rfl, hokb, hb, hs, hr⟩
    ·have k3' : l = [] := k3
     rw [k3'] at g0
     cases g0
    ·have hs' : o + List.length (α := List UInt8) l * 1 ≤ c.size := hs
     have hr' := ak5 _ _ hr
     have hbl : b < w.heap.size := hok b hokb
     have hr2 : (c.toList.drop o).take (List.length (α := List UInt8) l) = (l : List (List UInt8)).map fun s => Value.string ⟨⟨s⟩⟩ := by
      rw [← ak5 _ _ hr]
      show _ = (c.toList.drop o).take (List.length (α := List UInt8) l * 1)
      rw [wy]
     refine (at5 hj (l := l) (sep := sep) hb hbl hr2 k1 g1 g2).mono ?_
     rintro e w' ⟨rfl, hbw⟩
     exact ⟨[.string ⟨⟨ayW sep l⟩⟩], rfl, aAu (zw g2 ze), hbw⟩
   ·cases h
  ·cases h
 ·exact hl f A R x y h
end
end Go.Vg
