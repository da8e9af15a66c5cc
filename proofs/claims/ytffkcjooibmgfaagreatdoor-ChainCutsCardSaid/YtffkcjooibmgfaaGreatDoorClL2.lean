/-
  Trees of what the functions compute, and their laws. Own work; no condition.
-/
import Derived.Test.YtffkcjooibmgfaaGreatDoorClL1
import Derived.Test.YtffkcjooibmgfaaGreatDoorProg
set_option linter.unusedVariables false
set_option linter.unusedSimpArgs false
namespace Go.Vs
open Go Go.Vg
theorem aoN (c : Int) : -1 ≤ aaJ c ∧ aaJ c ≤ 3 := by unfold aaJ; repeat' split <;> omega
theorem aoP (c : Int) : c = 1 ∨ c = 2 ∨ c = 3 ∨ c = 4 ∨ c = 5 ∨ c = 6 ∨ c = 7 ∨ c = 8 ∨ c = 9 ∨ c = 10 ∨ c = 11 ∨ c = 12 ∨ ((c ≠ 1 ∧ c ≠ 2 ∧ c ≠ 3 ∧ c ≠ 4 ∧ c ≠ 5 ∧ c ≠ 6) ∧ (c ≠ 7 ∧ c ≠ 8 ∧ c ≠ 9 ∧ c ≠ 10 ∧ c ≠ 11 ∧ c ≠ 12)) := zc
theorem aoO {c : Int} (h : ((c ≠ 1 ∧ c ≠ 2 ∧ c ≠ 3 ∧ c ≠ 4 ∧ c ≠ 5 ∧ c ≠ 6) ∧ (c ≠ 7 ∧ c ≠ 8 ∧ c ≠ 9 ∧ c ≠ 10 ∧ c ≠ 11 ∧ c ≠ 12))) : aaJ c = -1 := by
 unfold aaJ
 rw [if_neg zc, if_neg zc, if_neg (by unfold inR; omega), if_neg zc]
theorem awK (c : Int) (y) (h : ahF (c, ()) = some y) : (amA c).toO = some y := by
 rcases aoP c with rfl | rfl | rfl | rfl | rfl | rfl | rfl | rfl | rfl | rfl | rfl | rfl | hc
 all_goals first
  | exact h
  | skip
 unfold ahF at h
 dsimp only at h
 rw [aoO hc] at h
 obtain ⟨⟨h1, h2, h3, h4, h5, h6⟩, h7, h8, h9, h10, h11, h12⟩ := hc
 unfold amA abF
 simp only [beq_eq_false_iff_ne.2 h1, beq_eq_false_iff_ne.2 h2, beq_eq_false_iff_ne.2 h3, beq_eq_false_iff_ne.2 h4, beq_eq_false_iff_ne.2 h5, beq_eq_false_iff_ne.2 h6, beq_eq_false_iff_ne.2 h7, beq_eq_false_iff_ne.2 h8, beq_eq_false_iff_ne.2 h9, beq_eq_false_iff_ne.2 h10, beq_eq_false_iff_ne.2 h11, beq_eq_false_iff_ne.2 h12]
 exact h
theorem at8 (c : Int) (y) (h : abX (c, ()) = some y) : (akL c).toO = some y := by
 rcases aoP c with rfl | rfl | rfl | rfl | rfl | rfl | rfl | rfl | rfl | rfl | rfl | rfl | hc
 all_goals first
  | exact h
  | skip
 unfold abX at h
 dsimp only at h
 rw [aoO hc] at h
 obtain ⟨⟨h1, h2, h3, h4, h5, h6⟩, h7, h8, h9, h10, h11, h12⟩ := hc
 unfold akL aa7
 simp only [beq_eq_false_iff_ne.2 h1, beq_eq_false_iff_ne.2 h2, beq_eq_false_iff_ne.2 h3, beq_eq_false_iff_ne.2 h4, beq_eq_false_iff_ne.2 h5, beq_eq_false_iff_ne.2 h6, beq_eq_false_iff_ne.2 h7, beq_eq_false_iff_ne.2 h8, beq_eq_false_iff_ne.2 h9, beq_eq_false_iff_ne.2 h10, beq_eq_false_iff_ne.2 h11, beq_eq_false_iff_ne.2 h12]
 exact h
theorem afA {p : Prop} [Decidable p] {b : Bool} (h : p ↔ b = true) : decide p = b := by rw [xz, zB]; exact h
theorem adB {a b : Bool} {y : Bool × Unit} (h : some (a, ()) = some y) (e : a = b) : (TT.ok (b, ())).toO = some y := by subst e; exact h
theorem ao9 (o : OpT) (i n : Int) (y) (h : ad3 (o, i, n, ()) = some y) : (ahO o i n).toO = some y := by
 unfold ad3 at h
 split at h
 case isFalse => cases h
 case isTrue hr =>
 obtain ⟨⟨r1, r2⟩, r3, r4⟩ := hr
 dsimp only at h r1 r2 r3 r4
 have e1 : w64 (i - 1) = i - 1 := aaF zc
 have e2 : w64 (n - 1) = n - 1 := aaF zc
 unfold ahO
 rw [e1, e2]
 by_cases c1 : o.1 = 1
 ·refine uT (zu.2 c1) ?_
  by_cases d : 0 ≤ o.2.1
  ·exact uT (zn d) (adB h (afA (by unfold acM; rw [if_pos c1, zB]; omega)))
  ·exact uF (zl d) (adB h (zl (by unfold acM; rw [if_pos c1]; omega)))
 refine uF (beq_eq_false_iff_ne.2 c1) ?_
 by_cases c2 : o.1 = 2
 ·refine uT (zu.2 c2) ?_
  by_cases d : -1000000000 ≤ o.2.1
  ·exact uT (zn d) (adB h (afA (by unfold acM inR; rw [if_neg c1, if_pos c2, zB]; omega)))
  ·exact uF (zl d) (adB h (zl (by unfold acM inR; rw [if_neg c1, if_pos c2]; omega)))
 refine uF (beq_eq_false_iff_ne.2 c2) ?_
 by_cases c3 : o.1 = 11
 ·refine uT (zu.2 c3) ?_
  by_cases d : 0 ≤ o.2.1
  ·exact uT (zn d) (adB h (afA (by unfold acM; rw [if_neg c1, if_neg c2, if_pos c3, zB]; omega)))
  ·exact uF (zl d) (adB h (zl (by unfold acM; rw [if_neg c1, if_neg c2, if_pos c3]; omega)))
 refine uF (beq_eq_false_iff_ne.2 c3) ?_
 by_cases d : 0 ≤ o.2.1
 ·exact uT (zn d) (adB h (afA (by unfold acM; rw [if_neg c1, if_neg c2, if_neg c3, zB]; omega)))
 ·exact uF (zl d) (adB h (zl (by unfold acM; rw [if_neg c1, if_neg c2, if_neg c3]; omega)))
theorem arR (o : OpT) (i n : Int) (y) (h : agO (o, i, n, ()) = some y) : (aiQ o i n).toO = some y := by
 unfold agO at h
 dsimp only at h
 unfold aiQ
 by_cases c1 : o.1 = 1
 ·refine uT (zu.2 c1) ?_
  by_cases d : 0 ≤ o.2.1
  ·exact uT (zn d) (adB h (afA (by unfold acM; rw [if_pos c1, zB]; omega)))
  ·exact uF (zl d) (adB h (zl (by unfold acM; rw [if_pos c1]; omega)))
 refine uF (beq_eq_false_iff_ne.2 c1) ?_
 by_cases c2 : o.1 = 2
 ·refine uT (zu.2 c2) ?_
  by_cases d : -1000000000 ≤ o.2.1
  ·exact uT (zn d) (adB h (afA (by unfold acM inR; rw [if_neg c1, if_pos c2, zB]; omega)))
  ·exact uF (zl d) (adB h (zl (by unfold acM inR; rw [if_neg c1, if_pos c2]; omega)))
 refine uF (beq_eq_false_iff_ne.2 c2) ?_
 by_cases c3 : o.1 = 11
 ·refine uT (zu.2 c3) ?_
  by_cases d : 0 ≤ o.2.1
  ·exact uT (zn d) (adB h (afA (by unfold acM; rw [if_neg c1, if_neg c2, if_pos c3, zB]; omega)))
  ·exact uF (zl d) (adB h (zl (by unfold acM; rw [if_neg c1, if_neg c2, if_pos c3]; omega)))
 exact uF (beq_eq_false_iff_ne.2 c3) (adB h (afA (by unfold acM; rw [if_neg c1, if_neg c2, if_neg c3, zu])))
theorem axT {α : Type} {l : List α} {k : Nat} (d : α) (h : k < l.length) : l.drop k = l.getD k d :: l.drop (k + 1) := by
 rw [yj h]; simp [h]
theorem aoR (ins : Int) : ∀ (l : List OpT) (n m n' m' : Int), abD ins l n m = some (n', m') → m ≤ m'
 | [], n, m, n', m', h => by
  injection h with h
  obtain ⟨-, h⟩ := Prod.mk.inj h
  omega
 | o :: r, n, m, n', m', h => by
  simp only [abD] at h
  split at h
  ·have := aoR ins r _ _ _ _ h
   split at this <;> omega
  ·cases h
def aJw (o : Int) : Option (Int × Int) → Int × Int × Unit
 | some (n, m) => if m ≤ 16 ∧ n = o then (m, 0, ()) else (0, 120, ())
 | none => (0, 120, ())
theorem aBR {o ins : Int} {l : List OpT} {n m : Int} (h : 16 < m) : aJw o (abD ins l n m) = (0, 120, ()) := by
 cases e : abD ins l n m with
 | none => rfl
 | some x =>
  obtain ⟨n', m'⟩ := x
  have := aoR _ _ _ _ _ _ e
  unfold aJw
  exact if_neg zc
def aLm : Option Int → Int × Int × Unit
 | some m => (m, 0, ())
 | none => (0, 120, ())
theorem ahI (c : Int) : ahF (c, ()) = some (if aaJ c < 0 then 0 else aaJ c, decide (0 ≤ aaJ c), ()) := rfl
theorem ah6 {o : OpT} {i n : Int} (h1 : inR i 0 100) (h2 : inR n 0 100) : ad3 (o, i, n, ()) = some (decide (acM o i n), ()) := if_pos ⟨h1, h2⟩
theorem auE (p : List OpT) (i o : Int) (y) (h : af6 (p, i, o, ()) = some y) : (akP p i o).toO = some y := by
 unfold af6 at h
 split at h
 case isFalse => cases h
 case isTrue hl =>
 injection h with h
 have h : aLm (ad7 p i o) = y := by rw [← h]; unfold aLm; rfl
 subst h
 unfold akP ac5
 by_cases c : inR i 1 4 ∧ inR o 1 4 ∧ p.length ≤ 40
 case neg =>
  have e : ad7 p i o = none := by unfold ad7; rw [if_neg c]
  rw [e]
  unfold inR at c
  by_cases c1 : 1 ≤ i
  case neg => exact uF (zl c1) rfl
  refine uT (zn c1) ?_
  by_cases c2 : i ≤ 4
  case neg => exact uF (zl c2) rfl
  refine uT (zn c2) ?_
  by_cases c3 : 1 ≤ o
  case neg => exact uF (zl c3) rfl
  refine uT (zn c3) ?_
  by_cases c4 : o ≤ 4
  case neg => exact uF (zl c4) rfl
  refine uT (zn c4) (uV (uV (uT ?_ rfl)))
  rw [zl (by rw [aaB]; omega)]; rfl
 obtain ⟨⟨c1, c2⟩, ⟨c3, c4⟩, c5⟩ := c
 have e : aLm (ad7 p i o) = aJw o (abD i p 0 0) := by
  unfold ad7
  rw [if_pos ⟨⟨c1, c2⟩, ⟨c3, c4⟩, c5⟩]
  cases abD i p 0 0 with
  | none => rfl
  | some x =>
   obtain ⟨n, m⟩ := x
   unfold aJw
   dsimp only
   by_cases d : m ≤ 16 ∧ n = o
   ·rw [if_pos d, if_pos d]; rfl
   ·rw [if_neg d, if_neg d]; rfl
 rw [e]
 refine uT (zn c1) (uT (zn c2) (uT (zn c3) (uT (zn c4) (uV (uV (uF ?_ (uO (0, 0, 0, ()) rfl ?_)))))))
 ·rw [zn (by rw [aaB]; omega)]; rfl
 refine acJ (fun j : Int × Int × Int × Unit => ∃ k : Nat, k ≤ p.length ∧ j.1 = (k : Int) ∧ (0 ≤ j.2.1 ∧ j.2.1 ≤ 16) ∧ (0 ≤ j.2.2.1 ∧ j.2.2.1 ≤ 16)) (fun j => ((p.length : Int) - j.1).toNat) (fun j => aJw o (abD i (p.drop j.1.toNat) j.2.1 j.2.2.1)) ?_ _ ⟨0, by omega, rfl, by dsimp only; omega, by dsimp only; omega⟩
 rintro ⟨j1, n, m, u⟩ ⟨k, h2, rfl, ⟨n1, n2⟩, m1, m2⟩
 dsimp only at n1 n2 m1 m2
 simp only [anF, afR, adY, aaL, zA]
 rcases zO k p.length with hk | hk
 ·rw [axT (0, 0, ()) hk]
  generalize hq : p.getD k (0, 0, ()) = q
  have tr := aoN q.1
  by_cases t0 : 0 ≤ aaJ q.1
  case neg =>
   right
   refine uT sd (uN sd (uC _ (ahI _) (uF (zl t0) ?_)))
   simp only [abD]
   rw [if_neg (fun h => t0 h.1)]
   rfl
  have tv0 : (if aaJ q.1 < 0 then 0 else aaJ q.1) = aaJ q.1 := if_neg zc
  by_cases t1 : aaJ q.1 ≤ n
  case neg =>
   right
   refine uT sd (uN sd (uC _ (ahI _) (uT (zn t0) (uF (zl (by rw [tv0]; exact t1)) ?_))))
   simp only [abD]
   rw [if_neg (fun h => t1 h.2.1)]
   rfl
  by_cases t2 : acM q i n
  case neg =>
   right
   refine uT sd (uN sd (uC _ (ahI _) (uT (zn t0) (uT (zn (by rw [tv0]; exact t1)) (uC _ (ah6 ⟨by omega, by omega⟩ ⟨n1, by omega⟩) (uV (uV (uT (by show (!decide (acM q i n)) = true; rw [zl t2]; rfl) ?_))))))))
   simp only [abD]
   rw [if_neg (fun h => t2 h.2.2)]
   rfl
  have hst : abD i (q :: p.drop (k + 1)) n m = abD i (p.drop (k + 1)) (n - aaJ q.1 + 1) (if n - aaJ q.1 + 1 > m then n - aaJ q.1 + 1 else m) := by
   simp only [abD]
   exact if_pos ⟨t0, t1, t2⟩
  have e1 : w64 (n + w64 (1 - (if aaJ q.1 < 0 then 0 else aaJ q.1))) = n - aaJ q.1 + 1 := by
   rw [tv0, aaF (x := 1 - aaJ q.1) zc, aaF zc]; omega
  rw [hst]
  by_cases t3 : n - aaJ q.1 + 1 ≤ 16
  case neg =>
   right
   rw [aBR (by split <;> omega)]
   refine uT sd (uN sd (uC _ (ahI _) (uT (zn t0) (uT (zn (by rw [tv0]; exact t1)) (uC _ (ah6 ⟨by omega, by omega⟩ ⟨n1, by omega⟩) (uV (uV (uF (by show (!decide (acM q i n)) = false; rw [zn t2]; rfl) ?_))))))))
   refine uV (uV (uT ?_ rfl))
   dsimp only
   rw [e1, zl t3]; rfl
  left
  refine ⟨(((k + 1 : Nat) : Int), n - aaJ q.1 + 1, (if n - aaJ q.1 + 1 > m then n - aaJ q.1 + 1 else m), ()), ?_, ⟨k + 1, by omega, rfl, by dsimp only; omega, by dsimp only; split <;> omega⟩, by dsimp only; omega, by dsimp only; rw [zA]⟩
  refine uT sd (uN sd (uC _ (ahI _) (uT (zn t0) (uT (zn (by rw [tv0]; exact t1)) (uC _ (ah6 ⟨by omega, by omega⟩ ⟨n1, by omega⟩) (uV (uV (uF (by show (!decide (acM q i n)) = false; rw [zn t2]; rfl) ?_))))))))
  dsimp only
  rw [e1]
  refine uV (uV (uF (by rw [zn t3]; rfl) (uV (uB (uB (uB (uV (uV ?_))))))))
  rw [arG hk zc]; rfl
 ·right
  rw [yK hk]
  refine uF sd (uV (uV ?_))
  have e9 : aJw o (abD i [] n m) = if m ≤ 16 ∧ n = o then (m, 0, ()) else (0, 120, ()) := rfl
  rw [e9]
  by_cases d : n = o
  ·rw [if_pos ⟨m2, d⟩]
   exact uF (by rw [zu.2 d]; rfl) rfl
  ·rw [if_neg (fun h => d h.2)]
   exact uT (by rw [beq_eq_false_iff_ne.2 d]; rfl) rfl
theorem aAF {p : List OpT} (i o : Int) (h : shL p) : af6 (p, i, o, ()) = some (match ad7 p i o with | some m => (m, 0, ()) | none => (0, 120, ())) := if_pos h
theorem awL (p : List OpT) (i o : Int) (y) (h : afJ (p, i, o, ()) = some y) : (amB p i o).toO = some y := by
 unfold afJ at h
 split at h
 case isFalse => cases h
 case isTrue hl =>
 unfold amB
 refine uC _ (aAF i o hl) (Eq.trans ?_ h)
 dsimp only
 cases ad7 p i o <;> rfl
def aIS (o : Int) : Option (Int × Int) → Int × Bool × Unit
 | some (n, m) => (m, decide (m ≤ 16 ∧ n = o), ())
 | none => (0, false, ())
theorem at9 (p : List OpT) (i o : Int) (y) (h : af5 (p, i, o, ()) = some y) : (akM p i o).toO = some y := by
 unfold af5 at h
 split at h
 case isFalse => cases h
 case isTrue hl =>
 injection h with h
 have h : aIS o (if inR i 1 4 ∧ inR o 1 4 ∧ p.length ≤ 40 then abD i p 0 0 else none) = y := by rw [← h]; unfold aIS; rfl
 subst h
 unfold akM
 by_cases c : inR i 1 4 ∧ inR o 1 4 ∧ p.length ≤ 40
 case neg =>
  rw [if_neg c]
  unfold inR at c
  by_cases c1 : 1 ≤ i
  case neg => exact uT sd rfl
  refine uF sd ?_
  by_cases c2 : i ≤ 4
  case neg => exact uT sd rfl
  refine uF sd ?_
  by_cases c3 : 1 ≤ o
  case neg => exact uT sd rfl
  refine uF sd ?_
  by_cases c4 : o ≤ 4
  case neg => exact uT sd rfl
  refine uF sd (uT (zn ?_) rfl)
  rw [aaB]; omega
 rw [if_pos c]
 obtain ⟨⟨c1, c2⟩, ⟨c3, c4⟩, c5⟩ := c
 refine uF sd (uF sd (uF sd (uF sd (uF (zl (by rw [aaB]; omega)) (uO (0, 0, 0, ()) rfl ?_)))))
 refine acJ (fun j : Int × Int × Int × Unit => ∃ k : Nat, k ≤ p.length ∧ j.1 = (k : Int) ∧ (0 ≤ j.2.2.1 ∧ j.2.2.1 ≤ (k : Int)) ∧ (0 ≤ j.2.1 ∧ j.2.1 ≤ (k : Int))) (fun j => ((p.length : Int) - j.1).toNat) (fun j => aIS o (abD i (p.drop j.1.toNat) j.2.2.1 j.2.1)) ?_ _ ⟨0, by omega, rfl, by dsimp only; omega, by dsimp only; omega⟩
 rintro ⟨j1, m, n, u⟩ ⟨k, h2, rfl, ⟨n1, n2⟩, m1, m2⟩
 dsimp only at n1 n2 m1 m2
 simp only [anB, aaL, zA]
 rcases zO k p.length with hk | hk
 ·rw [axT (0, 0, ()) hk]
  generalize hq : p.getD k (0, 0, ()) = q
  have tr := aoN q.1
  by_cases t0 : 0 ≤ aaJ q.1
  case neg =>
   right
   refine uT sd (uN sd (uC (aaJ q.1, ()) rfl (uT (zn zg) ?_)))
   simp only [abD]
   rw [if_neg (fun h => t0 h.1)]
   rfl
  by_cases t1 : aaJ q.1 ≤ n
  case neg =>
   right
   refine uT sd (uN sd (uC (aaJ q.1, ()) rfl (uF (zl zg) (uT (zn zg) ?_))))
   simp only [abD]
   rw [if_neg (fun h => t1 h.2.1)]
   rfl
  by_cases t2 : acM q i n
  case neg =>
   right
   refine uT sd (uN sd (uC (aaJ q.1, ()) rfl (uF (zl zg) (uF (zl zg) (uN sd (uC (decide (acM q i n), ()) rfl (uT (by dsimp only; rw [zl t2]; rfl) ?_)))))))
   simp only [abD]
   rw [if_neg (fun h => t2 h.2.2)]
   rfl
  have hst : abD i (q :: p.drop (k + 1)) n m = abD i (p.drop (k + 1)) (n - aaJ q.1 + 1) (if n - aaJ q.1 + 1 > m then n - aaJ q.1 + 1 else m) := by
   simp only [abD]
   exact if_pos ⟨t0, t1, t2⟩
  have e1 : w64 (w64 (n - aaJ q.1) + 1) = n - aaJ q.1 + 1 := by
   rw [aaF (x := n - aaJ q.1) zc, aaF zc]
  rw [hst]
  left
  refine ⟨(((k + 1 : Nat) : Int), (if n - aaJ q.1 + 1 > m then n - aaJ q.1 + 1 else m), n - aaJ q.1 + 1, ()), ?_, ⟨k + 1, by omega, rfl, by dsimp only; omega, by dsimp only; split <;> omega⟩, by dsimp only; omega, by dsimp only; rw [zA]⟩
  refine uT sd (uN sd (uC (aaJ q.1, ()) rfl (uF (zl zg) (uF (zl zg) (uN sd (uC (decide (acM q i n), ()) rfl (uF (by dsimp only; rw [zn t2]; rfl) ?_)))))))
  dsimp only
  rw [e1]
  refine uV (uB (uB (uB (uV (uV ?_)))))
  rw [arG hk zc]; rfl
 ·right
  rw [yK hk]
  refine uF sd ?_
  have e9 : aIS o (abD i [] n m) = (m, decide (m ≤ 16 ∧ n = o), ()) := rfl
  rw [e9]
  by_cases d : m ≤ 16
  ·refine uT (zn d) ?_
   rw [show decide (m ≤ 16 ∧ n = o) = (n == o) from afA (by rw [zu]; exact and_iff_right d)]
   rfl
  ·refine uF (zl d) ?_
   rw [zl (fun h => d h.1)]
   rfl
theorem aAC {p : List OpT} (i o : Int) (h : shL p) : af5 (p, i, o, ()) = some (aIS o (if inR i 1 4 ∧ inR o 1 4 ∧ p.length ≤ 40 then abD i p 0 0 else none)) := (if_pos h).trans (by unfold aIS; rfl)
theorem auA (p : List OpT) (i o : Int) (y) (h : acV (p, i, o, ()) = some y) : (akN p i o).toO = some y := by
 unfold acV at h
 split at h
 case isFalse => cases h
 case isTrue hl =>
 unfold akN
 refine uC _ (aAC i o hl) (Eq.trans ?_ h)
 show some _ = some _
 unfold ad7
 dsimp only
 by_cases c : inR i 1 4 ∧ inR o 1 4 ∧ p.length ≤ 40
 case neg => rw [if_neg c, if_neg c]; rfl
 rw [if_pos c, if_pos c]
 cases abD i p 0 0 with
 | none => rfl
 | some x =>
  obtain ⟨n, m⟩ := x
  unfold aIS
  dsimp only
  by_cases d : m ≤ 16 ∧ n = o
  ·rw [if_pos d, zn d]; rfl
  ·rw [if_neg d, zl d]; rfl
set_option maxRecDepth 100000
open Go Go.Vg Go.Proofs
noncomputable section
def ay6 : LTab := []
def akG (n : Int) (low : Int) (high : Int) : TT wc :=
 .ite (decide (n ≥ low))
 (.ok ((decide (n ≤ high), ())))
 (.ok ((false, ())))
def ay8 : LTab := [(122, 26, 2048, ⟨0, (Int) × Unit, .dat (.s 5) xW <| .nil, [0, 1], [], 0⟩)]
def anA (a : Int) (b : Int) (i : (Int) × Unit) : TT wg :=
 .ite (decide (i.1 ≤ a))
 (.ite (decide (i.1 ≤ b))
 (.need (i.1 ≠ 0) <| .ite (Int.tmod a i.1 == 0)
 (.need (i.1 ≠ 0) <| .ite (Int.tmod b i.1 == 0)
 (.ok (.inr ((true, ()))))
 (.tt <| .lt (w64 (i.1 + 1) : Int) fun z => .xC (xF z a b) <| .tr <| .ok (.inl ((z, ())))))
 (.tt <| .lt (w64 (i.1 + 1) : Int) fun z1 => .xC (xF z1 a b) <| .tr <| .ok (.inl ((z1, ())))))
 (.ok (.inr ((false, ())))))
 (.ok (.inr ((false, ()))))
def akH (a : Int) (b : Int) : TT wc :=
 .loop 0 (.tt <| .xC (xF (2 : Int) a b) <| .tr <| .ok ((2, ()))) (anA a b)
def av3 : LTab := []
def aiK (s : Int × Int × Int × Int × Int × Int × Unit) : TT wc :=
 .call (abW (s.2.1, -100000000, 100000000, ())) Dd1 fun y =>
 .ite (y.1)
 (.call (abW (s.2.2.1, -100000000, 100000000, ())) Dd1 fun y1 =>
 .ite (y1.1)
 (.call (abW (s.2.2.2.2.2.1, -100000000, 100000000, ())) Dd1 fun y2 =>
 .ite (y2.1)
 (.call (abW (s.2.2.2.1, 1, 36, ())) Dd1 fun y3 =>
 .ite (y3.1)
 (.call (abW (s.2.2.2.2.1, 1, 12, ())) Dd1 fun y4 =>
 .ite (y4.1)
 (.call (aa5 (s.2.2.2.1, s.2.2.2.2.1, ())) Dd1 fun y5 =>
 .ok ((!y5.1, ())))
 (.ok ((false, ()))))
 (.ok ((false, ()))))
 (.ok ((false, ()))))
 (.ok ((false, ()))))
 (.ok ((false, ())))
def aBT : LTab := [(125, 3442, 9216, ⟨0, (Int) × Unit, .dat (.s 3) xW <| .nil, [8, 1], [0], 0⟩), (125, 27626, 12288, ⟨1, (Int) × (Int) × Unit, .dat (.s 5) xW <| .dat (.s 4) xW <| .nil, [1], [0], 0⟩)]
def ao1 (c : Int × List Int × List xV × Unit) (i : (Int) × Unit) : TT wg :=
 .ite (decide (i.1 < len c.2.1))
 (.need (inb i.1 (len c.2.1)) <| .call (abW (gi c.2.1 i.1 0, 0, 65535, ())) Dd1 fun y =>
 .ite (!y.1)
 (.ok (.inr ((false, ()))))
 (.tt <| .lt (w64 (i.1 + 1) : Int) fun z => .xC (xO z c.1 <| xZ ∧ True) <| .xC (xB (xD 102 c.1 c.2.1 c.2.2.1) True) <| .ok (.inl ((z, ())))))
 (.call (abW (len c.2.1, 2, 17, ())) Dd1 fun y1 =>
 .ite (y1.1)
 (.ok (.inr ((len c.2.2.1 == 0, ()))))
 (.ok (.inr ((false, ())))))
def ao0 (c : Int × List Int × List xV × Unit) (i1 : (Int) × (Int) × Unit) : TT (wA ⊕ wc) :=
 .ite (decide (i1.1 < len c.2.2.1))
 (.need (inb i1.1 (len c.2.2.1)) <| .call (agN (((gi c.2.2.1 i1.1 (0, 0, 0, 0, 0, 0, ())).1, (gi c.2.2.1 i1.1 (0, 0, 0, 0, 0, 0, ())).2.1, (gi c.2.2.1 i1.1 (0, 0, 0, 0, 0, 0, ())).2.2.1, (gi c.2.2.1 i1.1 (0, 0, 0, 0, 0, 0, ())).2.2.2.1, (gi c.2.2.1 i1.1 (0, 0, 0, 0, 0, 0, ())).2.2.2.2.1, (gi c.2.2.1 i1.1 (0, 0, 0, 0, 0, 0, ())).2.2.2.2.2.1, ()), ())) Dd1 fun y2 =>
 .ite (!y2.1)
 (.ok (.inr ((false, ()))))
 (.ite (decide ((gi c.2.2.1 i1.1 (0, 0, 0, 0, 0, 0, ())).1 ≤ i1.2.1))
 (.ok (.inr ((false, ()))))
 (.tt <| .lt (w64 (i1.1 + 1) : Int) fun z1 => .lt ((gi c.2.2.1 i1.1 (0, 0, 0, 0, 0, 0, ())).1 : Int) fun z2 => .xC (xO z2 z1 <| xZ ∧ True) <| .xC (xB (xD 102 c.1 c.2.1 c.2.2.1) True) <| .ok (.inl ((z1, z2, ()))))))
 (.call (abW (len c.2.2.1, 1, 4, ())) Dd1 fun y3 =>
 .ite (y3.1)
 (.ite (i1.2.1 == 1000000)
 (.ok (.inr ((len c.2.1 == 0, ()))))
 (.ok (.inr ((false, ())))))
 (.ok (.inr ((false, ())))))
def al6 (c : Int × List Int × List xV × Unit) : TT wc :=
 .ite (c.1 == 1)
 (.ite (len c.2.1 == 0)
 (.ok ((len c.2.2.1 == 0, ())))
 (.ok ((false, ()))))
 (.ite (c.1 == 2)
 (.loop 0 (.tt <| .xC (xO (0 : Int) c.1 <| xZ ∧ True) <| .xC (xB (xD 102 c.1 c.2.1 c.2.2.1) True) <| .ok ((0, ()))) (ao1 c))
 (.ite (c.1 == 3)
 (.loop 1 (.tt <| .xC (xO (0 : Int) (0 : Int) <| xZ ∧ True) <| .xC (xB (xD 102 c.1 c.2.1 c.2.2.1) True) <| .ok ((0, 0, ()))) (ao0 c))
 (.ok ((false, ())))))
end
theorem atZ (n a b : Int) (y) (h : abW (n, a, b, ()) = some y) : (akG n a b).toO = some y := by
 injection h with h
 subst h
 unfold akG
 dsimp only
 by_cases c : a ≤ n
 ·refine uT (zn c) ?_
  rw [abQ]
  by_cases d : n ≤ b
  ·rw [zn d, zn (show inR n a b from ⟨c, d⟩)]
  ·rw [zl d, zl (fun h : inR n a b => d h.2)]
 ·refine uF (zl c) ?_
  rw [abQ, zl (fun h : inR n a b => c h.1)]
theorem acN (n a b : Int) : abW (n, a, b, ()) = some (decide (inR n a b), ()) := rfl
theorem at3 (a b : Int) (y) (h : aa5 (a, b, ()) = some y) : (akH a b).toO = some y := by
 unfold aa5 at h
 split at h
 case isFalse => cases h
 case isTrue hp =>
 injection h with h
 subst h
 obtain ⟨⟨a1, a2⟩, b1, b2⟩ := hp
 dsimp only at a1 a2 b1 b2 ⊢
 obtain ⟨m, rfl⟩ := yG (show 0 ≤ a by omega)
 obtain ⟨n, rfl⟩ := yG (show 0 ≤ b by omega)
 unfold akH
 refine uO (2, ()) rfl ?_
 refine acJ (fun i : Int × Unit => ∃ k : Nat, 2 ≤ k ∧ k ≤ 50 ∧ i.1 = (k : Int) ∧ ∀ j, 2 ≤ j → j < k → ¬ (j ∣ m ∧ j ∣ n)) (fun i => ((60 : Int) - i.1).toNat) (fun _ => (!decide (Nat.gcd (m : Int).natAbs (n : Int).natAbs = 1), ())) ?_ _ ⟨2, by omega, by omega, rfl, fun j h1 h2 => by omega⟩
 rintro ⟨i, u⟩ ⟨k, h1, h1', h2, h3⟩
 dsimp only at h2
 subst h2
 simp only [anA, xm]
 have hstop : ¬ (k ≤ m ∧ k ≤ n) → (!decide (Nat.gcd m n = 1)) = false := by
  intro hk
  refine (fun hg : Nat.gcd m n = 1 => by rw [zn hg]; rfl) ?_
  have g1 : 0 < Nat.gcd m n := Nat.gcd_pos_of_pos_left _ zc
  have g2 := Nat.gcd_dvd_left m n
  have g3 := Nat.gcd_dvd_right m n
  have g4 := Nat.le_of_dvd zc g2
  have g5 := Nat.le_of_dvd zc g3
  rcases zO 1 (Nat.gcd m n) with g6 | g6
  ·exact absurd ⟨g2, g3⟩ (h3 _ zc zc)
  ·omega
 have hdiv : ∀ z : Nat, ((Int.tmod (z : Int) (k : Int)) == 0) = decide (k ∣ z) := by
  intro z
  rw [← Int.ofNat_tmod]
  by_cases c : k ∣ z
  ·rw [zn c, Nat.mod_eq_zero_of_dvd c]; rfl
  ·rw [zl c, beq_eq_false_iff_ne]
   intro h
   exact c (Nat.dvd_of_mod_eq_zero zc)
 by_cases c1 : k ≤ m
 ·by_cases c2 : k ≤ n
  ·by_cases d1 : k ∣ m
   ·by_cases d2 : k ∣ n
    ·right
     rw [zl (fun h : Nat.gcd m n = 1 => by have := Nat.dvd_gcd d1 d2; rw [h] at this; have := Nat.le_of_dvd zc this; omega)]
     exact uT sd (uT sd (uN zc (uT (by rw [hdiv]; exact zn d1) (uN zc (uT (by rw [hdiv]; exact zn d2) rfl)))))
    ·left
     refine ⟨(((k + 1 : Nat) : Int), ()), ?_, ⟨k + 1, by omega, by omega, rfl, fun j j1 j2 => ?_⟩, by dsimp only; omega, zf⟩
     ·refine uT sd (uT sd (uN zc (uT (by rw [hdiv]; exact zn d1) (uN zc (uF (by rw [hdiv]; exact zl d2) ?_)))))
      rw [aaF (x := (k : Int) + 1) zc]; rfl
     ·rcases zO j k with hj | hj
      ·exact h3 j j1 hj
      ·obtain rfl : j = k := zc
       exact fun h => d2 h.2
   ·left
    refine ⟨(((k + 1 : Nat) : Int), ()), ?_, ⟨k + 1, by omega, by omega, rfl, fun j j1 j2 => ?_⟩, by dsimp only; omega, zf⟩
    ·refine uT sd (uT sd (uN zc (uF (by rw [hdiv]; exact zl d1) ?_)))
     rw [aaF (x := (k : Int) + 1) zc]; rfl
    ·rcases zO j k with hj | hj
     ·exact h3 j j1 hj
     ·obtain rfl : j = k := zc
      exact fun h => d1 h.1
  ·right
   rw [hstop (fun h => c2 h.2)]
   exact uT sd (uF sd rfl)
 ·right
  rw [hstop (fun h => c1 h.1)]
  exact uF sd rfl
theorem arO (s : aiD) (y) (h : agN (s, ()) = some y) : (aiK s).toO = some y := by
 injection h with h
 subst h
 obtain ⟨till, mul, add, num, den, off, u⟩ := s
 unfold aiK
 dsimp only
 refine uC _ (acN _ _ _) ?_
 by_cases c1 : inR mul (-100000000) 100000000
 case neg => rw [zl (fun h : agF (till, mul, add, num, den, off, u) => c1 h.1)]; exact uF (zl c1) rfl
 refine uT (zn c1) (uC _ (acN _ _ _) ?_)
 by_cases c2 : inR add (-100000000) 100000000
 case neg => rw [zl (fun h : agF (till, mul, add, num, den, off, u) => c2 h.2.1)]; exact uF (zl c2) rfl
 refine uT (zn c2) (uC _ (acN _ _ _) ?_)
 by_cases c3 : inR off (-100000000) 100000000
 case neg => rw [zl (fun h : agF (till, mul, add, num, den, off, u) => c3 h.2.2.1)]; exact uF (zl c3) rfl
 refine uT (zn c3) (uC _ (acN _ _ _) ?_)
 by_cases c4 : inR num 1 36
 case neg => rw [zl (fun h : agF (till, mul, add, num, den, off, u) => c4 h.2.2.2.1)]; exact uF (zl c4) rfl
 refine uT (zn c4) (uC _ (acN _ _ _) ?_)
 by_cases c5 : inR den 1 12
 case neg => rw [zl (fun h : agF (till, mul, add, num, den, off, u) => c5 h.2.2.2.2.1)]; exact uF (zl c5) rfl
 refine uT (zn c5) (uC (!decide (Nat.gcd num.natAbs den.natAbs = 1), ()) (by unfold aa5; rw [if_pos ⟨c4, c5⟩]) ?_)
 rw [abQ]
 by_cases c6 : Nat.gcd num.natAbs den.natAbs = 1
 ·rw [zn (show agF (till, mul, add, num, den, off, u) from ⟨c1, c2, c3, c4, c5, c6⟩), zn c6]; rfl
 ·rw [zl (fun h : agF (till, mul, add, num, den, off, u) => c6 h.2.2.2.2.2), zl c6]; rfl
theorem atH {c : CvT} (h : shC c) : afI (c, ()) = some (decide (acR c), ()) := by unfold afI; rw [if_pos h]
theorem nT {p : Prop} [Decidable p] (h : ¬ p) : (!decide p) = true := by rw [zl h]; rfl
theorem nF {p : Prop} [Decidable p] (h : p) : (!decide p) = false := by rw [zn h]; rfl
theorem aiA {α : Type} {p : Prop} [Decidable p] {a b : α} {c : Bool} (h : c = true ↔ p) : (if c then a else b) = if p then a else b := by
 by_cases hp : p
 ·rw [if_pos hp, if_pos (h.2 hp)]
 ·rw [if_neg hp, if_neg (fun e => hp (h.1 e))]
theorem ae9 {α : Type} (l : List α) (d : α) (p : α → Prop) [DecidablePred p] : (List.range l.length).all (fun k => decide (p (l.getD k d))) = true ↔ ∀ x ∈ l, p x := by
 rw [aHA l d (fun x => decide (p x)), yo]
 exact ⟨fun h x hx => of_decide_eq_true (h x hx), fun h x hx => zn (h x hx)⟩
theorem aeT {α : Type} {l : List α} {k : Nat} (d : α) (h : k < l.length) : l.getD k d ∈ l := by
 have : l.getD k d = l[k] := by simp [h]
 rw [this]; exact yv h
theorem aAG {l : List Int} (h : shL l) : adC (l, ()) = some (afQ l, ()) := if_pos h
theorem ayH {l : List Int} (h : shL l) : ab4 (l, ()) = some (afQ l, ()) := if_pos h
theorem az7 (g : GrT) (y) (h : ahG (g, ()) = some y) : (apX g).toO = some y := by
 unfold ahG at h
 split at h
 case isFalse => cases h
 case isTrue hl =>
 obtain ⟨l1, l2⟩ := hl
 injection h with h
 subst h
 dsimp only at l1 l2 ⊢
 have l1' : g.1.length ≤ 1000000000000 := l1
 have l2' : g.2.2.1.length ≤ 1000000000000 := l2
 unfold apX
 refine uC (decide (inR (len g.1) 1 4), ()) rfl ?_
 by_cases c1 : inR (len g.1) 1 4
 case neg =>
  refine uT (nT c1) ?_
  rw [if_neg (fun h => c1 ⟨by have := h.1.1; rw [aaB]; omega, by have := h.1.2; rw [aaB]; omega⟩)]; rfl
 refine uF (nF c1) (uC (decide (inR g.2.1 1 4), ()) rfl ?_)
 by_cases c2 : inR g.2.1 1 4
 case neg =>
  refine uT (nT c2) ?_
  rw [if_neg (fun h => c2 h.2.1)]; rfl
 refine uF (nF c2) (uO (0, ()) rfl ?_)
 have c1' : 1 ≤ g.1.length ∧ g.1.length ≤ 4 := by obtain ⟨a, b⟩ := c1; rw [aaB] at a b; omega
 refine (ab9 (n := g.1.length) (bad := (100, ())) (good := (if g.2.2.1.length ≤ 4096 ∧ (g.2.2.1.length : Int) = w64 (afQ g.1 * g.2.1) ∧ ∀ v ∈ g.2.2.1, inR v 0 65535 then 0 else 100, ())) (fun k => decide (inR (g.1.getD k 0) 2 9)) (fun k hk hp => ?_) (fun k hk hp => ?_) ?_).trans ?_
 ·simp only [ajN, aaL]
  refine uT sd (uN sd (uC (decide (inR (g.1.getD k 0) 2 9), ()) rfl (uF (nF (of_decide_eq_true hp)) (uV (uB (uV (uV ?_)))))))
  rw [arG hk l1']; rfl
 ·simp only [ajN, aaL]
  exact uT sd (uN sd (uC (decide (inR (g.1.getD k 0) 2 9), ()) rfl (uT (nT (of_decide_eq_false hp)) rfl)))
 ·simp only [ajN, aaL]
  refine uF sd ?_
  by_cases d1 : g.2.2.1.length ≤ 4096
  case neg =>
   refine uT (zn (by rw [aaB]; omega)) ?_
   rw [if_neg (fun h => d1 h.1)]; rfl
  refine uF (zl (by rw [aaB]; omega)) (uC _ (aAG l1) ?_)
  by_cases d2 : (g.2.2.1.length : Int) = w64 (afQ g.1 * g.2.1)
  case neg =>
   refine uT (yI.2 d2) ?_
   rw [if_neg (fun h => d2 h.2.1)]; rfl
  refine uF (bne_eq_false_iff_eq.2 d2) (uO (0, ()) rfl ?_)
  refine (ab9 (n := g.2.2.1.length) (bad := .inr (100, ())) (good := .inr (0, ())) (fun k => decide (inR (g.2.2.1.getD k 0) 0 65535)) (fun k hk hp => ?_) (fun k hk hp => ?_) ?_).trans ?_
  ·simp only [amI, aaL]
   refine uT sd (uN sd (uC (decide (inR (g.2.2.1.getD k 0) 0 65535), ()) rfl (uF (nF (of_decide_eq_true hp)) (uV (uB (uV (uV ?_)))))))
   rw [arG hk l2']; rfl
  ·simp only [amI, aaL]
   exact uT sd (uN sd (uC (decide (inR (g.2.2.1.getD k 0) 0 65535), ()) rfl (uT (nT (of_decide_eq_false hp)) rfl)))
  ·exact uF sd rfl
  ·rw [aiA (ae9 g.2.2.1 0 (fun v => inR v 0 65535))]
   by_cases d3 : ∀ v ∈ g.2.2.1, inR v 0 65535
   ·rw [if_pos d3, if_pos ⟨d1, d2, d3⟩]
   ·rw [if_neg d3, if_neg (fun h => d3 h.2.2)]
 ·rw [aiA (ae9 g.1 0 (fun v => inR v 2 9))]
  by_cases d : ∀ v ∈ g.1, inR v 2 9
  case neg => rw [if_neg d, if_neg (fun h => d h.2.2.1)]
  rw [if_pos d]
  by_cases e : g.2.2.1.length ≤ 4096 ∧ (g.2.2.1.length : Int) = w64 (afQ g.1 * g.2.1) ∧ ∀ v ∈ g.2.2.1, inR v 0 65535
  ·rw [if_pos e, if_pos ⟨c1', c2, d, e⟩]
  ·rw [if_neg e, if_neg (fun h => e h.2.2.2)]
theorem auC (g : GrT) (y) (h : acW (g, ()) = some y) : (akO g).toO = some y := by
 unfold acW at h
 split at h
 case isFalse => cases h
 case isTrue hl =>
 obtain ⟨l1, l2⟩ := hl
 injection h with h
 subst h
 dsimp only at l1 l2 ⊢
 have l1' : g.1.length ≤ 1000000000000 := l1
 have l2' : g.2.2.1.length ≤ 1000000000000 := l2
 unfold akO
 refine uC (decide (inR (len g.1) 1 4), ()) rfl ?_
 by_cases c1 : inR (len g.1) 1 4
 case neg =>
  refine uT (nT c1) ?_
  rw [zl (fun h : afN g => c1 ⟨by have := h.1.1; rw [aaB]; omega, by have := h.1.2; rw [aaB]; omega⟩)]; rfl
 refine uF (nF c1) (uC (decide (inR g.2.1 1 4), ()) rfl ?_)
 by_cases c2 : inR g.2.1 1 4
 case neg =>
  refine uT (nT c2) ?_
  rw [zl (fun h : afN g => c2 h.2.1)]; rfl
 refine uF (nF c2) (uO (0, ()) rfl ?_)
 have c1' : 1 ≤ g.1.length ∧ g.1.length ≤ 4 := by obtain ⟨a, b⟩ := c1; rw [aaB] at a b; omega
 refine (ab9 (n := g.1.length) (bad := (false, ())) (good := (decide (g.2.2.1.length ≤ 4096 ∧ (g.2.2.1.length : Int) = w64 (afQ g.1 * g.2.1) ∧ ∀ v ∈ g.2.2.1, inR v 0 65535), ())) (fun k => decide (inR (g.1.getD k 0) 2 9)) (fun k hk hp => ?_) (fun k hk hp => ?_) ?_).trans ?_
 ·simp only [agD, aaL]
  refine uT sd (uN sd (uC (decide (inR (g.1.getD k 0) 2 9), ()) rfl (uF (nF (of_decide_eq_true hp)) (uV (uB (uV (uV ?_)))))))
  rw [arG hk l1']; rfl
 ·simp only [agD, aaL]
  exact uT sd (uN sd (uC (decide (inR (g.1.getD k 0) 2 9), ()) rfl (uT (nT (of_decide_eq_false hp)) rfl)))
 ·simp only [agD, aaL]
  refine uF sd (uC _ (ayH l1) ?_)
  by_cases d2 : (g.2.2.1.length : Int) = w64 (afQ g.1 * g.2.1)
  case neg =>
   refine uT (yI.2 d2) ?_
   rw [zl (fun h : _ ∧ _ ∧ _ => d2 h.2.1)]; rfl
  refine uF (bne_eq_false_iff_eq.2 d2) ?_
  by_cases d1 : g.2.2.1.length ≤ 4096
  case neg =>
   refine uT (zn (by rw [aaB]; omega)) ?_
   rw [zl (fun h : _ ∧ _ ∧ _ => d1 h.1)]; rfl
  refine uF (zl (by rw [aaB]; omega)) (uO (0, ()) rfl ?_)
  refine (ab9 (n := g.2.2.1.length) (bad := .inr (false, ())) (good := .inr (true, ())) (fun k => decide (inR (g.2.2.1.getD k 0) 0 65535)) (fun k hk hp => ?_) (fun k hk hp => ?_) ?_).trans ?_
  ·simp only [aiU, aaL]
   refine uT sd (uN sd (uC (decide (inR (g.2.2.1.getD k 0) 0 65535), ()) rfl (uF (nF (of_decide_eq_true hp)) (uV (uB (uV (uV ?_)))))))
   rw [arG hk l2']; rfl
  ·simp only [aiU, aaL]
   exact uT sd (uN sd (uC (decide (inR (g.2.2.1.getD k 0) 0 65535), ()) rfl (uT (nT (of_decide_eq_false hp)) rfl)))
  ·exact uF sd rfl
  ·rw [aiA (ae9 g.2.2.1 0 (fun v => inR v 0 65535))]
   by_cases d3 : ∀ v ∈ g.2.2.1, inR v 0 65535
   ·rw [if_pos d3, zn (show _ ∧ _ ∧ _ from ⟨d1, d2, d3⟩)]
   ·rw [if_neg d3, zl (fun h : _ ∧ _ ∧ _ => d3 h.2.2)]
 ·rw [aiA (ae9 g.1 0 (fun v => inR v 2 9))]
  by_cases d : ∀ v ∈ g.1, inR v 2 9
  case neg => rw [if_neg d, zl (fun h : afN g => d h.2.2.1)]
  rw [if_pos d]
  by_cases e : g.2.2.1.length ≤ 4096 ∧ (g.2.2.1.length : Int) = w64 (afQ g.1 * g.2.1) ∧ ∀ v ∈ g.2.2.1, inR v 0 65535
  ·rw [zn e, zn (show afN g from ⟨c1', c2, d, e⟩)]
  ·rw [zl e, zl (fun h : afN g => e h.2.2.2)]
theorem aCz (n : Int) (y) (h : alT (n, ()) = some y) : (au0 n).toO = some y := by
 injection h with h
 subst h
 unfold au0
 by_cases c : n < -1000000000
 ·refine uT (zn c) ?_
  rw [zl (fun h : aaQ n => by have := h.1; omega)]; rfl
 ·refine uF (zl c) ?_
  have e : decide (n > 1000000000) = !decide (aaQ n) := by
   by_cases d : n > 1000000000
   ·rw [zn d, zl (fun h : aaQ n => by have := h.2; omega)]; rfl
   ·rw [zl d, zn (show aaQ n from ⟨by omega, by omega⟩)]; rfl
  rw [e]; rfl
theorem amQ (l : List CvT) (y) (h : acX (l, ()) = some y) : (afZ l).toO = some y := by
 unfold acX at h
 split at h
 case isFalse => cases h
 case isTrue hl =>
 injection h with h
 subst h
 dsimp only at hl ⊢
 have hl' : l.length ≤ 1000000000000 := hl
 unfold afZ
 by_cases c1 : l.length < 1
 ·refine uT (zn (by rw [aaB]; omega)) ?_
  rw [zl (fun h : ah9 l => by have := h.1.1; omega)]; rfl
 refine uF (zl (by rw [aaB]; omega)) ?_
 by_cases c2 : l.length > 4
 ·refine uT (zn (by rw [aaB]; omega)) ?_
  rw [zl (fun h : ah9 l => by have := h.1.2; omega)]; rfl
 refine uF (zl (by rw [aaB]; omega)) (uV (uV (uV (uV (uO (0, ()) rfl ?_)))))
 refine (ab9 (n := l.length) (bad := (false, ())) (good := (true, ())) (fun k => decide (acR (l.getD k (0, [], [], ())))) (fun k hk hp => ?_) (fun k hk hp => ?_) ?_).trans ?_
 ·simp only [ae7, aaL]
  refine uT sd (uN sd (uV (uV (uC (0, ()) (by have := ayJ (l.getD k (0, [], [], ())); rw [if_pos (of_decide_eq_true hp)] at this; exact this) (uF rfl (uV (uB (uV (uV ?_)))))))))
  rw [arG hk hl']; rfl
 ·simp only [ae7, aaL]
  refine uT sd (uN sd (uV (uV (uC (90, ()) (by have := ayJ (l.getD k (0, [], [], ())); rw [if_neg (of_decide_eq_false hp)] at this; exact this) (uT rfl ?_)))))
  rw [zn (show ((k : Int) ≥ 0) by omega)]; rfl
 ·exact uF sd rfl
 ·rw [aiA (ae9 l (0, [], [], ()) acR)]
  by_cases d : ∀ c ∈ l, acR c
  ·rw [if_pos d, zn (show ah9 l from ⟨⟨by omega, by omega⟩, d⟩)]
  ·rw [if_neg d, zl (fun h : ah9 l => d h.2)]
theorem arP (l : List CvT) (y) (h : acH (l, ()) = some y) : (aiP l).toO = some y := by
 unfold acH at h
 split at h
 case isFalse => cases h
 case isTrue hl =>
 obtain ⟨hl, hc⟩ := hl
 injection h with h
 subst h
 dsimp only at hl hc ⊢
 have hl' : l.length ≤ 1000000000000 := hl
 unfold aiP
 refine uO (0, ()) rfl ?_
 refine (ab9 (n := l.length) (bad := (false, ())) (good := (decide (1 ≤ l.length ∧ l.length ≤ 4), ())) (fun k => decide (acR (l.getD k (0, [], [], ())))) (fun k hk hp => ?_) (fun k hk hp => ?_) ?_).trans ?_
 ·simp only [afC, aaL]
  refine uT sd (uN sd (uC _ (atH (hc _ (aeT _ hk))) (uF (nF (of_decide_eq_true hp)) (uV (uB (uV (uV ?_)))))))
  rw [arG hk hl']; rfl
 ·simp only [afC, aaL]
  exact uT sd (uN sd (uC _ (atH (hc _ (aeT _ hk))) (uT (nT (of_decide_eq_false hp)) rfl)))
 ·simp only [afC, aaL]
  refine uF sd ?_
  by_cases c : 1 ≤ l.length
  ·refine uT (zn (by rw [aaB]; omega)) ?_
   have e : decide (len l ≤ 4) = decide (1 ≤ l.length ∧ l.length ≤ 4) := afA (by rw [zB, aaB]; omega)
   rw [e]; rfl
  ·refine uF (zl (by rw [aaB]; omega)) ?_
   rw [zl (fun h : _ ∧ _ => c h.1)]; rfl
 ·rw [aiA (ae9 l (0, [], [], ()) acR)]
  by_cases d : ∀ c ∈ l, acR c
  ·rw [if_pos d]
   have e : decide (1 ≤ l.length ∧ l.length ≤ 4) = decide (ah9 l) := afA (by rw [zB]; exact ⟨fun h => ⟨h, d⟩, fun h => h.1⟩)
   rw [e]
  ·rw [if_neg d, zl (fun h : ah9 l => d h.2)]
theorem at5 (l : List Int) (y) (h : aeM (l, ()) = some y) : (akJ l).toO = some y := by
 unfold aeM at h
 split at h
 case isFalse => cases h
 case isTrue hl =>
 injection h with h
 subst h
 dsimp only at hl ⊢
 have hl' : l.length ≤ 1000000000000 := hl
 unfold akJ
 refine uO (0, ()) rfl ((ab9 (n := l.length) (bad := (false, ())) (good := (true, ())) (fun k => decide (aaQ (l.getD k 0))) (fun k hk hp => ?_) (fun k hk hp => ?_) ?_).trans ?_)
 ·obtain ⟨a, b⟩ : aaQ (l.getD k 0) := of_decide_eq_true hp
  simp only [aiO, aaL]
  refine uT sd (uN sd (uF sd (uN sd (uF sd (uV (uB (uV (uV ?_))))))))
  rw [arG hk hl']; rfl
 ·have hp : ¬ aaQ (l.getD k 0) := of_decide_eq_false hp
  simp only [aiO, aaL]
  refine uT sd (uN sd ?_)
  by_cases a : l.getD k 0 < -1000000000
  ·exact uT (zn a) rfl
  ·exact uF (zl a) (uN sd (uT (zn (by unfold aaQ inR at hp; omega)) rfl))
 ·exact uF sd rfl
 ·rw [aiA (ae9 l 0 aaQ)]
  by_cases d : ∀ c ∈ l, aaQ c
  ·rw [if_pos d, zn d]
  ·rw [if_neg d, zl d]
theorem awA (g : GrT) (y) (h : ahE (g, ()) = some y) : (al8 g).toO = some y := by
 injection h with h
 subst h
 unfold al8
 by_cases c1 : g.1 = []
 case neg =>
  refine uF (beq_eq_false_iff_ne.2 (fun h => c1 ?_)) ?_
  ·rw [aaB] at h; exact yY.1 zc
  ·rw [zl (fun h : ar6 g => c1 h.1)]; rfl
 refine uT (zu.2 (by rw [aaB, c1]; rfl)) ?_
 by_cases c2 : g.2.1 = 0
 case neg =>
  refine uF (beq_eq_false_iff_ne.2 c2) ?_
  rw [zl (fun h : ar6 g => c2 h.2.1)]; rfl
 refine uT (zu.2 c2) ?_
 have e : (len g.2.2.1 == 0) = decide (ar6 g) := (afA (by
  rw [zu, aaB]
  exact ⟨fun h => by rw [h.2.2]; rfl, fun h => ⟨c1, c2, yY.1 zc⟩⟩)).symm
 rw [e]; rfl
theorem ak4 {l : List Int} (h : shL l) : aeM (l, ()) = some (decide (∀ n ∈ l, aaQ n), ()) := if_pos h
theorem ajX (n : Int) : alT (n, ()) = some (!decide (aaQ n), ()) := rfl
theorem amP (rows : List (List Int)) (off : List Int) (y) (h : acF (rows, off, ()) = some y) : (afY rows off).toO = some y := by
 unfold acF at h
 split at h
 case isFalse => cases h
 case isTrue hl =>
 obtain ⟨⟨l1, l2⟩, l3⟩ := hl
 injection h with h
 subst h
 dsimp only at l1 l2 l3 ⊢
 have l1' : rows.length ≤ 1000000000000 := l1
 have l3' : off.length ≤ 1000000000000 := l3
 unfold afY
 have g0 : gi rows 0 [] = rows.getD 0 [] := aaL rows 0 []
 by_cases c1 : rows.length < 1
 ·refine uT (zn (by rw [aaB]; omega)) ?_
  rw [zl (fun h : adV rows off => by have := h.1.1; omega)]; rfl
 refine uF (zl (by rw [aaB]; omega)) ?_
 by_cases c2 : rows.length > 4
 ·refine uT (zn (by rw [aaB]; omega)) ?_
  rw [zl (fun h : adV rows off => by have := h.1.2; omega)]; rfl
 refine uF (zl (by rw [aaB]; omega)) ?_
 by_cases c3 : off.length = rows.length
 case neg =>
  refine uT (yI.2 (by rw [aaB, aaB]; omega)) ?_
  rw [zl (fun h : adV rows off => c3 h.2.1)]; rfl
 refine uF (bne_eq_false_iff_eq.2 (by rw [aaB, aaB]; omega)) (uN ⟨xp _, by rw [aaB]; omega⟩ ?_)
 by_cases c4 : (rows.getD 0 []).length < 1
 ·refine uT (zn (by rw [g0, aaB]; omega)) ?_
  rw [zl (fun h : adV rows off => by have := h.2.2.1.1; omega)]; rfl
 refine uF (zl (by rw [g0, aaB]; omega)) ?_
 by_cases c5 : (rows.getD 0 []).length > 4
 ·refine uT (zn (by rw [g0, aaB]; omega)) ?_
  rw [zl (fun h : adV rows off => by have := h.2.2.1.2; omega)]; rfl
 refine uF (zl (by rw [g0, aaB]; omega)) (uO (0, ()) rfl ?_)
 refine (ab9 (n := rows.length) (bad := (false, ())) (good := (decide (∀ n ∈ off, aaQ n), ())) (fun k => decide ((rows.getD k []).length = (rows.getD 0 []).length ∧ ∀ n ∈ rows.getD k [], aaQ n)) (fun k hk hp => ?_) (fun k hk hp => ?_) ?_).trans ?_
 ·obtain ⟨p1, p2⟩ : _ ∧ _ := of_decide_eq_true hp
  have lk : (rows.getD k []).length ≤ 1000000000000 := l2 _ (aeT _ hk)
  simp only [adA, aaL, g0]
  refine uT sd (uN sd (uF (bne_eq_false_iff_eq.2 (by rw [aaB, aaB]; omega)) (uV (uV (uV (uV (uO (0, ()) rfl ?_)))))))
  refine (ab9 (n := (rows.getD k []).length) (bad := .inr (false, ())) (good := .inl (((k + 1 : Nat) : Int), ())) (fun j => decide (aaQ ((rows.getD k []).getD j 0))) (fun j hj hq => ?_) (fun j hj hq => ?_) ?_).trans ?_
  ·simp only [abI, aaL]
   refine uT sd (uN sd (uC _ (ajX _) (uF (nF (of_decide_eq_true hq)) (uV (uB (uV (uV ?_)))))))
   rw [arG hj lk]; rfl
  ·simp only [abI, aaL]
   exact uT sd (uN sd (uC _ (ajX _) (uT (nT (of_decide_eq_false hq)) (uT sd rfl))))
  ·simp only [abI, aaL]
   refine uF sd (uV (uB (uV (uV ?_))))
   rw [arG hk l1']; rfl
  ·rw [aiA (ae9 (rows.getD k []) 0 aaQ), if_pos p2]
 ·have hp := of_decide_eq_false hp
  have lk : (rows.getD k []).length ≤ 1000000000000 := l2 _ (aeT _ hk)
  simp only [adA, aaL, g0]
  by_cases p1 : (rows.getD k []).length = (rows.getD 0 []).length
  case neg => exact uT sd (uN sd (uT (yI.2 (by rw [aaB, aaB]; omega)) rfl))
  refine uT sd (uN sd (uF (bne_eq_false_iff_eq.2 (by rw [aaB, aaB]; omega)) (uV (uV (uV (uV (uO (0, ()) rfl ?_)))))))
  refine (ab9 (n := (rows.getD k []).length) (bad := .inr (false, ())) (good := .inl (((k + 1 : Nat) : Int), ())) (fun j => decide (aaQ ((rows.getD k []).getD j 0))) (fun j hj hq => ?_) (fun j hj hq => ?_) ?_).trans ?_
  ·simp only [abI, aaL]
   refine uT sd (uN sd (uC _ (ajX _) (uF (nF (of_decide_eq_true hq)) (uV (uB (uV (uV ?_)))))))
   rw [arG hj lk]; rfl
  ·simp only [abI, aaL]
   exact uT sd (uN sd (uC _ (ajX _) (uT (nT (of_decide_eq_false hq)) (uT sd rfl))))
  ·simp only [abI, aaL]
   refine uF sd (uV (uB (uV (uV ?_))))
   rw [arG hk l1']; rfl
  ·rw [aiA (ae9 (rows.getD k []) 0 aaQ), if_neg (fun h => hp ⟨p1, h⟩)]
 ·simp only [adA, aaL, g0]
  refine uF sd (uV (uV (uV (uV (uO (0, ()) rfl ?_)))))
  refine (ab9 (n := off.length) (bad := .inr (false, ())) (good := .inr (true, ())) (fun j => decide (aaQ (off.getD j 0))) (fun j hj hq => ?_) (fun j hj hq => ?_) ?_).trans ?_
  ·simp only [ae6, aaL]
   refine uT sd (uN sd (uC _ (ajX _) (uF (nF (of_decide_eq_true hq)) (uV (uB (uV (uV ?_)))))))
   rw [arG hj l3']; rfl
  ·simp only [ae6, aaL]
   refine uT sd (uN sd (uC _ (ajX _) (uT (nT (of_decide_eq_false hq)) ?_)))
   rw [zn (show ((j : Int) ≥ 0) by omega)]; rfl
  ·exact uF sd rfl
  ·rw [aiA (ae9 off 0 aaQ)]
   by_cases d : ∀ n ∈ off, aaQ n
   ·rw [if_pos d, zn d]
   ·rw [if_neg d, zl d]
 ·rw [aiA (ae9 rows [] (fun r => r.length = (rows.getD 0 []).length ∧ ∀ n ∈ r, aaQ n))]
  by_cases d : ∀ r ∈ rows, r.length = (rows.getD 0 []).length ∧ ∀ n ∈ r, aaQ n
  case neg => rw [if_neg d, zl (fun h : adV rows off => d h.2.2.2.1)]
  rw [if_pos d]
  have e : decide (∀ n ∈ off, aaQ n) = decide (adV rows off) := afA (by rw [zB]; exact ⟨fun h => ⟨⟨by omega, by omega⟩, c3, ⟨by omega, by omega⟩, d, h⟩, fun h => h.2.2.2.2⟩)
  rw [e]
theorem av8 (x : ElT) (y) (h : aeN (x, ()) = some y) : (al7 x).toO = some y := by
 unfold aeN at h
 split at h
 case isFalse => cases h
 case isTrue hl =>
 obtain ⟨-, ⟨l1, l2⟩, l3, -⟩ := hl
 injection h with h
 subst h
 dsimp only at l1 l2 l3 ⊢
 have l1' : x.2.2.1.length ≤ 1000000000000 := l1
 obtain ⟨kind, cs, rows, off, gr, pg, ci, co, u⟩ := x
 dsimp only at l1 l2 l3 l1' ⊢
 unfold al7
 dsimp only
 have g0 : gi rows 0 [] = rows.getD 0 [] := aaL rows 0 []
 by_cases c1 : rows.length < 1
 ·refine uT (zn (by rw [aaB]; omega)) ?_
  rw [zl (fun h : adV rows off => by have := h.1.1; omega)]; rfl
 refine uF (zl (by rw [aaB]; omega)) ?_
 by_cases c2 : rows.length > 4
 ·refine uT (zn (by rw [aaB]; omega)) ?_
  rw [zl (fun h : adV rows off => by have := h.1.2; omega)]; rfl
 refine uF (zl (by rw [aaB]; omega)) ?_
 by_cases c3 : off.length = rows.length
 case neg =>
  refine uT (yI.2 (by rw [aaB, aaB]; omega)) ?_
  rw [zl (fun h : adV rows off => c3 h.2.1)]; rfl
 refine uF (bne_eq_false_iff_eq.2 (by rw [aaB, aaB]; omega)) (uC _ (ak4 l3) ?_)
 by_cases c6 : ∀ n ∈ off, aaQ n
 case neg =>
  refine uT (nT c6) ?_
  rw [zl (fun h : adV rows off => c6 h.2.2.2.2)]; rfl
 refine uF (nF c6) (uN ⟨xp _, by rw [aaB]; omega⟩ (uO (0, ()) rfl ?_))
 refine (ab9 (n := rows.length) (bad := (false, ())) (good := (decide (1 ≤ (rows.getD 0 []).length ∧ (rows.getD 0 []).length ≤ 4), ())) (fun k => decide ((rows.getD k []).length = (rows.getD 0 []).length ∧ ∀ n ∈ rows.getD k [], aaQ n)) (fun k hk hp => ?_) (fun k hk hp => ?_) ?_).trans ?_
 ·obtain ⟨p1, p2⟩ : _ ∧ _ := of_decide_eq_true hp
  simp only [ahM, aaL, g0]
  refine uT sd (uN sd (uF (bne_eq_false_iff_eq.2 (by rw [aaB, aaB]; omega)) (uN sd (uC _ (ak4 (l2 _ (aeT _ hk))) (uF (nF p2) (uV (uB (uV (uV ?_)))))))))
  rw [arG hk l1']; rfl
 ·have hp := of_decide_eq_false hp
  simp only [ahM, aaL, g0]
  by_cases p1 : (rows.getD k []).length = (rows.getD 0 []).length
  case neg => exact uT sd (uN sd (uT (yI.2 (by rw [aaB, aaB]; omega)) rfl))
  exact uT sd (uN sd (uF (bne_eq_false_iff_eq.2 (by rw [aaB, aaB]; omega)) (uN sd (uC _ (ak4 (l2 _ (aeT _ hk))) (uT (nT (fun h => hp ⟨p1, h⟩)) rfl)))))
 ·simp only [ahM, aaL, g0]
  refine uF sd ?_
  by_cases c : 1 ≤ (rows.getD 0 []).length
  ·refine uT (zn (by rw [aaB]; omega)) ?_
   have e : decide (len (rows.getD 0 []) ≤ 4) = decide (1 ≤ (rows.getD 0 []).length ∧ (rows.getD 0 []).length ≤ 4) := afA (by rw [zB, aaB]; omega)
   rw [e]; rfl
  ·refine uF (zl (by rw [aaB]; omega)) ?_
   rw [zl (fun h : _ ∧ _ => c h.1)]; rfl
 ·rw [aiA (ae9 rows [] (fun r => r.length = (rows.getD 0 []).length ∧ ∀ n ∈ r, aaQ n))]
  by_cases d : ∀ r ∈ rows, r.length = (rows.getD 0 []).length ∧ ∀ n ∈ r, aaQ n
  case neg => rw [if_neg d, zl (fun h : adV rows off => d h.2.2.2.1)]
  rw [if_pos d]
  have e : decide (1 ≤ (rows.getD 0 []).length ∧ (rows.getD 0 []).length ≤ 4) = decide (adV rows off) := afA (by rw [zB]; exact ⟨fun h => ⟨⟨by omega, by omega⟩, c3, h, d, c6⟩, fun h => h.2.2.1⟩)
  rw [e]
theorem aKY {α : Type} {l : List α} : (len l == 0) = true ↔ l = [] := by rw [zu, aaB]; exact ⟨fun h => yY.1 zc, fun h => by rw [h]; rfl⟩
theorem alF {α : Type} {l : List α} : len l = 0 ↔ l = [] := by rw [aaB]; exact ⟨fun h => yY.1 zc, fun h => by rw [h]; rfl⟩
theorem arA {l : List CvT} (h : shL l) : acX (l, ()) = some (decide (ah9 l), ()) := if_pos h
theorem aq9 {r : List (List Int)} {o : List Int} (h : (shL r ∧ ∀ x ∈ r, shL x) ∧ shL o) : acF (r, o, ()) = some (decide (adV r o), ()) := if_pos h
theorem aFN {g : GrT} (h : shG g) : ahG ((g.1, g.2.1, g.2.2.1, ()), ()) = some (if afN g then 0 else 100, ()) := if_pos h
theorem aCZ {p : List OpT} (i o : Int) (h : shL p) : afJ (p, i, o, ()) = some (if (ad7 p i o).isSome then 0 else 120, ()) := if_pos h
theorem axS (x : ElT) (y) (h : afK (x, ()) = some y) : (amR x).toO = some y := by
 unfold afK at h
 split at h
 case isFalse => cases h
 case isTrue hl =>
 obtain ⟨⟨a1, -⟩, a2, a3, a4, a5⟩ := hl
 injection h with h
 subst h
 dsimp only at a1 a2 a3 a4 a5 ⊢
 unfold amR ahX ahY ahZ ah0
 simp only [arA a1, aq9 ⟨a2, a3⟩, aFN a4, aCZ _ _ a5, adT, abQ, zu, alF, ite_self]
 have k1 : x.1 = 1 ∨ x.1 = 2 ∨ x.1 = 3 ∨ x.1 = 4 ∨ (x.1 ≠ 1 ∧ x.1 ≠ 2 ∧ x.1 ≠ 3 ∧ x.1 ≠ 4) := zc
 unfold ab0 aGZ ar6 aGY
 rcases k1 with k | k | k | k | ⟨e1, e2, e3, e4⟩
 ·simp only [k, show ¬ (1 : Int) = 2 by decide, show ¬ (1 : Int) = 3 by decide, show ¬ (1 : Int) = 4 by decide, if_true, if_false, ite_self, true_and, false_and, or_false, false_or]
  repeat' split
  all_goals first
   | (simp_all; done)
   | (refine uC _ rfl ?_; simp_all [adT, abQ])
 ·simp only [k, show ¬ (2 : Int) = 1 by decide, show ¬ (2 : Int) = 3 by decide, show ¬ (2 : Int) = 4 by decide, if_true, if_false, ite_self, true_and, false_and, or_false, false_or]
  repeat' split
  all_goals first
   | (simp_all; done)
   | (refine uC _ rfl ?_; simp_all [adT, abQ])
 ·simp only [k, show ¬ (3 : Int) = 1 by decide, show ¬ (3 : Int) = 2 by decide, show ¬ (3 : Int) = 4 by decide, if_true, if_false, ite_self, true_and, false_and, or_false, false_or]
  repeat' split
  all_goals first
   | (simp_all; done)
   | (refine uC _ rfl ?_; simp_all [adT, abQ])
 ·simp only [k, show ¬ (4 : Int) = 1 by decide, show ¬ (4 : Int) = 2 by decide, show ¬ (4 : Int) = 3 by decide, if_true, if_false, ite_self, true_and, false_and, or_false, false_or]
  repeat' split
  all_goals first
   | (simp_all; done)
   | (refine uC _ rfl ?_; simp_all [adT, abQ])
 ·simp only [e1, e2, e3, e4, if_false, ite_self, false_and, or_false]
set_option maxRecDepth 100000
open Go Go.Vg Go.Proofs
noncomputable section
abbrev DTl (d : Int × List Int × List (Int × Int × Int × Int × Int × Int × Unit) × Bool × Bool × Unit) : Prop := Qq true ∧ (Qq (102 : TypeId) ∧ Qq (0 : Int) ∧ True ∧ True ∧ True) ∧ Qq true ∧ (Qq (73 : TypeId) ∧ Qq d.1 ∧ Qq d.2.1 ∧ Qq d.2.2.1 ∧ Qq d.2.2.2.1 ∧ Qq d.2.2.2.2.1 ∧ True) ∧ Qq true ∧ True
abbrev gP (d : Int × List Int × List (Int × Int × Int × Int × Int × Int × Unit) × Bool × Bool × Unit) (i : Int) := gi d.2.2.1 i (0, 0, 0, 0, 0, 0, ())
def ay7 : LTab := [(78, 7, 4100, ⟨0, Bool × (List Int) × Unit, .appN (.c 3 1) 4 3 xW <| .nil, [3, 2, 1], [3, 1, 0], 1⟩), (78, 58, 5124, ⟨1, (Int) × Bool × (List Int) × Unit, .dat (.s 4) xW <| .appN (.c 3 1) 5 3 xW <| .nil, [3, 2, 1], [3, 1, 0], 1⟩), (78, 60, 5124, ⟨2, Bool × (List Int) × Unit, .appN (.c 3 1) 5 3 xW <| .nil, [3, 2, 1], [3, 1, 0], 1⟩), (78, 4014, 19459, ⟨3, (Int) × (Int) × (List Int) × Unit, .dat (.s 7) xW <| .dat (.s 6) xW <| .row 5 xW <| .nil, [5, 3, 2], [5, 3, 1, 0], 0⟩), (78, 60, 5123, ⟨4, (List Int) × Unit, .app (.c 3 1) 5 3 xW <| .nil, [3, 2, 1], [3, 1, 0], 1⟩)]
def afO (i : (Int) × Bool × (List Int) × Unit) (d : Int × List Int × List xV × Bool × Bool × Unit) : TT (wm ⊕ wu) :=
 .tt <| .lt (i.2.2.1 : List Int) fun z4 => .xC wr <| .xC (xB (xR 3 z4) <| (xO 102 (2 : Int) <| (xT 4 0 (List.length z4) true) ∧ True ∧ True) ∧ DTl d) <| .ok (.inr (.inl ((false, z4, ()))))
def aiN (d : Int × List Int × List xV × Bool × Bool × Unit) (i : (Int) × Bool × (List Int) × Unit) : TT (wm ⊕ wu) :=
 .ite (i.2.1)
 (.ite (decide (i.1 < len d.2.1))
  (.ite (decide (i.1 < 8))
   (.need (inb i.1 (len d.2.1)) <| .need (1 * 8 ≤ 140737488355328) <| .tt <| .lt (w64 (i.1 + 1) : Int) fun z => .lt ([w64 (gi d.2.1 i.1 0)] : List Int) fun z1 => .xC (xK z <| wk ∧ wd ∧ xZ ∧ True) <| .xC (xB (xR 3 z1) <| wK ∧ DTl d) <| .ok (.inl ((z, false, z1, ()))))
   (.tt <| .xC wr <| .xC (wv ∧ DTl d) <| .ok (.inr (.inl ((true, [], ()))))))
  (.tt <| .xC wr <| .xC (wv ∧ DTl d) <| .ok (.inr (.inl ((true, [], ()))))))
 (.ite (decide (i.1 < len d.2.1))
  (.ite (decide (i.1 < 8))
   (.need (inb i.1 (len d.2.1)) <| .need ((List.length i.2.2.1 + 1) * 8 ≤ 140737488355328) <| .tt <| .lt (w64 (i.1 + 1) : Int) fun z2 => .lt (List.take (List.length i.2.2.1) i.2.2.1 ++ [w64 (gi d.2.1 i.1 0)] : List Int) fun z3 => .xC (xK z2 <| wk ∧ wd ∧ xZ ∧ True) <| .need ((((3 : TypeId) = 3) ∧ ((z3 : List Int) = z3)) ∧ (true = true) ∧ (((102 : TypeId) = 102) ∧ (((2 : Int) = 2) ∧ ((((5) = (5)) ∧ (((0) = (0)) ∧ ((List.length i.2.2.1 + 1 = List.length z3) ∧ ((true) = (true))))) ∧ wl))) ∧ (true = true) ∧ (((102 : TypeId) = 102) ∧ (((0 : Int) = 0) ∧ wB)) ∧ (true = true) ∧ (((73 : TypeId) = 73) ∧ (((d.1 : Int) = d.1) ∧ (((d.2.1 : List Int) = d.2.1) ∧ (((d.2.2.1 : List xV) = d.2.2.1) ∧ (((d.2.2.2.1) = (d.2.2.2.1)) ∧ (((d.2.2.2.2.1) = (d.2.2.2.2.1)) ∧ True)))))) ∧ (true = true) ∧ True) <| .ok (.inl ((z2, false, z3, ()))))
   (afO i d))
  (afO i d))
def agB (d : Int × List Int × List xV × Bool × Bool × Unit) (j : Bool × List Int × Unit) (i1 : Bool × List Int × Unit) (i2 : (Int) × (Int) × (List Int) × Unit) : TT (wD ⊕ wu) :=
 .ite (decide (i2.1 < len i1.2.1))
 (.need (inb i2.1 (len i1.2.1)) <| .need (w64 (Int.tdiv 65535 (len i1.2.1)) ≠ 0) <| .need (inb i2.1 (len i1.2.1)) <| .tt <| .lt (w64 (i2.1 + 1) : Int) fun z9 => .lt (w64 (w64 (i2.2.1 + 1) + Int.tmod (List.getD i2.2.2.1 (0 + Int.toNat i2.1) 0) (w64 (Int.tdiv 65535 (len i1.2.1)))) : Int) fun z10 => .lt (List.set i2.2.2.1 (0 + Int.toNat i2.1) (w64 (z10 - 1)) : List Int) fun z11 => .xC (xH z10 z9 (w64 (Int.tdiv 65535 (len i1.2.1))) <| wk ∧ wd ∧ True) <| .xC (xB (xR 3 z11) <| (xO 102 (2 : Int) <| (xT 5 0 (List.length i1.2.1) true) ∧ True ∧ True) ∧ DTl d) <| .ok (.inl ((z9, z10, z11, ()))))
 (.ok (.inr (.inr (((2, List.take (List.length i1.2.1) i2.2.2.1, [], ()), ())))))
def aiM (d : Int × List Int × List xV × Bool × Bool × Unit) (j : Bool × List Int × Unit) (i1 : Bool × (List Int) × Unit) : TT wu :=
 .ite (i1.1)
 (.triv (1 * 8 ≤ 140737488355328) zd <| .tt <| .lt ([w64 (65535 * (↑0 : Int))] : List Int) fun z6 => .xC wr <| .xC (xB (xR 3 z6) <| wK ∧ DTl d) <| .ok (.inl ((false, z6, ()))))
 (.ite (decide (len i1.2.1 < 2))
 (.need ((List.length i1.2.1 + 1) * 8 ≤ 140737488355328) <| .tt <| .lt (List.take (List.length i1.2.1) i1.2.1 ++ [w64 (65535 * len i1.2.1)] : List Int) fun z7 => .xC wr <| .need ((((3 : TypeId) = 3) ∧ ((z7 : List Int) = z7)) ∧ (true = true) ∧ (((102 : TypeId) = 102) ∧ (((2 : Int) = 2) ∧ ((((5) = (5)) ∧ (((0) = (0)) ∧ ((List.length i1.2.1 + 1 = List.length z7) ∧ ((true) = (true))))) ∧ wl))) ∧ (true = true) ∧ (((102 : TypeId) = 102) ∧ (((0 : Int) = 0) ∧ (True ∧ wl))) ∧ (true = true) ∧ (((73 : TypeId) = 73) ∧ (((d.1 : Int) = d.1) ∧ (((d.2.1 : List Int) = d.2.1) ∧ (((d.2.2.1 : List xV) = d.2.2.1) ∧ (((d.2.2.2.1) = (d.2.2.2.1)) ∧ (((d.2.2.2.2.1) = (d.2.2.2.2.1)) ∧ True)))))) ∧ (true = true) ∧ True) <| .ok (.inl ((false, z7, ()))))
 (.ite (d.2.2.2.2.1)
 (.need (len i1.2.1 ≠ 0) <| .loop 3 (.tt <| .lt (i1.2.1 : List Int) fun z8 => .xC (xH (0 : Int) (0 : Int) (w64 (Int.tdiv 65535 (len z8))) <| wk ∧ wd ∧ True) <| .xC (xB (xR 3 z8) <| (xO 102 (2 : Int) <| (xT 5 0 (List.length z8) true) ∧ True ∧ True) ∧ DTl d) <| .ok ((0, 0, z8, ()))) (agB d j i1))
 (.ok (.inr (((2, List.take (List.length i1.2.1) i1.2.1, [], ()), ()))))))
def agA (d : Int × List Int × List xV × Bool × Bool × Unit) (j : Bool × List Int × Unit) (i3 : List Int × Unit) (i4 : (Int) × (Int) × (List Int) × Unit) : TT (wD ⊕ (((List Int) × Unit) ⊕ wE)) :=
 .ite (decide (i4.1 < len i3.1))
 (.need (inb i4.1 (len i3.1)) <| .need (w64 (Int.tdiv 65535 (len i3.1)) ≠ 0) <| .need (inb i4.1 (len i3.1)) <| .tt <| .lt (w64 (i4.1 + 1) : Int) fun z14 => .lt (w64 (w64 (i4.2.1 + 1) + Int.tmod (List.getD i4.2.2.1 (0 + Int.toNat i4.1) 0) (w64 (Int.tdiv 65535 (len i3.1)))) : Int) fun z15 => .lt (List.set i4.2.2.1 (0 + Int.toNat i4.1) (w64 (z15 - 1)) : List Int) fun z16 => .xC (xH z15 z14 (w64 (Int.tdiv 65535 (len i3.1))) <| wk ∧ wd ∧ True) <| .xC (xB (xR 3 z16) <| (xO 102 (2 : Int) <| (xT 5 0 (List.length i3.1) true) ∧ True ∧ True) ∧ DTl d) <| .ok (.inl ((z14, z15, z16, ()))))
 (.ok (.inr (.inr (((2, List.take (List.length i3.1) i4.2.2.1, [], ()), ())))))
def aiL (d : Int × List Int × List xV × Bool × Bool × Unit) (j : Bool × List Int × Unit) (i3 : (List Int) × Unit) : TT (((List Int) × Unit) ⊕ wE) :=
 .ite (decide (len i3.1 < 2))
 (.need ((List.length i3.1 + 1) * 8 ≤ 140737488355328) <| .tt <| .lt (List.take (List.length i3.1) i3.1 ++ [w64 (65535 * len i3.1)] : List Int) fun z13 => .xC wr <| .need ((((3 : TypeId) = 3) ∧ ((z13 : List Int) = z13)) ∧ (true = true) ∧ (((102 : TypeId) = 102) ∧ (((2 : Int) = 2) ∧ ((((5) = (5)) ∧ (((0) = (0)) ∧ ((List.length i3.1 + 1 = List.length z13) ∧ ((true) = (true))))) ∧ wl))) ∧ (true = true) ∧ (((102 : TypeId) = 102) ∧ (((0 : Int) = 0) ∧ (True ∧ wl))) ∧ (true = true) ∧ (((73 : TypeId) = 73) ∧ (((d.1 : Int) = d.1) ∧ (((d.2.1 : List Int) = d.2.1) ∧ (((d.2.2.1 : List xV) = d.2.2.1) ∧ (((d.2.2.2.1) = (d.2.2.2.1)) ∧ (((d.2.2.2.2.1) = (d.2.2.2.2.1)) ∧ True)))))) ∧ (true = true) ∧ True) <| .ok (.inl ((z13, ()))))
 (.ite (d.2.2.2.2.1)
 (.need (len i3.1 ≠ 0) <| .loop 3 (.tt <| .xC (xH (0 : Int) (0 : Int) (w64 (Int.tdiv 65535 (len i3.1))) <| wk ∧ wd ∧ True) <| .xC (xB (xR 3 i3.1) <| (xO 102 (2 : Int) <| (xT 5 0 (List.length i3.1) true) ∧ True ∧ True) ∧ DTl d) <| .ok ((0, 0, i3.1, ()))) (agA d j i3))
 (.ok (.inr (((2, List.take (List.length i3.1) i3.1, [], ()), ())))))
def agC (d : Int × List Int × List xV × Bool × Bool × Unit) (j : Bool × (List Int) × Unit) : TT wE :=
 .ite (j.1)
 (.loop 2 (.tt <| .xC wr <| .xC (wv ∧ DTl d) <| .ok ((true, [], ()))) (aiM d j))
 (.loop 4 (.tt <| .lt (j.2.1 : List Int) fun z12 => .xC wr <| .xC (xB (xR 3 z12) <| (xO 102 (2 : Int) <| (xT 5 0 (List.length z12) true) ∧ True ∧ True) ∧ DTl d) <| .ok ((z12, ()))) (aiL d j))
def ahK (d : Int × List Int × List xV × Bool × Bool × Unit) : TT wE :=
 .join 0 (ι := Bool × (List Int) × Unit) (.loop 1 (.tt <| .xC (xK (0 : Int) <| wk ∧ wd ∧ xZ ∧ True) <| .xC (wv ∧ DTl d) <| .ok ((0, true, [], ()))) (aiN d)) (agC d)
def at2 : LTab := [(77, 250, 11268, ⟨0, (Int) × (Int) × Bool × (List xV) × Unit, .dat (.s 6) xW <| .dat (.s 5) xW <| .appN (.c 3 2) 11 154 (Ty.pair xW (Ty.pair xW (Ty.pair xW (Ty.pair xW wi)))) <| .nil, [4, 3, 2, 1], [3, 1, 0], 1⟩)]
def ad9 (d : Int × List Int × List xV × Bool × Bool × Unit) : TT wL :=
 .ite (d.2.2.2.2.1)
 (.triv (asT Int 0 ≤ 1 ∧ 1 ≤ (↑1 : Int)) zd <| .triv (inb (w64 (1 - 1)) (↑1 : Int)) zd <| .ok (.inr (((3, [], List.take 1 (List.set [(0, 1000000, 0, 1, 1, 0, ())] (0 + Int.toNat (w64 (1 - 1))) (1000000, (List.getD ([(0, 1000000, 0, 1, 1, 0, ())]) (0 + Int.toNat (w64 (1 - 1))) (0, 0, 0, 0, 0, 0, ())).2)), ()), ()))))
 (.triv (inb (w64 (1 - 1)) (↑1 : Int)) zd <| .ok (.inr (((3, [], List.take 1 (List.set [(0, 1000000, 0, 1, 1, 0, ())] (0 + Int.toNat (w64 (1 - 1))) (1000000, (List.getD ([(0, 1000000, 0, 1, 1, 0, ())]) (0 + Int.toNat (w64 (1 - 1))) (0, 0, 0, 0, 0, 0, ())).2)), ()), ()))))
def agQ (d : Int × List Int × List xV × Bool × Bool × Unit) (i : (Int) × (Int) × Bool × (List xV) × Unit) : TT wL :=
 .ite (i.2.2.1)
 (.ite (decide (i.1 < if 3 < len d.2.2.1 then 3 else len d.2.2.1))
  (.need (inb i.1 (len d.2.2.1)) <| .triv (asT Int 4 ≠ 0) zd <| .ite (d.2.2.2.1)
   (.triv (asT Int 4 ≠ 0) zd <| .ite (d.2.2.2.2.1)
    (.call (aa5 (w64 (1 + w64 (Int.tmod (gP d i.1).2.2.2.2.1 4)), w64 (1 + w64 (Int.tmod (gP d i.1).2.2.2.2.2.1 4)), ())) Dd1 fun y =>
     .ite (y.1)
     (.need (1 * 48 ≤ 140737488355328) <| .tt <| .lt (w64 (i.1 + 1) : Int) fun z1 => .lt (w64 (w64 (i.2.1 + 1000) + w64 (1000 * w64 (gP d i.1).1)) : Int) fun z2 => .lt ([(z2, if w64 (0 - w64 (100 * w64 (gP d i.1).2.1)) > w64 (100 * w64 (gP d i.1).2.1) then w64 (0 - w64 (100 * w64 (gP d i.1).2.1)) else w64 (100 * w64 (gP d i.1).2.1), if w64 (0 - w64 (10 * w64 (gP d i.1).2.2.1)) > w64 (10 * w64 (gP d i.1).2.2.1) then w64 (0 - w64 (10 * w64 (gP d i.1).2.2.1)) else w64 (10 * w64 (gP d i.1).2.2.1), 1, w64 (1 + w64 (Int.tmod (gP d i.1).2.2.2.2.2.1 4)), w64 (10 * w64 (gP d i.1).2.2.2.1), ())] : List xV) fun z3 => .xC (xH z2 z1 (if 3 < len d.2.2.1 then 3 else len d.2.2.1 : Int) <| wk ∧ wd ∧ xZ ∧ True) <| .xC (xB (xR 154 z3) <| wj ∧ DTl d) <| .ok (.inl ((z1, z2, false, z3, ()))))
     (.need (1 * 48 ≤ 140737488355328) <| .tt <| .lt (w64 (i.1 + 1) : Int) fun z4 => .lt (w64 (w64 (i.2.1 + 1000) + w64 (1000 * w64 (gP d i.1).1)) : Int) fun z5 => .lt ([(z5, if w64 (0 - w64 (100 * w64 (gP d i.1).2.1)) > w64 (100 * w64 (gP d i.1).2.1) then w64 (0 - w64 (100 * w64 (gP d i.1).2.1)) else w64 (100 * w64 (gP d i.1).2.1), if w64 (0 - w64 (10 * w64 (gP d i.1).2.2.1)) > w64 (10 * w64 (gP d i.1).2.2.1) then w64 (0 - w64 (10 * w64 (gP d i.1).2.2.1)) else w64 (10 * w64 (gP d i.1).2.2.1), w64 (1 + w64 (Int.tmod (gP d i.1).2.2.2.2.1 4)), w64 (1 + w64 (Int.tmod (gP d i.1).2.2.2.2.2.1 4)), w64 (10 * w64 (gP d i.1).2.2.2.1), ())] : List xV) fun z6 => .xC (xH z5 z4 (if 3 < len d.2.2.1 then 3 else len d.2.2.1 : Int) <| wk ∧ wd ∧ xZ ∧ True) <| .xC (xB (xR 154 z6) <| wj ∧ DTl d) <| .ok (.inl ((z4, z5, false, z6, ())))))
    (.call (aa5 (w64 (1 + w64 (Int.tmod (gP d i.1).2.2.2.2.1 4)), w64 (1 + w64 (Int.tmod (gP d i.1).2.2.2.2.2.1 4)), ())) Dd1 fun y1 =>
     .ite (y1.1)
     (.need (1 * 48 ≤ 140737488355328) <| .tt <| .lt (w64 (i.1 + 1) : Int) fun z7 => .lt (w64 (w64 (i.2.1 + 1000) + w64 (1000 * w64 (gP d i.1).1)) : Int) fun z8 => .lt ([(z8, w64 (100 * w64 (gP d i.1).2.1), w64 (10 * w64 (gP d i.1).2.2.1), 1, w64 (1 + w64 (Int.tmod (gP d i.1).2.2.2.2.2.1 4)), w64 (10 * w64 (gP d i.1).2.2.2.1), ())] : List xV) fun z9 => .xC (xH z8 z7 (if 3 < len d.2.2.1 then 3 else len d.2.2.1 : Int) <| wk ∧ wd ∧ xZ ∧ True) <| .xC (xB (xR 154 z9) <| wj ∧ DTl d) <| .ok (.inl ((z7, z8, false, z9, ()))))
     (.need (1 * 48 ≤ 140737488355328) <| .tt <| .lt (w64 (i.1 + 1) : Int) fun z10 => .lt (w64 (w64 (i.2.1 + 1000) + w64 (1000 * w64 (gP d i.1).1)) : Int) fun z11 => .lt ([(z11, w64 (100 * w64 (gP d i.1).2.1), w64 (10 * w64 (gP d i.1).2.2.1), w64 (1 + w64 (Int.tmod (gP d i.1).2.2.2.2.1 4)), w64 (1 + w64 (Int.tmod (gP d i.1).2.2.2.2.2.1 4)), w64 (10 * w64 (gP d i.1).2.2.2.1), ())] : List xV) fun z12 => .xC (xH z11 z10 (if 3 < len d.2.2.1 then 3 else len d.2.2.1 : Int) <| wk ∧ wd ∧ xZ ∧ True) <| .xC (xB (xR 154 z12) <| wj ∧ DTl d) <| .ok (.inl ((z10, z11, false, z12, ()))))))
   (.ite (d.2.2.2.2.1)
    (.call (aa5 (w64 (1 + w64 (Int.tmod (gP d i.1).2.2.2.2.1 4)), 1, ())) Dd1 fun y2 =>
     .ite (y2.1)
     (.need (1 * 48 ≤ 140737488355328) <| .tt <| .lt (w64 (i.1 + 1) : Int) fun z13 => .lt (w64 (w64 (i.2.1 + 1000) + w64 (1000 * w64 (gP d i.1).1)) : Int) fun z14 => .lt ([(z14, if w64 (0 - w64 (100 * w64 (gP d i.1).2.1)) > w64 (100 * w64 (gP d i.1).2.1) then w64 (0 - w64 (100 * w64 (gP d i.1).2.1)) else w64 (100 * w64 (gP d i.1).2.1), if w64 (0 - w64 (10 * w64 (gP d i.1).2.2.1)) > w64 (10 * w64 (gP d i.1).2.2.1) then w64 (0 - w64 (10 * w64 (gP d i.1).2.2.1)) else w64 (10 * w64 (gP d i.1).2.2.1), 1, 1, w64 (10 * w64 (gP d i.1).2.2.2.1), ())] : List xV) fun z15 => .xC (xH z14 z13 (if 3 < len d.2.2.1 then 3 else len d.2.2.1 : Int) <| wk ∧ wd ∧ xZ ∧ True) <| .xC (xB (xR 154 z15) <| wj ∧ DTl d) <| .ok (.inl ((z13, z14, false, z15, ()))))
     (.need (1 * 48 ≤ 140737488355328) <| .tt <| .lt (w64 (i.1 + 1) : Int) fun z16 => .lt (w64 (w64 (i.2.1 + 1000) + w64 (1000 * w64 (gP d i.1).1)) : Int) fun z17 => .lt ([(z17, if w64 (0 - w64 (100 * w64 (gP d i.1).2.1)) > w64 (100 * w64 (gP d i.1).2.1) then w64 (0 - w64 (100 * w64 (gP d i.1).2.1)) else w64 (100 * w64 (gP d i.1).2.1), if w64 (0 - w64 (10 * w64 (gP d i.1).2.2.1)) > w64 (10 * w64 (gP d i.1).2.2.1) then w64 (0 - w64 (10 * w64 (gP d i.1).2.2.1)) else w64 (10 * w64 (gP d i.1).2.2.1), w64 (1 + w64 (Int.tmod (gP d i.1).2.2.2.2.1 4)), 1, w64 (10 * w64 (gP d i.1).2.2.2.1), ())] : List xV) fun z18 => .xC (xH z17 z16 (if 3 < len d.2.2.1 then 3 else len d.2.2.1 : Int) <| wk ∧ wd ∧ xZ ∧ True) <| .xC (xB (xR 154 z18) <| wj ∧ DTl d) <| .ok (.inl ((z16, z17, false, z18, ())))))
    (.call (aa5 (w64 (1 + w64 (Int.tmod (gP d i.1).2.2.2.2.1 4)), 1, ())) Dd1 fun y3 =>
     .ite (y3.1)
     (.need (1 * 48 ≤ 140737488355328) <| .tt <| .lt (w64 (i.1 + 1) : Int) fun z19 => .lt (w64 (w64 (i.2.1 + 1000) + w64 (1000 * w64 (gP d i.1).1)) : Int) fun z20 => .lt ([(z20, w64 (100 * w64 (gP d i.1).2.1), w64 (10 * w64 (gP d i.1).2.2.1), 1, 1, w64 (10 * w64 (gP d i.1).2.2.2.1), ())] : List xV) fun z21 => .xC (xH z20 z19 (if 3 < len d.2.2.1 then 3 else len d.2.2.1 : Int) <| wk ∧ wd ∧ xZ ∧ True) <| .xC (xB (xR 154 z21) <| wj ∧ DTl d) <| .ok (.inl ((z19, z20, false, z21, ()))))
     (.need (1 * 48 ≤ 140737488355328) <| .tt <| .lt (w64 (i.1 + 1) : Int) fun z22 => .lt (w64 (w64 (i.2.1 + 1000) + w64 (1000 * w64 (gP d i.1).1)) : Int) fun z23 => .lt ([(z23, w64 (100 * w64 (gP d i.1).2.1), w64 (10 * w64 (gP d i.1).2.2.1), w64 (1 + w64 (Int.tmod (gP d i.1).2.2.2.2.1 4)), 1, w64 (10 * w64 (gP d i.1).2.2.2.1), ())] : List xV) fun z24 => .xC (xH z23 z22 (if 3 < len d.2.2.1 then 3 else len d.2.2.1 : Int) <| wk ∧ wd ∧ xZ ∧ True) <| .xC (xB (xR 154 z24) <| wj ∧ DTl d) <| .ok (.inl ((z22, z23, false, z24, ())))))))
  (.ite ((if 3 < len d.2.2.1 then 3 else len d.2.2.1) == 0)
   (ad9 d)
   (.ite (d.2.2.2.2.1)
    (.need (asT Int 0 ≤ 1 ∧ 1 ≤ (↑0 : Int)) <| .bad)
    (.bad))))
 (.ite (decide (i.1 < if 3 < len d.2.2.1 then 3 else len d.2.2.1))
  (.need (inb i.1 (len d.2.2.1)) <| .triv (asT Int 4 ≠ 0) zd <| .ite (d.2.2.2.1)
   (.triv (asT Int 4 ≠ 0) zd <| .ite (d.2.2.2.2.1)
    (.call (aa5 (w64 (1 + w64 (Int.tmod (gP d i.1).2.2.2.2.1 4)), w64 (1 + w64 (Int.tmod (gP d i.1).2.2.2.2.2.1 4)), ())) Dd1 fun y4 =>
     .ite (y4.1)
     (.need ((List.length i.2.2.2.1 + 1) * 48 ≤ 140737488355328) <| .tt <| .lt (w64 (i.1 + 1) : Int) fun z25 => .lt (w64 (w64 (i.2.1 + 1000) + w64 (1000 * w64 (gP d i.1).1)) : Int) fun z26 => .lt (List.take (List.length i.2.2.2.1) i.2.2.2.1 ++ [(z26, if w64 (0 - w64 (100 * w64 (gP d i.1).2.1)) > w64 (100 * w64 (gP d i.1).2.1) then w64 (0 - w64 (100 * w64 (gP d i.1).2.1)) else w64 (100 * w64 (gP d i.1).2.1), if w64 (0 - w64 (10 * w64 (gP d i.1).2.2.1)) > w64 (10 * w64 (gP d i.1).2.2.1) then w64 (0 - w64 (10 * w64 (gP d i.1).2.2.1)) else w64 (10 * w64 (gP d i.1).2.2.1), 1, w64 (1 + w64 (Int.tmod (gP d i.1).2.2.2.2.2.1 4)), w64 (10 * w64 (gP d i.1).2.2.2.1), ())] : List xV) fun z27 => .xC (xH z26 z25 (if 3 < len d.2.2.1 then 3 else len d.2.2.1 : Int) <| wk ∧ wd ∧ xZ ∧ True) <| .need ((((154 : TypeId) = 154) ∧ ((z27 : List xV) = z27)) ∧ (true = true) ∧ (((102 : TypeId) = 102) ∧ (((3 : Int) = 3) ∧ (True ∧ ((((11) = (11)) ∧ (((0) = (0)) ∧ ((List.length i.2.2.2.1 + 1 = List.length z27) ∧ ((true) = (true))))) ∧ True)))) ∧ (true = true) ∧ (((102 : TypeId) = 102) ∧ (((0 : Int) = 0) ∧ wB)) ∧ (true = true) ∧ (((73 : TypeId) = 73) ∧ (((d.1 : Int) = d.1) ∧ (((d.2.1 : List Int) = d.2.1) ∧ (((d.2.2.1 : List xV) = d.2.2.1) ∧ (((d.2.2.2.1) = (d.2.2.2.1)) ∧ (((d.2.2.2.2.1) = (d.2.2.2.2.1)) ∧ True)))))) ∧ (true = true) ∧ True) <| .ok (.inl ((z25, z26, false, z27, ()))))
     (.need ((List.length i.2.2.2.1 + 1) * 48 ≤ 140737488355328) <| .tt <| .lt (w64 (i.1 + 1) : Int) fun z28 => .lt (w64 (w64 (i.2.1 + 1000) + w64 (1000 * w64 (gP d i.1).1)) : Int) fun z29 => .lt (List.take (List.length i.2.2.2.1) i.2.2.2.1 ++ [(z29, if w64 (0 - w64 (100 * w64 (gP d i.1).2.1)) > w64 (100 * w64 (gP d i.1).2.1) then w64 (0 - w64 (100 * w64 (gP d i.1).2.1)) else w64 (100 * w64 (gP d i.1).2.1), if w64 (0 - w64 (10 * w64 (gP d i.1).2.2.1)) > w64 (10 * w64 (gP d i.1).2.2.1) then w64 (0 - w64 (10 * w64 (gP d i.1).2.2.1)) else w64 (10 * w64 (gP d i.1).2.2.1), w64 (1 + w64 (Int.tmod (gP d i.1).2.2.2.2.1 4)), w64 (1 + w64 (Int.tmod (gP d i.1).2.2.2.2.2.1 4)), w64 (10 * w64 (gP d i.1).2.2.2.1), ())] : List xV) fun z30 => .xC (xH z29 z28 (if 3 < len d.2.2.1 then 3 else len d.2.2.1 : Int) <| wk ∧ wd ∧ xZ ∧ True) <| .need ((((154 : TypeId) = 154) ∧ ((z30 : List xV) = z30)) ∧ (true = true) ∧ (((102 : TypeId) = 102) ∧ (((3 : Int) = 3) ∧ (True ∧ ((((11) = (11)) ∧ (((0) = (0)) ∧ ((List.length i.2.2.2.1 + 1 = List.length z30) ∧ ((true) = (true))))) ∧ True)))) ∧ (true = true) ∧ (((102 : TypeId) = 102) ∧ (((0 : Int) = 0) ∧ wB)) ∧ (true = true) ∧ (((73 : TypeId) = 73) ∧ (((d.1 : Int) = d.1) ∧ (((d.2.1 : List Int) = d.2.1) ∧ (((d.2.2.1 : List xV) = d.2.2.1) ∧ (((d.2.2.2.1) = (d.2.2.2.1)) ∧ (((d.2.2.2.2.1) = (d.2.2.2.2.1)) ∧ True)))))) ∧ (true = true) ∧ True) <| .ok (.inl ((z28, z29, false, z30, ())))))
    (.call (aa5 (w64 (1 + w64 (Int.tmod (gP d i.1).2.2.2.2.1 4)), w64 (1 + w64 (Int.tmod (gP d i.1).2.2.2.2.2.1 4)), ())) Dd1 fun y5 =>
     .ite (y5.1)
     (.need ((List.length i.2.2.2.1 + 1) * 48 ≤ 140737488355328) <| .tt <| .lt (w64 (i.1 + 1) : Int) fun z31 => .lt (w64 (w64 (i.2.1 + 1000) + w64 (1000 * w64 (gP d i.1).1)) : Int) fun z32 => .lt (List.take (List.length i.2.2.2.1) i.2.2.2.1 ++ [(z32, w64 (100 * w64 (gP d i.1).2.1), w64 (10 * w64 (gP d i.1).2.2.1), 1, w64 (1 + w64 (Int.tmod (gP d i.1).2.2.2.2.2.1 4)), w64 (10 * w64 (gP d i.1).2.2.2.1), ())] : List xV) fun z33 => .xC (xH z32 z31 (if 3 < len d.2.2.1 then 3 else len d.2.2.1 : Int) <| wk ∧ wd ∧ xZ ∧ True) <| .need ((((154 : TypeId) = 154) ∧ ((z33 : List xV) = z33)) ∧ (true = true) ∧ (((102 : TypeId) = 102) ∧ (((3 : Int) = 3) ∧ (True ∧ ((((11) = (11)) ∧ (((0) = (0)) ∧ ((List.length i.2.2.2.1 + 1 = List.length z33) ∧ ((true) = (true))))) ∧ True)))) ∧ (true = true) ∧ (((102 : TypeId) = 102) ∧ (((0 : Int) = 0) ∧ wB)) ∧ (true = true) ∧ (((73 : TypeId) = 73) ∧ (((d.1 : Int) = d.1) ∧ (((d.2.1 : List Int) = d.2.1) ∧ (((d.2.2.1 : List xV) = d.2.2.1) ∧ (((d.2.2.2.1) = (d.2.2.2.1)) ∧ (((d.2.2.2.2.1) = (d.2.2.2.2.1)) ∧ True)))))) ∧ (true = true) ∧ True) <| .ok (.inl ((z31, z32, false, z33, ()))))
     (.need ((List.length i.2.2.2.1 + 1) * 48 ≤ 140737488355328) <| .tt <| .lt (w64 (i.1 + 1) : Int) fun z34 => .lt (w64 (w64 (i.2.1 + 1000) + w64 (1000 * w64 (gP d i.1).1)) : Int) fun z35 => .lt (List.take (List.length i.2.2.2.1) i.2.2.2.1 ++ [(z35, w64 (100 * w64 (gP d i.1).2.1), w64 (10 * w64 (gP d i.1).2.2.1), w64 (1 + w64 (Int.tmod (gP d i.1).2.2.2.2.1 4)), w64 (1 + w64 (Int.tmod (gP d i.1).2.2.2.2.2.1 4)), w64 (10 * w64 (gP d i.1).2.2.2.1), ())] : List xV) fun z36 => .xC (xH z35 z34 (if 3 < len d.2.2.1 then 3 else len d.2.2.1 : Int) <| wk ∧ wd ∧ xZ ∧ True) <| .need ((((154 : TypeId) = 154) ∧ ((z36 : List xV) = z36)) ∧ (true = true) ∧ (((102 : TypeId) = 102) ∧ (((3 : Int) = 3) ∧ (True ∧ ((((11) = (11)) ∧ (((0) = (0)) ∧ ((List.length i.2.2.2.1 + 1 = List.length z36) ∧ ((true) = (true))))) ∧ True)))) ∧ (true = true) ∧ (((102 : TypeId) = 102) ∧ (((0 : Int) = 0) ∧ wB)) ∧ (true = true) ∧ (((73 : TypeId) = 73) ∧ (((d.1 : Int) = d.1) ∧ (((d.2.1 : List Int) = d.2.1) ∧ (((d.2.2.1 : List xV) = d.2.2.1) ∧ (((d.2.2.2.1) = (d.2.2.2.1)) ∧ (((d.2.2.2.2.1) = (d.2.2.2.2.1)) ∧ True)))))) ∧ (true = true) ∧ True) <| .ok (.inl ((z34, z35, false, z36, ()))))))
   (.ite (d.2.2.2.2.1)
    (.call (aa5 (w64 (1 + w64 (Int.tmod (gP d i.1).2.2.2.2.1 4)), 1, ())) Dd1 fun y6 =>
     .ite (y6.1)
     (.need ((List.length i.2.2.2.1 + 1) * 48 ≤ 140737488355328) <| .tt <| .lt (w64 (i.1 + 1) : Int) fun z37 => .lt (w64 (w64 (i.2.1 + 1000) + w64 (1000 * w64 (gP d i.1).1)) : Int) fun z38 => .lt (List.take (List.length i.2.2.2.1) i.2.2.2.1 ++ [(z38, if w64 (0 - w64 (100 * w64 (gP d i.1).2.1)) > w64 (100 * w64 (gP d i.1).2.1) then w64 (0 - w64 (100 * w64 (gP d i.1).2.1)) else w64 (100 * w64 (gP d i.1).2.1), if w64 (0 - w64 (10 * w64 (gP d i.1).2.2.1)) > w64 (10 * w64 (gP d i.1).2.2.1) then w64 (0 - w64 (10 * w64 (gP d i.1).2.2.1)) else w64 (10 * w64 (gP d i.1).2.2.1), 1, 1, w64 (10 * w64 (gP d i.1).2.2.2.1), ())] : List xV) fun z39 => .xC (xH z38 z37 (if 3 < len d.2.2.1 then 3 else len d.2.2.1 : Int) <| wk ∧ wd ∧ xZ ∧ True) <| .need ((((154 : TypeId) = 154) ∧ ((z39 : List xV) = z39)) ∧ (true = true) ∧ (((102 : TypeId) = 102) ∧ (((3 : Int) = 3) ∧ (True ∧ ((((11) = (11)) ∧ (((0) = (0)) ∧ ((List.length i.2.2.2.1 + 1 = List.length z39) ∧ ((true) = (true))))) ∧ True)))) ∧ (true = true) ∧ (((102 : TypeId) = 102) ∧ (((0 : Int) = 0) ∧ wB)) ∧ (true = true) ∧ (((73 : TypeId) = 73) ∧ (((d.1 : Int) = d.1) ∧ (((d.2.1 : List Int) = d.2.1) ∧ (((d.2.2.1 : List xV) = d.2.2.1) ∧ (((d.2.2.2.1) = (d.2.2.2.1)) ∧ (((d.2.2.2.2.1) = (d.2.2.2.2.1)) ∧ True)))))) ∧ (true = true) ∧ True) <| .ok (.inl ((z37, z38, false, z39, ()))))
     (.need ((List.length i.2.2.2.1 + 1) * 48 ≤ 140737488355328) <| .tt <| .lt (w64 (i.1 + 1) : Int) fun z40 => .lt (w64 (w64 (i.2.1 + 1000) + w64 (1000 * w64 (gP d i.1).1)) : Int) fun z41 => .lt (List.take (List.length i.2.2.2.1) i.2.2.2.1 ++ [(z41, if w64 (0 - w64 (100 * w64 (gP d i.1).2.1)) > w64 (100 * w64 (gP d i.1).2.1) then w64 (0 - w64 (100 * w64 (gP d i.1).2.1)) else w64 (100 * w64 (gP d i.1).2.1), if w64 (0 - w64 (10 * w64 (gP d i.1).2.2.1)) > w64 (10 * w64 (gP d i.1).2.2.1) then w64 (0 - w64 (10 * w64 (gP d i.1).2.2.1)) else w64 (10 * w64 (gP d i.1).2.2.1), w64 (1 + w64 (Int.tmod (gP d i.1).2.2.2.2.1 4)), 1, w64 (10 * w64 (gP d i.1).2.2.2.1), ())] : List xV) fun z42 => .xC (xH z41 z40 (if 3 < len d.2.2.1 then 3 else len d.2.2.1 : Int) <| wk ∧ wd ∧ xZ ∧ True) <| .need ((((154 : TypeId) = 154) ∧ ((z42 : List xV) = z42)) ∧ (true = true) ∧ (((102 : TypeId) = 102) ∧ (((3 : Int) = 3) ∧ (True ∧ ((((11) = (11)) ∧ (((0) = (0)) ∧ ((List.length i.2.2.2.1 + 1 = List.length z42) ∧ ((true) = (true))))) ∧ True)))) ∧ (true = true) ∧ (((102 : TypeId) = 102) ∧ (((0 : Int) = 0) ∧ wB)) ∧ (true = true) ∧ (((73 : TypeId) = 73) ∧ (((d.1 : Int) = d.1) ∧ (((d.2.1 : List Int) = d.2.1) ∧ (((d.2.2.1 : List xV) = d.2.2.1) ∧ (((d.2.2.2.1) = (d.2.2.2.1)) ∧ (((d.2.2.2.2.1) = (d.2.2.2.2.1)) ∧ True)))))) ∧ (true = true) ∧ True) <| .ok (.inl ((z40, z41, false, z42, ())))))
    (.call (aa5 (w64 (1 + w64 (Int.tmod (gP d i.1).2.2.2.2.1 4)), 1, ())) Dd1 fun y7 =>
     .ite (y7.1)
     (.need ((List.length i.2.2.2.1 + 1) * 48 ≤ 140737488355328) <| .tt <| .lt (w64 (i.1 + 1) : Int) fun z43 => .lt (w64 (w64 (i.2.1 + 1000) + w64 (1000 * w64 (gP d i.1).1)) : Int) fun z44 => .lt (List.take (List.length i.2.2.2.1) i.2.2.2.1 ++ [(z44, w64 (100 * w64 (gP d i.1).2.1), w64 (10 * w64 (gP d i.1).2.2.1), 1, 1, w64 (10 * w64 (gP d i.1).2.2.2.1), ())] : List xV) fun z45 => .xC (xH z44 z43 (if 3 < len d.2.2.1 then 3 else len d.2.2.1 : Int) <| wk ∧ wd ∧ xZ ∧ True) <| .need ((((154 : TypeId) = 154) ∧ ((z45 : List xV) = z45)) ∧ (true = true) ∧ (((102 : TypeId) = 102) ∧ (((3 : Int) = 3) ∧ (True ∧ ((((11) = (11)) ∧ (((0) = (0)) ∧ ((List.length i.2.2.2.1 + 1 = List.length z45) ∧ ((true) = (true))))) ∧ True)))) ∧ (true = true) ∧ (((102 : TypeId) = 102) ∧ (((0 : Int) = 0) ∧ wB)) ∧ (true = true) ∧ (((73 : TypeId) = 73) ∧ (((d.1 : Int) = d.1) ∧ (((d.2.1 : List Int) = d.2.1) ∧ (((d.2.2.1 : List xV) = d.2.2.1) ∧ (((d.2.2.2.1) = (d.2.2.2.1)) ∧ (((d.2.2.2.2.1) = (d.2.2.2.2.1)) ∧ True)))))) ∧ (true = true) ∧ True) <| .ok (.inl ((z43, z44, false, z45, ()))))
     (.need ((List.length i.2.2.2.1 + 1) * 48 ≤ 140737488355328) <| .tt <| .lt (w64 (i.1 + 1) : Int) fun z46 => .lt (w64 (w64 (i.2.1 + 1000) + w64 (1000 * w64 (gP d i.1).1)) : Int) fun z47 => .lt (List.take (List.length i.2.2.2.1) i.2.2.2.1 ++ [(z47, w64 (100 * w64 (gP d i.1).2.1), w64 (10 * w64 (gP d i.1).2.2.1), w64 (1 + w64 (Int.tmod (gP d i.1).2.2.2.2.1 4)), 1, w64 (10 * w64 (gP d i.1).2.2.2.1), ())] : List xV) fun z48 => .xC (xH z47 z46 (if 3 < len d.2.2.1 then 3 else len d.2.2.1 : Int) <| wk ∧ wd ∧ xZ ∧ True) <| .need ((((154 : TypeId) = 154) ∧ ((z48 : List xV) = z48)) ∧ (true = true) ∧ (((102 : TypeId) = 102) ∧ (((3 : Int) = 3) ∧ (True ∧ ((((11) = (11)) ∧ (((0) = (0)) ∧ ((List.length i.2.2.2.1 + 1 = List.length z48) ∧ ((true) = (true))))) ∧ True)))) ∧ (true = true) ∧ (((102 : TypeId) = 102) ∧ (((0 : Int) = 0) ∧ wB)) ∧ (true = true) ∧ (((73 : TypeId) = 73) ∧ (((d.1 : Int) = d.1) ∧ (((d.2.1 : List Int) = d.2.1) ∧ (((d.2.2.1 : List xV) = d.2.2.1) ∧ (((d.2.2.2.1) = (d.2.2.2.1)) ∧ (((d.2.2.2.2.1) = (d.2.2.2.2.1)) ∧ True)))))) ∧ (true = true) ∧ True) <| .ok (.inl ((z46, z47, false, z48, ())))))))
  (.ite ((if 3 < len d.2.2.1 then 3 else len d.2.2.1) == 0)
   (ad9 d)
   (.ite (d.2.2.2.2.1)
    (.need (asT Int 0 ≤ 1 ∧ 1 ≤ len i.2.2.2.1) <| .triv (inb (w64 (1 - 1)) (↑1 : Int)) zd <| .ok (.inr (((3, [], List.take 1 (List.set i.2.2.2.1 (0 + Int.toNat (w64 (1 - 1))) (1000000, (List.getD i.2.2.2.1 (0 + Int.toNat (w64 (1 - 1))) (0, 0, 0, 0, 0, 0, ())).2)), ()), ()))))
    (.need (inb (w64 ((if 3 < len d.2.2.1 then 3 else len d.2.2.1) - 1)) (len i.2.2.2.1)) <| .ok (.inr (((3, [], List.take (List.length i.2.2.2.1) (List.set i.2.2.2.1 (0 + Int.toNat (w64 ((if 3 < len d.2.2.1 then 3 else len d.2.2.1) - 1))) (1000000, (List.getD i.2.2.2.1 (0 + Int.toNat (w64 ((if 3 < len d.2.2.1 then 3 else len d.2.2.1) - 1))) (0, 0, 0, 0, 0, 0, ())).2)), ()), ())))))))
def afB (d : Int × List Int × List xV × Bool × Bool × Unit) : TT wE :=
 .loop 0 (.tt <| .lt ([] : List xV) fun z => .xC (xH (0 : Int) (0 : Int) (if 3 < len d.2.2.1 then 3 else len d.2.2.1 : Int) <| wk ∧ wd ∧ xZ ∧ True) <| .xC ((xO 102 (3 : Int) <| True ∧ True ∧ True) ∧ DTl d) <| .ok ((0, 0, true, z, ()))) (agQ d)
end
noncomputable section
abbrev DrT := Int × List Int × List aiD × Bool × Bool × Unit
def avO (l : List Int) : Prop := ∀ v ∈ l, inR v 0 65535
def aJi (d : DrT) : Prop := inR d.1 0 255 ∧ avO d.2.1 ∧ ∀ s ∈ d.2.2.1, inR s.1 0 255 ∧ inR s.2.1 (-32768) 32767 ∧ inR s.2.2.1 (-32768) 32767 ∧ inR s.2.2.2.1 (-32768) 32767 ∧ inR s.2.2.2.2.1 0 255 ∧ inR s.2.2.2.2.2.1 0 255
def af3 (x : DrT × Unit) : Option (CvT × Unit) := (ahK x.1).toO
def ad2 (x : DrT × Unit) : Option (CvT × Unit) := (afB x.1).toO
end
set_option maxRecDepth 100000
open Go Go.Vg Go.Proofs
noncomputable section
def aBU : LTab := []
def ajF (d : Int × List Int × List xV × Bool × Bool × Unit) : TT wE :=
 .triv (asT Int 4 ≠ 0) zd <| .ite (Int.tmod d.1 4 == 0)
 (.ok (((1, [], [], ()), ())))
 (.ite (Int.tmod d.1 4 == 1)
 (.call (ad2 ((d.1, d.2.1, d.2.2.1, d.2.2.2.1, d.2.2.2.2.1, ()), ())) aL8 fun y =>
 .ok (((y.1.1, y.1.2.1, y.1.2.2.1, ()), ())))
 (.call (af3 ((d.1, d.2.1, d.2.2.1, d.2.2.2.1, d.2.2.2.2.1, ()), ())) aL8 fun y1 =>
 .ok (((y1.1.1, y1.1.2.1, y1.1.2.2.1, ()), ()))))
end
noncomputable section
def aaI (x : DrT × Unit) : Option (CvT × Unit) := (ajF x.1).toO
end
end Go.Vs
