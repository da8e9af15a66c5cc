/-
  Trees of what the functions compute, and their laws. Own work; no condition.
-/
import Derived.Test.YtehaimkjedmjfaaGreatDoorClL1
import Derived.Test.YtehaimkjedmjfaaGreatDoorProg
set_option linter.unusedVariables false
set_option linter.unusedSimpArgs false
namespace Go.Vs
open Go Go.Vg
theorem ap6 (c : Int) : -1 ≤ aaL c ∧ aaL c ≤ 3 := by unfold aaL; repeat' split <;> omega
theorem ap8 (c : Int) : c = 1 ∨ c = 2 ∨ c = 3 ∨ c = 4 ∨ c = 5 ∨ c = 6 ∨ c = 7 ∨ c = 8 ∨ c = 9 ∨ c = 10 ∨ c = 11 ∨ c = 12 ∨ ((c ≠ 1 ∧ c ≠ 2 ∧ c ≠ 3 ∧ c ≠ 4 ∧ c ≠ 5 ∧ c ≠ 6) ∧ (c ≠ 7 ∧ c ≠ 8 ∧ c ≠ 9 ∧ c ≠ 10 ∧ c ≠ 11 ∧ c ≠ 12)) := zc
theorem ap7 {c : Int} (h : ((c ≠ 1 ∧ c ≠ 2 ∧ c ≠ 3 ∧ c ≠ 4 ∧ c ≠ 5 ∧ c ≠ 6) ∧ (c ≠ 7 ∧ c ≠ 8 ∧ c ≠ 9 ∧ c ≠ 10 ∧ c ≠ 11 ∧ c ≠ 12))) : aaL c = -1 := by
 unfold aaL
 rw [if_neg zc, if_neg zc, if_neg (by unfold inR; omega), if_neg zc]
theorem ayP (c : Int) (y) (h : ah4 (c, ()) = some y) : (anR c).toO = some y := by
 rcases ap8 c with rfl | rfl | rfl | rfl | rfl | rfl | rfl | rfl | rfl | rfl | rfl | rfl | hc
 all_goals first
  | exact h
  | skip
 unfold ah4 at h
 dsimp only at h
 rw [ap7 hc] at h
 obtain ⟨⟨h1, h2, h3, h4, h5, h6⟩, h7, h8, h9, h10, h11, h12⟩ := hc
 unfold anR abI
 simp only [beq_eq_false_iff_ne.2 h1, beq_eq_false_iff_ne.2 h2, beq_eq_false_iff_ne.2 h3, beq_eq_false_iff_ne.2 h4, beq_eq_false_iff_ne.2 h5, beq_eq_false_iff_ne.2 h6, beq_eq_false_iff_ne.2 h7, beq_eq_false_iff_ne.2 h8, beq_eq_false_iff_ne.2 h9, beq_eq_false_iff_ne.2 h10, beq_eq_false_iff_ne.2 h11, beq_eq_false_iff_ne.2 h12]
 exact h
theorem av5 (c : Int) (y) (h : ab0 (c, ()) = some y) : (alM c).toO = some y := by
 rcases ap8 c with rfl | rfl | rfl | rfl | rfl | rfl | rfl | rfl | rfl | rfl | rfl | rfl | hc
 all_goals first
  | exact h
  | skip
 unfold ab0 at h
 dsimp only at h
 rw [ap7 hc] at h
 obtain ⟨⟨h1, h2, h3, h4, h5, h6⟩, h7, h8, h9, h10, h11, h12⟩ := hc
 unfold alM abB
 simp only [beq_eq_false_iff_ne.2 h1, beq_eq_false_iff_ne.2 h2, beq_eq_false_iff_ne.2 h3, beq_eq_false_iff_ne.2 h4, beq_eq_false_iff_ne.2 h5, beq_eq_false_iff_ne.2 h6, beq_eq_false_iff_ne.2 h7, beq_eq_false_iff_ne.2 h8, beq_eq_false_iff_ne.2 h9, beq_eq_false_iff_ne.2 h10, beq_eq_false_iff_ne.2 h11, beq_eq_false_iff_ne.2 h12]
 exact h
theorem afH {p : Prop} [Decidable p] {b : Bool} (h : p ↔ b = true) : decide p = b := by rw [xA, zC]; exact h
theorem adI {a b : Bool} {y : Bool × Unit} (h : some (a, ()) = some y) (e : a = b) : (TT.ok (b, ())).toO = some y := by subst e; exact h
theorem aqY (o : OpT) (i n : Int) (y) (h : ad9 (o, i, n, ()) = some y) : (aiE o i n).toO = some y := by
 unfold ad9 at h
 split at h
 case isFalse => cases h
 case isTrue hr =>
 obtain ⟨⟨r1, r2⟩, r3, r4⟩ := hr
 dsimp only at h r1 r2 r3 r4
 have e1 : w64 (i - 1) = i - 1 := aaD zc
 have e2 : w64 (n - 1) = n - 1 := aaD zc
 unfold aiE
 rw [e1, e2]
 by_cases c1 : o.1 = 1
 ·refine uT (zz.2 c1) ?_
  by_cases d : 0 ≤ o.2.1
  ·exact uT (zl d) (adI h (afH (by unfold acO; rw [if_pos c1, zC]; omega)))
  ·exact uF (zk d) (adI h (zk (by unfold acO; rw [if_pos c1]; omega)))
 refine uF (beq_eq_false_iff_ne.2 c1) ?_
 by_cases c2 : o.1 = 2
 ·refine uT (zz.2 c2) ?_
  by_cases d : -1000000000 ≤ o.2.1
  ·exact uT (zl d) (adI h (afH (by unfold acO inR; rw [if_neg c1, if_pos c2, zC]; omega)))
  ·exact uF (zk d) (adI h (zk (by unfold acO inR; rw [if_neg c1, if_pos c2]; omega)))
 refine uF (beq_eq_false_iff_ne.2 c2) ?_
 by_cases c3 : o.1 = 11
 ·refine uT (zz.2 c3) ?_
  by_cases d : 0 ≤ o.2.1
  ·exact uT (zl d) (adI h (afH (by unfold acO; rw [if_neg c1, if_neg c2, if_pos c3, zC]; omega)))
  ·exact uF (zk d) (adI h (zk (by unfold acO; rw [if_neg c1, if_neg c2, if_pos c3]; omega)))
 refine uF (beq_eq_false_iff_ne.2 c3) ?_
 by_cases d : 0 ≤ o.2.1
 ·exact uT (zl d) (adI h (afH (by unfold acO; rw [if_neg c1, if_neg c2, if_neg c3, zC]; omega)))
 ·exact uF (zk d) (adI h (zk (by unfold acO; rw [if_neg c1, if_neg c2, if_neg c3]; omega)))
theorem atD (o : OpT) (i n : Int) (y) (h : ag7 (o, i, n, ()) = some y) : (ajI o i n).toO = some y := by
 unfold ag7 at h
 dsimp only at h
 unfold ajI
 by_cases c1 : o.1 = 1
 ·refine uT (zz.2 c1) ?_
  by_cases d : 0 ≤ o.2.1
  ·exact uT (zl d) (adI h (afH (by unfold acO; rw [if_pos c1, zC]; omega)))
  ·exact uF (zk d) (adI h (zk (by unfold acO; rw [if_pos c1]; omega)))
 refine uF (beq_eq_false_iff_ne.2 c1) ?_
 by_cases c2 : o.1 = 2
 ·refine uT (zz.2 c2) ?_
  by_cases d : -1000000000 ≤ o.2.1
  ·exact uT (zl d) (adI h (afH (by unfold acO inR; rw [if_neg c1, if_pos c2, zC]; omega)))
  ·exact uF (zk d) (adI h (zk (by unfold acO inR; rw [if_neg c1, if_pos c2]; omega)))
 refine uF (beq_eq_false_iff_ne.2 c2) ?_
 by_cases c3 : o.1 = 11
 ·refine uT (zz.2 c3) ?_
  by_cases d : 0 ≤ o.2.1
  ·exact uT (zl d) (adI h (afH (by unfold acO; rw [if_neg c1, if_neg c2, if_pos c3, zC]; omega)))
  ·exact uF (zk d) (adI h (zk (by unfold acO; rw [if_neg c1, if_neg c2, if_pos c3]; omega)))
 exact uF (beq_eq_false_iff_ne.2 c3) (adI h (afH (by unfold acO; rw [if_neg c1, if_neg c2, if_neg c3, zz])))
theorem az1 {α : Type} {l : List α} {k : Nat} (d : α) (h : k < l.length) : l.drop k = l.getD k d :: l.drop (k + 1) := by
 rw [yi h]; simp [h]
theorem aqA (ins : Int) : ∀ (l : List OpT) (n m n' m' : Int), abH ins l n m = some (n', m') → m ≤ m'
 | [], n, m, n', m', h => by
  injection h with h
  obtain ⟨-, h⟩ := Prod.mk.inj h
  omega
 | o :: r, n, m, n', m', h => by
  simp only [abH] at h
  split at h
  ·have := aqA ins r _ _ _ _ h
   split at this <;> omega
  ·cases h
def aLB (o : Int) : Option (Int × Int) → Int × Int × Unit
 | some (n, m) => if m ≤ 16 ∧ n = o then (m, 0, ()) else (0, 120, ())
 | none => (0, 120, ())
theorem aDm {o ins : Int} {l : List OpT} {n m : Int} (h : 16 < m) : aLB o (abH ins l n m) = (0, 120, ()) := by
 cases e : abH ins l n m with
 | none => rfl
 | some x =>
  obtain ⟨n', m'⟩ := x
  have := aqA _ _ _ _ _ _ e
  unfold aLB
  exact if_neg zc
def aNp : Option Int → Int × Int × Unit
 | some m => (m, 0, ())
 | none => (0, 120, ())
theorem ah7 (c : Int) : ah4 (c, ()) = some (if aaL c < 0 then 0 else aaL c, decide (0 ≤ aaL c), ()) := rfl
theorem aiY {o : OpT} {i n : Int} (h1 : inR i 0 100) (h2 : inR n 0 100) : ad9 (o, i, n, ()) = some (decide (acO o i n), ()) := if_pos ⟨h1, h2⟩
theorem awB (p : List OpT) (i o : Int) (y) (h : agM (p, i, o, ()) = some y) : (alS p i o).toO = some y := by
 unfold agM at h
 split at h
 case isFalse => cases h
 case isTrue hl =>
 injection h with h
 have h : aNp (aeB p i o) = y := by rw [← h]; unfold aNp; rfl
 subst h
 unfold alS adA
 by_cases c : inR i 1 4 ∧ inR o 1 4 ∧ p.length ≤ 40
 case neg =>
  have e : aeB p i o = none := by unfold aeB; rw [if_neg c]
  rw [e]
  unfold inR at c
  by_cases c1 : 1 ≤ i
  case neg => exact uF (zk c1) rfl
  refine uT (zl c1) ?_
  by_cases c2 : i ≤ 4
  case neg => exact uF (zk c2) rfl
  refine uT (zl c2) ?_
  by_cases c3 : 1 ≤ o
  case neg => exact uF (zk c3) rfl
  refine uT (zl c3) ?_
  by_cases c4 : o ≤ 4
  case neg => exact uF (zk c4) rfl
  refine uT (zl c4) (uV (uV (uT ?_ rfl)))
  rw [zk (by rw [aaB]; omega)]; rfl
 obtain ⟨⟨c1, c2⟩, ⟨c3, c4⟩, c5⟩ := c
 have e : aNp (aeB p i o) = aLB o (abH i p 0 0) := by
  unfold aeB
  rw [if_pos ⟨⟨c1, c2⟩, ⟨c3, c4⟩, c5⟩]
  cases abH i p 0 0 with
  | none => rfl
  | some x =>
   obtain ⟨n, m⟩ := x
   unfold aLB
   dsimp only
   by_cases d : m ≤ 16 ∧ n = o
   ·rw [if_pos d, if_pos d]; rfl
   ·rw [if_neg d, if_neg d]; rfl
 rw [e]
 refine uT (zl c1) (uT (zl c2) (uT (zl c3) (uT (zl c4) (uV (uV (uF ?_ (uO (0, 0, 0, ()) rfl ?_)))))))
 ·rw [zl (by rw [aaB]; omega)]; rfl
 refine abE (fun j : Int × Int × Int × Unit => ∃ k : Nat, k ≤ p.length ∧ j.1 = (k : Int) ∧ (0 ≤ j.2.1 ∧ j.2.1 ≤ 16) ∧ (0 ≤ j.2.2.1 ∧ j.2.2.1 ≤ 16)) (fun j => ((p.length : Int) - j.1).toNat) (fun j => aLB o (abH i (p.drop j.1.toNat) j.2.1 j.2.2.1)) ?_ _ ⟨0, by omega, rfl, by dsimp only; omega, by dsimp only; omega⟩
 rintro ⟨j1, n, m, u⟩ ⟨k, h2, rfl, ⟨n1, n2⟩, m1, m2⟩
 dsimp only at n1 n2 m1 m2
 simp only [aoY, af6, ad4, aaJ, zt]
 rcases zL k p.length with hk | hk
 ·rw [az1 (0, 0, ()) hk]
  generalize hq : p.getD k (0, 0, ()) = q
  have tr := ap6 q.1
  by_cases t0 : 0 ≤ aaL q.1
  case neg =>
   right
   refine uT sd (uN sd (uC _ (ah7 _) (uF (zk t0) ?_)))
   simp only [abH]
   rw [if_neg (fun h => t0 h.1)]
   rfl
  have tv0 : (if aaL q.1 < 0 then 0 else aaL q.1) = aaL q.1 := if_neg zc
  by_cases t1 : aaL q.1 ≤ n
  case neg =>
   right
   refine uT sd (uN sd (uC _ (ah7 _) (uT (zl t0) (uF (zk (by rw [tv0]; exact t1)) ?_))))
   simp only [abH]
   rw [if_neg (fun h => t1 h.2.1)]
   rfl
  by_cases t2 : acO q i n
  case neg =>
   right
   refine uT sd (uN sd (uC _ (ah7 _) (uT (zl t0) (uT (zl (by rw [tv0]; exact t1)) (uC _ (aiY ⟨by omega, by omega⟩ ⟨n1, by omega⟩) (uV (uV (uT (by show (!decide (acO q i n)) = true; rw [zk t2]; rfl) ?_))))))))
   simp only [abH]
   rw [if_neg (fun h => t2 h.2.2)]
   rfl
  have hst : abH i (q :: p.drop (k + 1)) n m = abH i (p.drop (k + 1)) (n - aaL q.1 + 1) (if n - aaL q.1 + 1 > m then n - aaL q.1 + 1 else m) := by
   simp only [abH]
   exact if_pos ⟨t0, t1, t2⟩
  have e1 : w64 (n + w64 (1 - (if aaL q.1 < 0 then 0 else aaL q.1))) = n - aaL q.1 + 1 := by
   rw [tv0, aaD (x := 1 - aaL q.1) zc, aaD zc]; omega
  rw [hst]
  by_cases t3 : n - aaL q.1 + 1 ≤ 16
  case neg =>
   right
   rw [aDm (by split <;> omega)]
   refine uT sd (uN sd (uC _ (ah7 _) (uT (zl t0) (uT (zl (by rw [tv0]; exact t1)) (uC _ (aiY ⟨by omega, by omega⟩ ⟨n1, by omega⟩) (uV (uV (uF (by show (!decide (acO q i n)) = false; rw [zl t2]; rfl) ?_))))))))
   refine uV (uV (uT ?_ rfl))
   dsimp only
   rw [e1, zk t3]; rfl
  left
  refine ⟨(((k + 1 : Nat) : Int), n - aaL q.1 + 1, (if n - aaL q.1 + 1 > m then n - aaL q.1 + 1 else m), ()), ?_, ⟨k + 1, by omega, rfl, by dsimp only; omega, by dsimp only; split <;> omega⟩, by dsimp only; omega, by dsimp only; rw [zt]⟩
  refine uT sd (uN sd (uC _ (ah7 _) (uT (zl t0) (uT (zl (by rw [tv0]; exact t1)) (uC _ (aiY ⟨by omega, by omega⟩ ⟨n1, by omega⟩) (uV (uV (uF (by show (!decide (acO q i n)) = false; rw [zl t2]; rfl) ?_))))))))
  dsimp only
  rw [e1]
  refine uV (uV (uF (by rw [zl t3]; rfl) (uV (uB (uB (uB (uV (uV ?_))))))))
  rw [apJ hk zc]; rfl
 ·right
  rw [yz hk]
  refine uF sd (uV (uV ?_))
  have e9 : aLB o (abH i [] n m) = if m ≤ 16 ∧ n = o then (m, 0, ()) else (0, 120, ()) := rfl
  rw [e9]
  by_cases d : n = o
  ·rw [if_pos ⟨m2, d⟩]
   exact uF (by rw [zz.2 d]; rfl) rfl
  ·rw [if_neg (fun h => d h.2)]
   exact uT (by rw [beq_eq_false_iff_ne.2 d]; rfl) rfl
theorem aB6 {p : List OpT} (i o : Int) (h : shL p) : agM (p, i, o, ()) = some (match aeB p i o with | some m => (m, 0, ()) | none => (0, 120, ())) := if_pos h
theorem ayQ (p : List OpT) (i o : Int) (y) (h : afW (p, i, o, ()) = some y) : (anS p i o).toO = some y := by
 unfold afW at h
 split at h
 case isFalse => cases h
 case isTrue hl =>
 unfold anS
 refine uC _ (aB6 i o hl) (Eq.trans ?_ h)
 dsimp only
 cases aeB p i o <;> rfl
def aKV (o : Int) : Option (Int × Int) → Int × Bool × Unit
 | some (n, m) => (m, decide (m ≤ 16 ∧ n = o), ())
 | none => (0, false, ())
theorem av6 (p : List OpT) (i o : Int) (y) (h : agL (p, i, o, ()) = some y) : (alN p i o).toO = some y := by
 unfold agL at h
 split at h
 case isFalse => cases h
 case isTrue hl =>
 injection h with h
 have h : aKV o (if inR i 1 4 ∧ inR o 1 4 ∧ p.length ≤ 40 then abH i p 0 0 else none) = y := by rw [← h]; unfold aKV; rfl
 subst h
 unfold alN
 by_cases c : inR i 1 4 ∧ inR o 1 4 ∧ p.length ≤ 40
 case neg =>
  rw [if_neg c]
  unfold inR at c
  by_cases c1 : 1 ≤ i
  case neg => exact uT sd rfl
  refine uF sd ?_
  by_cases c2 : i ≤ 4
  case neg => exact uT sd rfl
  refine uF sd ?_
  by_cases c3 : 1 ≤ o
  case neg => exact uT sd rfl
  refine uF sd ?_
  by_cases c4 : o ≤ 4
  case neg => exact uT sd rfl
  refine uF sd (uT (zl ?_) rfl)
  rw [aaB]; omega
 rw [if_pos c]
 obtain ⟨⟨c1, c2⟩, ⟨c3, c4⟩, c5⟩ := c
 refine uF sd (uF sd (uF sd (uF sd (uF (zk (by rw [aaB]; omega)) (uO (0, 0, 0, ()) rfl ?_)))))
 refine abE (fun j : Int × Int × Int × Unit => ∃ k : Nat, k ≤ p.length ∧ j.1 = (k : Int) ∧ (0 ≤ j.2.2.1 ∧ j.2.2.1 ≤ (k : Int)) ∧ (0 ≤ j.2.1 ∧ j.2.1 ≤ (k : Int))) (fun j => ((p.length : Int) - j.1).toNat) (fun j => aKV o (abH i (p.drop j.1.toNat) j.2.2.1 j.2.1)) ?_ _ ⟨0, by omega, rfl, by dsimp only; omega, by dsimp only; omega⟩
 rintro ⟨j1, m, n, u⟩ ⟨k, h2, rfl, ⟨n1, n2⟩, m1, m2⟩
 dsimp only at n1 n2 m1 m2
 simp only [aoV, aaJ, zt]
 rcases zL k p.length with hk | hk
 ·rw [az1 (0, 0, ()) hk]
  generalize hq : p.getD k (0, 0, ()) = q
  have tr := ap6 q.1
  by_cases t0 : 0 ≤ aaL q.1
  case neg =>
   right
   refine uT sd (uN sd (uC (aaL q.1, ()) rfl (uT (zl zg) ?_)))
   simp only [abH]
   rw [if_neg (fun h => t0 h.1)]
   rfl
  by_cases t1 : aaL q.1 ≤ n
  case neg =>
   right
   refine uT sd (uN sd (uC (aaL q.1, ()) rfl (uF (zk zg) (uT (zl zg) ?_))))
   simp only [abH]
   rw [if_neg (fun h => t1 h.2.1)]
   rfl
  by_cases t2 : acO q i n
  case neg =>
   right
   refine uT sd (uN sd (uC (aaL q.1, ()) rfl (uF (zk zg) (uF (zk zg) (uN sd (uC (decide (acO q i n), ()) rfl (uT (by dsimp only; rw [zk t2]; rfl) ?_)))))))
   simp only [abH]
   rw [if_neg (fun h => t2 h.2.2)]
   rfl
  have hst : abH i (q :: p.drop (k + 1)) n m = abH i (p.drop (k + 1)) (n - aaL q.1 + 1) (if n - aaL q.1 + 1 > m then n - aaL q.1 + 1 else m) := by
   simp only [abH]
   exact if_pos ⟨t0, t1, t2⟩
  have e1 : w64 (w64 (n - aaL q.1) + 1) = n - aaL q.1 + 1 := by
   rw [aaD (x := n - aaL q.1) zc, aaD zc]
  rw [hst]
  left
  refine ⟨(((k + 1 : Nat) : Int), (if n - aaL q.1 + 1 > m then n - aaL q.1 + 1 else m), n - aaL q.1 + 1, ()), ?_, ⟨k + 1, by omega, rfl, by dsimp only; omega, by dsimp only; split <;> omega⟩, by dsimp only; omega, by dsimp only; rw [zt]⟩
  refine uT sd (uN sd (uC (aaL q.1, ()) rfl (uF (zk zg) (uF (zk zg) (uN sd (uC (decide (acO q i n), ()) rfl (uF (by dsimp only; rw [zl t2]; rfl) ?_)))))))
  dsimp only
  rw [e1]
  refine uV (uB (uB (uB (uV (uV ?_)))))
  rw [apJ hk zc]; rfl
 ·right
  rw [yz hk]
  refine uF sd ?_
  have e9 : aKV o (abH i [] n m) = (m, decide (m ≤ 16 ∧ n = o), ()) := rfl
  rw [e9]
  by_cases d : m ≤ 16
  ·refine uT (zl d) ?_
   rw [show decide (m ≤ 16 ∧ n = o) = (n == o) from afH (by rw [zz]; exact and_iff_right d)]
   rfl
  ·refine uF (zk d) ?_
   rw [zk (fun h => d h.1)]
   rfl
theorem aB3 {p : List OpT} (i o : Int) (h : shL p) : agL (p, i, o, ()) = some (aKV o (if inR i 1 4 ∧ inR o 1 4 ∧ p.length ≤ 40 then abH i p 0 0 else none)) := (if_pos h).trans (by unfold aKV; rfl)
theorem av7 (p : List OpT) (i o : Int) (y) (h : acZ (p, i, o, ()) = some y) : (alP p i o).toO = some y := by
 unfold acZ at h
 split at h
 case isFalse => cases h
 case isTrue hl =>
 unfold alP
 refine uC _ (aB3 i o hl) (Eq.trans ?_ h)
 show some _ = some _
 unfold aeB
 dsimp only
 by_cases c : inR i 1 4 ∧ inR o 1 4 ∧ p.length ≤ 40
 case neg => rw [if_neg c, if_neg c]; rfl
 rw [if_pos c, if_pos c]
 cases abH i p 0 0 with
 | none => rfl
 | some x =>
  obtain ⟨n, m⟩ := x
  unfold aKV
  dsimp only
  by_cases d : m ≤ 16 ∧ n = o
  ·rw [if_pos d, zl d]; rfl
  ·rw [if_neg d, zk d]; rfl
set_option maxRecDepth 100000
open Go Go.Vg Go.Proofs
noncomputable section
def aAO : LTab := []
def alE (n : Int) (low : Int) (high : Int) : TT wk :=
 .ite (decide (n ≥ low))
 (.ok ((decide (n ≤ high), ())))
 (.ok ((false, ())))
def aAQ : LTab := [(134, 26, 2048, ⟨0, (Int) × Unit, .dat (.s 5) xX <| .nil, [0, 1], [], 0⟩)]
def aoT (a : Int) (b : Int) (i : (Int) × Unit) : TT wi :=
 .ite (decide (i.1 ≤ a))
 (.ite (decide (i.1 ≤ b))
 (.need (i.1 ≠ 0) <| .ite (Int.tmod a i.1 == 0)
 (.need (i.1 ≠ 0) <| .ite (Int.tmod b i.1 == 0)
 (.ok (.inr ((true, ()))))
 (.tt <| .lt (w64 (i.1 + 1) : Int) fun z => .xD (xH z a b) <| .tr <| .ok (.inl ((z, ())))))
 (.tt <| .lt (w64 (i.1 + 1) : Int) fun z1 => .xD (xH z1 a b) <| .tr <| .ok (.inl ((z1, ())))))
 (.ok (.inr ((false, ())))))
 (.ok (.inr ((false, ()))))
def alF (a : Int) (b : Int) : TT wk :=
 .loop 0 (.tt <| .xD (xH (2 : Int) a b) <| .tr <| .ok ((2, ()))) (aoT a b)
def ax0 : LTab := []
def ajC (s : Int × Int × Int × Int × Int × Int × Unit) : TT wk :=
 .call (abZ (s.2.1, -100000000, 100000000, ())) Dd1 fun y =>
 .ite (y.1)
 (.call (abZ (s.2.2.1, -100000000, 100000000, ())) Dd1 fun y1 =>
 .ite (y1.1)
 (.call (abZ (s.2.2.2.2.2.1, -100000000, 100000000, ())) Dd1 fun y2 =>
 .ite (y2.1)
 (.call (abZ (s.2.2.2.1, 1, 36, ())) Dd1 fun y3 =>
 .ite (y3.1)
 (.call (abZ (s.2.2.2.2.1, 1, 12, ())) Dd1 fun y4 =>
 .ite (y4.1)
 (.call (aa8 (s.2.2.2.1, s.2.2.2.2.1, ())) Dd1 fun y5 =>
 .ok ((!y5.1, ())))
 (.ok ((false, ()))))
 (.ok ((false, ()))))
 (.ok ((false, ()))))
 (.ok ((false, ()))))
 (.ok ((false, ())))
def aDn : LTab := [(137, 3442, 9216, ⟨0, (Int) × Unit, .dat (.s 3) xX <| .nil, [8, 1], [0], 0⟩), (137, 27626, 12288, ⟨1, (Int) × (Int) × Unit, .dat (.s 5) xX <| .dat (.s 4) xX <| .nil, [1], [0], 0⟩)]
def aqN (c : Int × List Int × List xW × Unit) (i : (Int) × Unit) : TT wi :=
 .ite (decide (i.1 < len c.2.1))
 (.need (inb i.1 (len c.2.1)) <| .call (abZ (gi c.2.1 i.1 0, 0, 65535, ())) Dd1 fun y =>
 .ite (!y.1)
 (.ok (.inr ((false, ()))))
 (.tt <| .lt (w64 (i.1 + 1) : Int) fun z => .xD (xQ z c.1 <| wc ∧ True) <| .xD (xC (xE 112 c.1 c.2.1 c.2.2.1) True) <| .ok (.inl ((z, ())))))
 (.call (abZ (len c.2.1, 2, 17, ())) Dd1 fun y1 =>
 .ite (y1.1)
 (.ok (.inr ((len c.2.2.1 == 0, ()))))
 (.ok (.inr ((false, ())))))
def aqM (c : Int × List Int × List xW × Unit) (i1 : (Int) × (Int) × Unit) : TT (wK ⊕ wk) :=
 .ite (decide (i1.1 < len c.2.2.1))
 (.need (inb i1.1 (len c.2.2.1)) <| .call (ag6 (((gi c.2.2.1 i1.1 (0, 0, 0, 0, 0, 0, ())).1, (gi c.2.2.1 i1.1 (0, 0, 0, 0, 0, 0, ())).2.1, (gi c.2.2.1 i1.1 (0, 0, 0, 0, 0, 0, ())).2.2.1, (gi c.2.2.1 i1.1 (0, 0, 0, 0, 0, 0, ())).2.2.2.1, (gi c.2.2.1 i1.1 (0, 0, 0, 0, 0, 0, ())).2.2.2.2.1, (gi c.2.2.1 i1.1 (0, 0, 0, 0, 0, 0, ())).2.2.2.2.2.1, ()), ())) Dd1 fun y2 =>
 .ite (!y2.1)
 (.ok (.inr ((false, ()))))
 (.ite (decide ((gi c.2.2.1 i1.1 (0, 0, 0, 0, 0, 0, ())).1 ≤ i1.2.1))
 (.ok (.inr ((false, ()))))
 (.tt <| .lt (w64 (i1.1 + 1) : Int) fun z1 => .lt ((gi c.2.2.1 i1.1 (0, 0, 0, 0, 0, 0, ())).1 : Int) fun z2 => .xD (xQ z2 z1 <| wc ∧ True) <| .xD (xC (xE 112 c.1 c.2.1 c.2.2.1) True) <| .ok (.inl ((z1, z2, ()))))))
 (.call (abZ (len c.2.2.1, 1, 4, ())) Dd1 fun y3 =>
 .ite (y3.1)
 (.ite (i1.2.1 == 1000000)
 (.ok (.inr ((len c.2.1 == 0, ()))))
 (.ok (.inr ((false, ())))))
 (.ok (.inr ((false, ())))))
def anH (c : Int × List Int × List xW × Unit) : TT wk :=
 .ite (c.1 == 1)
 (.ite (len c.2.1 == 0)
 (.ok ((len c.2.2.1 == 0, ())))
 (.ok ((false, ()))))
 (.ite (c.1 == 2)
 (.loop 0 (.tt <| .xD (xQ (0 : Int) c.1 <| wc ∧ True) <| .xD (xC (xE 112 c.1 c.2.1 c.2.2.1) True) <| .ok ((0, ()))) (aqN c))
 (.ite (c.1 == 3)
 (.loop 1 (.tt <| .xD (xQ (0 : Int) (0 : Int) <| wc ∧ True) <| .xD (xC (xE 112 c.1 c.2.1 c.2.2.1) True) <| .ok ((0, 0, ()))) (aqM c))
 (.ok ((false, ())))))
def aFi : LTab := [(57, 3, 3072, ⟨0, (Bool) × Unit, .dat (.s 4) (Ty.bool) <| .nil, [3, 2], [1, 0], 0⟩), (57, 58, 4096, ⟨1, (Int) × Unit, .dat (.s 5) xX <| .nil, [3, 2], [1, 0], 0⟩), (57, 122, 10240, ⟨2, (Int) × Unit, .dat (.s 6) xX <| .nil, [3, 2], [1, 0], 0⟩)]
def at8 (a : Int × List Int × List xW × Unit) (b : Int × List Int × List xW × Unit) (j : Bool × Unit) (i : Int × Unit) (i1 : (Int) × Unit) : TT wO :=
 .ite (decide (i1.1 < len a.2.2.1))
 (.need (inb i1.1 (len a.2.2.1)) <| .need (inb i1.1 (len b.2.2.1)) <| .ite (!(match (gi a.2.2.1 i1.1 (0, 0, 0, 0, 0, 0, ())).1 == (gi b.2.2.1 i1.1 (0, 0, 0, 0, 0, 0, ())).1 with | true => (match (gi a.2.2.1 i1.1 (0, 0, 0, 0, 0, 0, ())).2.1 == (gi b.2.2.1 i1.1 (0, 0, 0, 0, 0, 0, ())).2.1 with | true => (match (gi a.2.2.1 i1.1 (0, 0, 0, 0, 0, 0, ())).2.2.1 == (gi b.2.2.1 i1.1 (0, 0, 0, 0, 0, 0, ())).2.2.1 with | true => (match (gi a.2.2.1 i1.1 (0, 0, 0, 0, 0, 0, ())).2.2.2.1 == (gi b.2.2.1 i1.1 (0, 0, 0, 0, 0, 0, ())).2.2.2.1 with | true => (match (gi a.2.2.1 i1.1 (0, 0, 0, 0, 0, 0, ())).2.2.2.2.1 == (gi b.2.2.1 i1.1 (0, 0, 0, 0, 0, 0, ())).2.2.2.2.1 with | true => (match (gi a.2.2.1 i1.1 (0, 0, 0, 0, 0, 0, ())).2.2.2.2.2.1 == (gi b.2.2.1 i1.1 (0, 0, 0, 0, 0, 0, ())).2.2.2.2.2.1 with | true => true | false => false) | false => false) | false => false) | false => false) | false => false) | false => false))
 (.ok (.inr (.inr ((false, ())))))
 (.tt <| .lt (w64 (i1.1 + 1) : Int) fun z1 => .xD (xL z1 <| wb ∧ wc ∧ True) <| .xD (xC (xE 112 b.1 b.2.1 b.2.2.1) <| xC (xE 112 a.1 a.2.1 a.2.2.1) True) <| .ok (.inl ((z1, ())))))
 (.ok (.inr (.inr ((true, ())))))
def at9 (a : Int × List Int × List xW × Unit) (b : Int × List Int × List xW × Unit) (j : Bool × Unit) (i : (Int) × Unit) : TT wi :=
 .ite (decide (i.1 < len a.2.1))
 (.need (inb i.1 (len a.2.1)) <| .need (inb i.1 (len b.2.1)) <| .ite (gi a.2.1 i.1 0 != gi b.2.1 i.1 0)
 (.ok (.inr ((false, ()))))
 (.tt <| .lt (w64 (i.1 + 1) : Int) fun z => .xD (xL z <| wb ∧ wc ∧ True) <| .xD (xC (xE 112 b.1 b.2.1 b.2.2.1) <| xC (xE 112 a.1 a.2.1 a.2.2.1) True) <| .ok (.inl ((z, ())))))
 (.loop 2 (.tt <| .xD wC <| .xD (xC (xE 112 b.1 b.2.1 b.2.2.1) <| xC (xE 112 a.1 a.2.1 a.2.2.1) True) <| .ok ((0, ()))) (at8 a b j i))
def auA (a : Int × List Int × List xW × Unit) (b : Int × List Int × List xW × Unit) (j : (Bool) × Unit) : TT wk :=
 .loop 1 (.tt <| .xD wC <| .xD (xC (xE 112 b.1 b.2.1 b.2.2.1) <| xC (xE 112 a.1 a.2.1 a.2.2.1) True) <| .ok ((0, ()))) (at9 a b j)
def aqL (a : Int × List Int × List xW × Unit) (b : Int × List Int × List xW × Unit) : TT wk :=
 .join 0 (ι := (Bool) × Unit) (.ite (a.1 != b.1)
 (.ok (.inr ((false, ()))))
 (.ite (len a.2.1 != len b.2.1)
 (.ok (.inr ((false, ()))))
 (.ite (len a.2.2.1 != len b.2.2.1)
 (.ok (.inr ((false, ()))))
 (.tt <| .xD (xL false <| wb ∧ wc ∧ True) <| .xD (xC (xE 112 b.1 b.2.1 b.2.2.1) <| xC (xE 112 a.1 a.2.1 a.2.2.1) True) <| .ok (.inl ((false, ()))))))) (auA a b)
end
theorem avW (n a b : Int) (y) (h : abZ (n, a, b, ()) = some y) : (alE n a b).toO = some y := by
 injection h with h
 subst h
 unfold alE
 dsimp only
 by_cases c : a ≤ n
 ·refine uT (zl c) ?_
  rw [ab7]
  by_cases d : n ≤ b
  ·rw [zl d, zl (show inR n a b from ⟨c, d⟩)]
  ·rw [zk d, zk (fun h : inR n a b => d h.2)]
 ·refine uF (zk c) ?_
  rw [ab7, zk (fun h : inR n a b => c h.1)]
theorem acP (n a b : Int) : abZ (n, a, b, ()) = some (decide (inR n a b), ()) := rfl
theorem avZ (a b : Int) (y) (h : aa8 (a, b, ()) = some y) : (alF a b).toO = some y := by
 unfold aa8 at h
 split at h
 case isFalse => cases h
 case isTrue hp =>
 injection h with h
 subst h
 obtain ⟨⟨a1, a2⟩, b1, b2⟩ := hp
 dsimp only at a1 a2 b1 b2 ⊢
 obtain ⟨m, rfl⟩ := yI (show 0 ≤ a by omega)
 obtain ⟨n, rfl⟩ := yI (show 0 ≤ b by omega)
 unfold alF
 refine uO (2, ()) rfl ?_
 refine abE (fun i : Int × Unit => ∃ k : Nat, 2 ≤ k ∧ k ≤ 50 ∧ i.1 = (k : Int) ∧ ∀ j, 2 ≤ j → j < k → ¬ (j ∣ m ∧ j ∣ n)) (fun i => ((60 : Int) - i.1).toNat) (fun _ => (!decide (Nat.gcd (m : Int).natAbs (n : Int).natAbs = 1), ())) ?_ _ ⟨2, by omega, by omega, rfl, fun j h1 h2 => by omega⟩
 rintro ⟨i, u⟩ ⟨k, h1, h1', h2, h3⟩
 dsimp only at h2
 subst h2
 simp only [aoT, xo]
 have hstop : ¬ (k ≤ m ∧ k ≤ n) → (!decide (Nat.gcd m n = 1)) = false := by
  intro hk
  refine (fun hg : Nat.gcd m n = 1 => by rw [zl hg]; rfl) ?_
  have g1 : 0 < Nat.gcd m n := Nat.gcd_pos_of_pos_left _ zc
  have g2 := Nat.gcd_dvd_left m n
  have g3 := Nat.gcd_dvd_right m n
  have g4 := Nat.le_of_dvd zc g2
  have g5 := Nat.le_of_dvd zc g3
  rcases zL 1 (Nat.gcd m n) with g6 | g6
  ·exact absurd ⟨g2, g3⟩ (h3 _ zc zc)
  ·omega
 have hdiv : ∀ z : Nat, ((Int.tmod (z : Int) (k : Int)) == 0) = decide (k ∣ z) := by
  intro z
  rw [← Int.ofNat_tmod]
  by_cases c : k ∣ z
  ·rw [zl c, Nat.mod_eq_zero_of_dvd c]; rfl
  ·rw [zk c, beq_eq_false_iff_ne]
   intro h
   exact c (Nat.dvd_of_mod_eq_zero zc)
 by_cases c1 : k ≤ m
 ·by_cases c2 : k ≤ n
  ·by_cases d1 : k ∣ m
   ·by_cases d2 : k ∣ n
    ·right
     rw [zk (fun h : Nat.gcd m n = 1 => by have := Nat.dvd_gcd d1 d2; rw [h] at this; have := Nat.le_of_dvd zc this; omega)]
     exact uT sd (uT sd (uN zc (uT (by rw [hdiv]; exact zl d1) (uN zc (uT (by rw [hdiv]; exact zl d2) rfl)))))
    ·left
     refine ⟨(((k + 1 : Nat) : Int), ()), ?_, ⟨k + 1, by omega, by omega, rfl, fun j j1 j2 => ?_⟩, by dsimp only; omega, zf⟩
     ·refine uT sd (uT sd (uN zc (uT (by rw [hdiv]; exact zl d1) (uN zc (uF (by rw [hdiv]; exact zk d2) ?_)))))
      rw [aaD (x := (k : Int) + 1) zc]; rfl
     ·rcases zL j k with hj | hj
      ·exact h3 j j1 hj
      ·obtain rfl : j = k := zc
       exact fun h => d2 h.2
   ·left
    refine ⟨(((k + 1 : Nat) : Int), ()), ?_, ⟨k + 1, by omega, by omega, rfl, fun j j1 j2 => ?_⟩, by dsimp only; omega, zf⟩
    ·refine uT sd (uT sd (uN zc (uF (by rw [hdiv]; exact zk d1) ?_)))
     rw [aaD (x := (k : Int) + 1) zc]; rfl
    ·rcases zL j k with hj | hj
     ·exact h3 j j1 hj
     ·obtain rfl : j = k := zc
      exact fun h => d1 h.1
  ·right
   rw [hstop (fun h => c2 h.2)]
   exact uT sd (uF sd rfl)
 ·right
  rw [hstop (fun h => c1 h.1)]
  exact uF sd rfl
theorem atB (s : akY) (y) (h : ag6 (s, ()) = some y) : (ajC s).toO = some y := by
 injection h with h
 subst h
 obtain ⟨till, mul, add, num, den, off, u⟩ := s
 unfold ajC
 dsimp only
 refine uC _ (acP _ _ _) ?_
 by_cases c1 : inR mul (-100000000) 100000000
 case neg => rw [zk (fun h : agX (till, mul, add, num, den, off, u) => c1 h.1)]; exact uF (zk c1) rfl
 refine uT (zl c1) (uC _ (acP _ _ _) ?_)
 by_cases c2 : inR add (-100000000) 100000000
 case neg => rw [zk (fun h : agX (till, mul, add, num, den, off, u) => c2 h.2.1)]; exact uF (zk c2) rfl
 refine uT (zl c2) (uC _ (acP _ _ _) ?_)
 by_cases c3 : inR off (-100000000) 100000000
 case neg => rw [zk (fun h : agX (till, mul, add, num, den, off, u) => c3 h.2.2.1)]; exact uF (zk c3) rfl
 refine uT (zl c3) (uC _ (acP _ _ _) ?_)
 by_cases c4 : inR num 1 36
 case neg => rw [zk (fun h : agX (till, mul, add, num, den, off, u) => c4 h.2.2.2.1)]; exact uF (zk c4) rfl
 refine uT (zl c4) (uC _ (acP _ _ _) ?_)
 by_cases c5 : inR den 1 12
 case neg => rw [zk (fun h : agX (till, mul, add, num, den, off, u) => c5 h.2.2.2.2.1)]; exact uF (zk c5) rfl
 refine uT (zl c5) (uC (!decide (Nat.gcd num.natAbs den.natAbs = 1), ()) (by unfold aa8; rw [if_pos ⟨c4, c5⟩]) ?_)
 rw [ab7]
 by_cases c6 : Nat.gcd num.natAbs den.natAbs = 1
 ·rw [zl (show agX (till, mul, add, num, den, off, u) from ⟨c1, c2, c3, c4, c5, c6⟩), zl c6]; rfl
 ·rw [zk (fun h : agX (till, mul, add, num, den, off, u) => c6 h.2.2.2.2.2), zk c6]; rfl
theorem avD {c : CvT} (h : shC c) : afU (c, ()) = some (decide (acV c), ()) := by unfold afU; rw [if_pos h]
theorem nT {p : Prop} [Decidable p] (h : ¬ p) : (!decide p) = true := by rw [zk h]; rfl
theorem nF {p : Prop} [Decidable p] (h : p) : (!decide p) = false := by rw [zl h]; rfl
theorem ai2 {α : Type} {p : Prop} [Decidable p] {a b : α} {c : Bool} (h : c = true ↔ p) : (if c then a else b) = if p then a else b := by
 by_cases hp : p
 ·rw [if_pos hp, if_pos (h.2 hp)]
 ·rw [if_neg hp, if_neg (fun e => hp (h.1 e))]
theorem afG {α : Type} (l : List α) (d : α) (p : α → Prop) [DecidablePred p] : (List.range l.length).all (fun k => decide (p (l.getD k d))) = true ↔ ∀ x ∈ l, p x := by
 rw [aJt l d (fun x => decide (p x)), yn]
 exact ⟨fun h x hx => of_decide_eq_true (h x hx), fun h x hx => zl (h x hx)⟩
theorem acW {α : Type} {l : List α} {k : Nat} (d : α) (h : k < l.length) : l.getD k d ∈ l := by
 have : l.getD k d = l[k] := by simp [h]
 rw [this]; exact yv h
theorem aB7 {l : List Int} (h : shL l) : adJ (l, ()) = some (af5 l, ()) := if_pos h
theorem aAs {l : List Int} (h : shL l) : ab5 (l, ()) = some (af5 l, ()) := if_pos h
theorem aBx (g : GrT) (y) (h : ah5 (g, ()) = some y) : (arO g).toO = some y := by
 unfold ah5 at h
 split at h
 case isFalse => cases h
 case isTrue hl =>
 obtain ⟨l1, l2⟩ := hl
 injection h with h
 subst h
 dsimp only at l1 l2 ⊢
 have l1' : g.1.length ≤ 1000000000000 := l1
 have l2' : g.2.2.1.length ≤ 1000000000000 := l2
 unfold arO
 refine uC (decide (inR (len g.1) 1 4), ()) rfl ?_
 by_cases c1 : inR (len g.1) 1 4
 case neg =>
  refine uT (nT c1) ?_
  rw [if_neg (fun h => c1 ⟨by have := h.1.1; rw [aaB]; omega, by have := h.1.2; rw [aaB]; omega⟩)]; rfl
 refine uF (nF c1) (uC (decide (inR g.2.1 1 4), ()) rfl ?_)
 by_cases c2 : inR g.2.1 1 4
 case neg =>
  refine uT (nT c2) ?_
  rw [if_neg (fun h => c2 h.2.1)]; rfl
 refine uF (nF c2) (uO (0, ()) rfl ?_)
 have c1' : 1 ≤ g.1.length ∧ g.1.length ≤ 4 := by obtain ⟨a, b⟩ := c1; rw [aaB] at a b; omega
 refine (abK (n := g.1.length) (bad := (100, ())) (good := (if g.2.2.1.length ≤ 4096 ∧ (g.2.2.1.length : Int) = w64 (af5 g.1 * g.2.1) ∧ ∀ v ∈ g.2.2.1, inR v 0 65535 then 0 else 100, ())) (fun k => decide (inR (g.1.getD k 0) 2 9)) (fun k hk hp => ?_) (fun k hk hp => ?_) ?_).trans ?_
 ·simp only [akJ, aaJ]
  refine uT sd (uN sd (uC (decide (inR (g.1.getD k 0) 2 9), ()) rfl (uF (nF (of_decide_eq_true hp)) (uV (uB (uV (uV ?_)))))))
  rw [apJ hk l1']; rfl
 ·simp only [akJ, aaJ]
  exact uT sd (uN sd (uC (decide (inR (g.1.getD k 0) 2 9), ()) rfl (uT (nT (of_decide_eq_false hp)) rfl)))
 ·simp only [akJ, aaJ]
  refine uF sd ?_
  by_cases d1 : g.2.2.1.length ≤ 4096
  case neg =>
   refine uT (zl (by rw [aaB]; omega)) ?_
   rw [if_neg (fun h => d1 h.1)]; rfl
  refine uF (zk (by rw [aaB]; omega)) (uC _ (aB7 l1) ?_)
  by_cases d2 : (g.2.2.1.length : Int) = w64 (af5 g.1 * g.2.1)
  case neg =>
   refine uT (yf.2 d2) ?_
   rw [if_neg (fun h => d2 h.2.1)]; rfl
  refine uF (bne_eq_false_iff_eq.2 d2) (uO (0, ()) rfl ?_)
  refine (abK (n := g.2.2.1.length) (bad := .inr (100, ())) (good := .inr (0, ())) (fun k => decide (inR (g.2.2.1.getD k 0) 0 65535)) (fun k hk hp => ?_) (fun k hk hp => ?_) ?_).trans ?_
  ·simp only [an1, aaJ]
   refine uT sd (uN sd (uC (decide (inR (g.2.2.1.getD k 0) 0 65535), ()) rfl (uF (nF (of_decide_eq_true hp)) (uV (uB (uV (uV ?_)))))))
   rw [apJ hk l2']; rfl
  ·simp only [an1, aaJ]
   exact uT sd (uN sd (uC (decide (inR (g.2.2.1.getD k 0) 0 65535), ()) rfl (uT (nT (of_decide_eq_false hp)) rfl)))
  ·exact uF sd rfl
  ·rw [ai2 (afG g.2.2.1 0 (fun v => inR v 0 65535))]
   by_cases d3 : ∀ v ∈ g.2.2.1, inR v 0 65535
   ·rw [if_pos d3, if_pos ⟨d1, d2, d3⟩]
   ·rw [if_neg d3, if_neg (fun h => d3 h.2.2)]
 ·rw [ai2 (afG g.1 0 (fun v => inR v 2 9))]
  by_cases d : ∀ v ∈ g.1, inR v 2 9
  case neg => rw [if_neg d, if_neg (fun h => d h.2.2.1)]
  rw [if_pos d]
  by_cases e : g.2.2.1.length ≤ 4096 ∧ (g.2.2.1.length : Int) = w64 (af5 g.1 * g.2.1) ∧ ∀ v ∈ g.2.2.1, inR v 0 65535
  ·rw [if_pos e, if_pos ⟨c1', c2, d, e⟩]
  ·rw [if_neg e, if_neg (fun h => e h.2.2.2)]
theorem av9 (g : GrT) (y) (h : ac0 (g, ()) = some y) : (alQ g).toO = some y := by
 unfold ac0 at h
 split at h
 case isFalse => cases h
 case isTrue hl =>
 obtain ⟨l1, l2⟩ := hl
 injection h with h
 subst h
 dsimp only at l1 l2 ⊢
 have l1' : g.1.length ≤ 1000000000000 := l1
 have l2' : g.2.2.1.length ≤ 1000000000000 := l2
 unfold alQ
 refine uC (decide (inR (len g.1) 1 4), ()) rfl ?_
 by_cases c1 : inR (len g.1) 1 4
 case neg =>
  refine uT (nT c1) ?_
  rw [zk (fun h : af2 g => c1 ⟨by have := h.1.1; rw [aaB]; omega, by have := h.1.2; rw [aaB]; omega⟩)]; rfl
 refine uF (nF c1) (uC (decide (inR g.2.1 1 4), ()) rfl ?_)
 by_cases c2 : inR g.2.1 1 4
 case neg =>
  refine uT (nT c2) ?_
  rw [zk (fun h : af2 g => c2 h.2.1)]; rfl
 refine uF (nF c2) (uO (0, ()) rfl ?_)
 have c1' : 1 ≤ g.1.length ∧ g.1.length ≤ 4 := by obtain ⟨a, b⟩ := c1; rw [aaB] at a b; omega
 refine (abK (n := g.1.length) (bad := (false, ())) (good := (decide (g.2.2.1.length ≤ 4096 ∧ (g.2.2.1.length : Int) = w64 (af5 g.1 * g.2.1) ∧ ∀ v ∈ g.2.2.1, inR v 0 65535), ())) (fun k => decide (inR (g.1.getD k 0) 2 9)) (fun k hk hp => ?_) (fun k hk hp => ?_) ?_).trans ?_
 ·simp only [agU, aaJ]
  refine uT sd (uN sd (uC (decide (inR (g.1.getD k 0) 2 9), ()) rfl (uF (nF (of_decide_eq_true hp)) (uV (uB (uV (uV ?_)))))))
  rw [apJ hk l1']; rfl
 ·simp only [agU, aaJ]
  exact uT sd (uN sd (uC (decide (inR (g.1.getD k 0) 2 9), ()) rfl (uT (nT (of_decide_eq_false hp)) rfl)))
 ·simp only [agU, aaJ]
  refine uF sd (uC _ (aAs l1) ?_)
  by_cases d2 : (g.2.2.1.length : Int) = w64 (af5 g.1 * g.2.1)
  case neg =>
   refine uT (yf.2 d2) ?_
   rw [zk (fun h : _ ∧ _ ∧ _ => d2 h.2.1)]; rfl
  refine uF (bne_eq_false_iff_eq.2 d2) ?_
  by_cases d1 : g.2.2.1.length ≤ 4096
  case neg =>
   refine uT (zl (by rw [aaB]; omega)) ?_
   rw [zk (fun h : _ ∧ _ ∧ _ => d1 h.1)]; rfl
  refine uF (zk (by rw [aaB]; omega)) (uO (0, ()) rfl ?_)
  refine (abK (n := g.2.2.1.length) (bad := .inr (false, ())) (good := .inr (true, ())) (fun k => decide (inR (g.2.2.1.getD k 0) 0 65535)) (fun k hk hp => ?_) (fun k hk hp => ?_) ?_).trans ?_
  ·simp only [ajM, aaJ]
   refine uT sd (uN sd (uC (decide (inR (g.2.2.1.getD k 0) 0 65535), ()) rfl (uF (nF (of_decide_eq_true hp)) (uV (uB (uV (uV ?_)))))))
   rw [apJ hk l2']; rfl
  ·simp only [ajM, aaJ]
   exact uT sd (uN sd (uC (decide (inR (g.2.2.1.getD k 0) 0 65535), ()) rfl (uT (nT (of_decide_eq_false hp)) rfl)))
  ·exact uF sd rfl
  ·rw [ai2 (afG g.2.2.1 0 (fun v => inR v 0 65535))]
   by_cases d3 : ∀ v ∈ g.2.2.1, inR v 0 65535
   ·rw [if_pos d3, zl (show _ ∧ _ ∧ _ from ⟨d1, d2, d3⟩)]
   ·rw [if_neg d3, zk (fun h : _ ∧ _ ∧ _ => d3 h.2.2)]
 ·rw [ai2 (afG g.1 0 (fun v => inR v 2 9))]
  by_cases d : ∀ v ∈ g.1, inR v 2 9
  case neg => rw [if_neg d, zk (fun h : af2 g => d h.2.2.1)]
  rw [if_pos d]
  by_cases e : g.2.2.1.length ≤ 4096 ∧ (g.2.2.1.length : Int) = w64 (af5 g.1 * g.2.1) ∧ ∀ v ∈ g.2.2.1, inR v 0 65535
  ·rw [zl e, zl (show af2 g from ⟨c1', c2, d, e⟩)]
  ·rw [zk e, zk (fun h : af2 g => e h.2.2.2)]
theorem aEj (n : Int) (y) (h : am0 (n, ()) = some y) : (awV n).toO = some y := by
 injection h with h
 subst h
 unfold awV
 by_cases c : n < -1000000000
 ·refine uT (zl c) ?_
  rw [zk (fun h : aaS n => by have := h.1; omega)]; rfl
 ·refine uF (zk c) ?_
  have e : decide (n > 1000000000) = !decide (aaS n) := by
   by_cases d : n > 1000000000
   ·rw [zl d, zk (fun h : aaS n => by have := h.2; omega)]; rfl
   ·rw [zk d, zl (show aaS n from ⟨by omega, by omega⟩)]; rfl
  rw [e]; rfl
theorem an9 (l : List CvT) (y) (h : ac1 (l, ()) = some y) : (agH l).toO = some y := by
 unfold ac1 at h
 split at h
 case isFalse => cases h
 case isTrue hl =>
 injection h with h
 subst h
 dsimp only at hl ⊢
 have hl' : l.length ≤ 1000000000000 := hl
 unfold agH
 by_cases c1 : l.length < 1
 ·refine uT (zl (by rw [aaB]; omega)) ?_
  rw [zk (fun h : ai1 l => by have := h.1.1; omega)]; rfl
 refine uF (zk (by rw [aaB]; omega)) ?_
 by_cases c2 : l.length > 4
 ·refine uT (zl (by rw [aaB]; omega)) ?_
  rw [zk (fun h : ai1 l => by have := h.1.2; omega)]; rfl
 refine uF (zk (by rw [aaB]; omega)) (uV (uV (uV (uV (uO (0, ()) rfl ?_)))))
 refine (abK (n := l.length) (bad := (false, ())) (good := (true, ())) (fun k => decide (acV (l.getD k (0, [], [], ())))) (fun k hk hp => ?_) (fun k hk hp => ?_) ?_).trans ?_
 ·simp only [afE, aaJ]
  refine uT sd (uN sd (uV (uV (uC (0, ()) (by have := aAv (l.getD k (0, [], [], ())); rw [if_pos (of_decide_eq_true hp)] at this; exact this) (uF rfl (uV (uB (uV (uV ?_)))))))))
  rw [apJ hk hl']; rfl
 ·simp only [afE, aaJ]
  refine uT sd (uN sd (uV (uV (uC (90, ()) (by have := aAv (l.getD k (0, [], [], ())); rw [if_neg (of_decide_eq_false hp)] at this; exact this) (uT rfl ?_)))))
  rw [zl (show ((k : Int) ≥ 0) by omega)]; rfl
 ·exact uF sd rfl
 ·rw [ai2 (afG l (0, [], [], ()) acV)]
  by_cases d : ∀ c ∈ l, acV c
  ·rw [if_pos d, zl (show ai1 l from ⟨⟨by omega, by omega⟩, d⟩)]
  ·rw [if_neg d, zk (fun h : ai1 l => d h.2)]
theorem atC (l : List CvT) (y) (h : acK (l, ()) = some y) : (ajH l).toO = some y := by
 unfold acK at h
 split at h
 case isFalse => cases h
 case isTrue hl =>
 obtain ⟨hl, hc⟩ := hl
 injection h with h
 subst h
 dsimp only at hl hc ⊢
 have hl' : l.length ≤ 1000000000000 := hl
 unfold ajH
 refine uO (0, ()) rfl ?_
 refine (abK (n := l.length) (bad := (false, ())) (good := (decide (1 ≤ l.length ∧ l.length ≤ 4), ())) (fun k => decide (acV (l.getD k (0, [], [], ())))) (fun k hk hp => ?_) (fun k hk hp => ?_) ?_).trans ?_
 ·simp only [afJ, aaJ]
  refine uT sd (uN sd (uC _ (avD (hc _ (acW _ hk))) (uF (nF (of_decide_eq_true hp)) (uV (uB (uV (uV ?_)))))))
  rw [apJ hk hl']; rfl
 ·simp only [afJ, aaJ]
  exact uT sd (uN sd (uC _ (avD (hc _ (acW _ hk))) (uT (nT (of_decide_eq_false hp)) rfl)))
 ·simp only [afJ, aaJ]
  refine uF sd ?_
  by_cases c : 1 ≤ l.length
  ·refine uT (zl (by rw [aaB]; omega)) ?_
   have e : decide (len l ≤ 4) = decide (1 ≤ l.length ∧ l.length ≤ 4) := afH (by rw [zC, aaB]; omega)
   rw [e]; rfl
  ·refine uF (zk (by rw [aaB]; omega)) ?_
   rw [zk (fun h : _ ∧ _ => c h.1)]; rfl
 ·rw [ai2 (afG l (0, [], [], ()) acV)]
  by_cases d : ∀ c ∈ l, acV c
  ·rw [if_pos d]
   have e : decide (1 ≤ l.length ∧ l.length ≤ 4) = decide (ai1 l) := afH (by rw [zC]; exact ⟨fun h => ⟨h, d⟩, fun h => h.1⟩)
   rw [e]
  ·rw [if_neg d, zk (fun h : ai1 l => d h.2)]
theorem av2 (l : List Int) (y) (h : aeV (l, ()) = some y) : (alI l).toO = some y := by
 unfold aeV at h
 split at h
 case isFalse => cases h
 case isTrue hl =>
 injection h with h
 subst h
 dsimp only at hl ⊢
 have hl' : l.length ≤ 1000000000000 := hl
 unfold alI
 refine uO (0, ()) rfl ((abK (n := l.length) (bad := (false, ())) (good := (true, ())) (fun k => decide (aaS (l.getD k 0))) (fun k hk hp => ?_) (fun k hk hp => ?_) ?_).trans ?_)
 ·obtain ⟨a, b⟩ : aaS (l.getD k 0) := of_decide_eq_true hp
  simp only [ajG, aaJ]
  refine uT sd (uN sd (uF sd (uN sd (uF sd (uV (uB (uV (uV ?_))))))))
  rw [apJ hk hl']; rfl
 ·have hp : ¬ aaS (l.getD k 0) := of_decide_eq_false hp
  simp only [ajG, aaJ]
  refine uT sd (uN sd ?_)
  by_cases a : l.getD k 0 < -1000000000
  ·exact uT (zl a) rfl
  ·exact uF (zk a) (uN sd (uT (zl (by unfold aaS inR at hp; omega)) rfl))
 ·exact uF sd rfl
 ·rw [ai2 (afG l 0 aaS)]
  by_cases d : ∀ c ∈ l, aaS c
  ·rw [if_pos d, zl d]
  ·rw [if_neg d, zk d]
theorem ayB (g : GrT) (y) (h : ah0 (g, ()) = some y) : (anL g).toO = some y := by
 injection h with h
 subst h
 unfold anL
 by_cases c1 : g.1 = []
 case neg =>
  refine uF (beq_eq_false_iff_ne.2 (fun h => c1 ?_)) ?_
  ·rw [aaB] at h; exact yY.1 zc
  ·rw [zk (fun h : atT g => c1 h.1)]; rfl
 refine uT (zz.2 (by rw [aaB, c1]; rfl)) ?_
 by_cases c2 : g.2.1 = 0
 case neg =>
  refine uF (beq_eq_false_iff_ne.2 c2) ?_
  rw [zk (fun h : atT g => c2 h.2.1)]; rfl
 refine uT (zz.2 c2) ?_
 have e : (len g.2.2.1 == 0) = decide (atT g) := (afH (by
  rw [zz, aaB]
  exact ⟨fun h => by rw [h.2.2]; rfl, fun h => ⟨c1, c2, yY.1 zc⟩⟩)).symm
 rw [e]; rfl
theorem amB {l : List Int} (h : shL l) : aeV (l, ()) = some (decide (∀ n ∈ l, aaS n), ()) := if_pos h
theorem akT (n : Int) : am0 (n, ()) = some (!decide (aaS n), ()) := rfl
theorem an8 (rows : List (List Int)) (off : List Int) (y) (h : acI (rows, off, ()) = some y) : (agG rows off).toO = some y := by
 unfold acI at h
 split at h
 case isFalse => cases h
 case isTrue hl =>
 obtain ⟨⟨l1, l2⟩, l3⟩ := hl
 injection h with h
 subst h
 dsimp only at l1 l2 l3 ⊢
 have l1' : rows.length ≤ 1000000000000 := l1
 have l3' : off.length ≤ 1000000000000 := l3
 unfold agG
 have g0 : gi rows 0 [] = rows.getD 0 [] := aaJ rows 0 []
 by_cases c1 : rows.length < 1
 ·refine uT (zl (by rw [aaB]; omega)) ?_
  rw [zk (fun h : ad1 rows off => by have := h.1.1; omega)]; rfl
 refine uF (zk (by rw [aaB]; omega)) ?_
 by_cases c2 : rows.length > 4
 ·refine uT (zl (by rw [aaB]; omega)) ?_
  rw [zk (fun h : ad1 rows off => by have := h.1.2; omega)]; rfl
 refine uF (zk (by rw [aaB]; omega)) ?_
 by_cases c3 : off.length = rows.length
 case neg =>
  refine uT (yf.2 (by rw [aaB, aaB]; omega)) ?_
  rw [zk (fun h : ad1 rows off => c3 h.2.1)]; rfl
 refine uF (bne_eq_false_iff_eq.2 (by rw [aaB, aaB]; omega)) (uN ⟨xk _, by rw [aaB]; omega⟩ ?_)
 by_cases c4 : (rows.getD 0 []).length < 1
 ·refine uT (zl (by rw [g0, aaB]; omega)) ?_
  rw [zk (fun h : ad1 rows off => by have := h.2.2.1.1; omega)]; rfl
 refine uF (zk (by rw [g0, aaB]; omega)) ?_
 by_cases c5 : (rows.getD 0 []).length > 4
 ·refine uT (zl (by rw [g0, aaB]; omega)) ?_
  rw [zk (fun h : ad1 rows off => by have := h.2.2.1.2; omega)]; rfl
 refine uF (zk (by rw [g0, aaB]; omega)) (uO (0, ()) rfl ?_)
 refine (abK (n := rows.length) (bad := (false, ())) (good := (decide (∀ n ∈ off, aaS n), ())) (fun k => decide ((rows.getD k []).length = (rows.getD 0 []).length ∧ ∀ n ∈ rows.getD k [], aaS n)) (fun k hk hp => ?_) (fun k hk hp => ?_) ?_).trans ?_
 ·obtain ⟨p1, p2⟩ : _ ∧ _ := of_decide_eq_true hp
  have lk : (rows.getD k []).length ≤ 1000000000000 := l2 _ (acW _ hk)
  simp only [adG, aaJ, g0]
  refine uT sd (uN sd (uF (bne_eq_false_iff_eq.2 (by rw [aaB, aaB]; omega)) (uV (uV (uV (uV (uO (0, ()) rfl ?_)))))))
  refine (abK (n := (rows.getD k []).length) (bad := .inr (false, ())) (good := .inl (((k + 1 : Nat) : Int), ())) (fun j => decide (aaS ((rows.getD k []).getD j 0))) (fun j hj hq => ?_) (fun j hj hq => ?_) ?_).trans ?_
  ·simp only [abL, aaJ]
   refine uT sd (uN sd (uC _ (akT _) (uF (nF (of_decide_eq_true hq)) (uV (uB (uV (uV ?_)))))))
   rw [apJ hj lk]; rfl
  ·simp only [abL, aaJ]
   exact uT sd (uN sd (uC _ (akT _) (uT (nT (of_decide_eq_false hq)) (uT sd rfl))))
  ·simp only [abL, aaJ]
   refine uF sd (uV (uB (uV (uV ?_))))
   rw [apJ hk l1']; rfl
  ·rw [ai2 (afG (rows.getD k []) 0 aaS), if_pos p2]
 ·have hp := of_decide_eq_false hp
  have lk : (rows.getD k []).length ≤ 1000000000000 := l2 _ (acW _ hk)
  simp only [adG, aaJ, g0]
  by_cases p1 : (rows.getD k []).length = (rows.getD 0 []).length
  case neg => exact uT sd (uN sd (uT (yf.2 (by rw [aaB, aaB]; omega)) rfl))
  refine uT sd (uN sd (uF (bne_eq_false_iff_eq.2 (by rw [aaB, aaB]; omega)) (uV (uV (uV (uV (uO (0, ()) rfl ?_)))))))
  refine (abK (n := (rows.getD k []).length) (bad := .inr (false, ())) (good := .inl (((k + 1 : Nat) : Int), ())) (fun j => decide (aaS ((rows.getD k []).getD j 0))) (fun j hj hq => ?_) (fun j hj hq => ?_) ?_).trans ?_
  ·simp only [abL, aaJ]
   refine uT sd (uN sd (uC _ (akT _) (uF (nF (of_decide_eq_true hq)) (uV (uB (uV (uV ?_)))))))
   rw [apJ hj lk]; rfl
  ·simp only [abL, aaJ]
   exact uT sd (uN sd (uC _ (akT _) (uT (nT (of_decide_eq_false hq)) (uT sd rfl))))
  ·simp only [abL, aaJ]
   refine uF sd (uV (uB (uV (uV ?_))))
   rw [apJ hk l1']; rfl
  ·rw [ai2 (afG (rows.getD k []) 0 aaS), if_neg (fun h => hp ⟨p1, h⟩)]
 ·simp only [adG, aaJ, g0]
  refine uF sd (uV (uV (uV (uV (uO (0, ()) rfl ?_)))))
  refine (abK (n := off.length) (bad := .inr (false, ())) (good := .inr (true, ())) (fun j => decide (aaS (off.getD j 0))) (fun j hj hq => ?_) (fun j hj hq => ?_) ?_).trans ?_
  ·simp only [afD, aaJ]
   refine uT sd (uN sd (uC _ (akT _) (uF (nF (of_decide_eq_true hq)) (uV (uB (uV (uV ?_)))))))
   rw [apJ hj l3']; rfl
  ·simp only [afD, aaJ]
   refine uT sd (uN sd (uC _ (akT _) (uT (nT (of_decide_eq_false hq)) ?_)))
   rw [zl (show ((j : Int) ≥ 0) by omega)]; rfl
  ·exact uF sd rfl
  ·rw [ai2 (afG off 0 aaS)]
   by_cases d : ∀ n ∈ off, aaS n
   ·rw [if_pos d, zl d]
   ·rw [if_neg d, zk d]
 ·rw [ai2 (afG rows [] (fun r => r.length = (rows.getD 0 []).length ∧ ∀ n ∈ r, aaS n))]
  by_cases d : ∀ r ∈ rows, r.length = (rows.getD 0 []).length ∧ ∀ n ∈ r, aaS n
  case neg => rw [if_neg d, zk (fun h : ad1 rows off => d h.2.2.2.1)]
  rw [if_pos d]
  have e : decide (∀ n ∈ off, aaS n) = decide (ad1 rows off) := afH (by rw [zC]; exact ⟨fun h => ⟨⟨by omega, by omega⟩, c3, ⟨by omega, by omega⟩, d, h⟩, fun h => h.2.2.2.2⟩)
  rw [e]
theorem ax9 (x : ElT) (y) (h : aeW (x, ()) = some y) : (anK x).toO = some y := by
 unfold aeW at h
 split at h
 case isFalse => cases h
 case isTrue hl =>
 obtain ⟨-, ⟨l1, l2⟩, l3, -⟩ := hl
 injection h with h
 subst h
 dsimp only at l1 l2 l3 ⊢
 have l1' : x.2.2.1.length ≤ 1000000000000 := l1
 obtain ⟨kind, cs, rows, off, gr, pg, ci, co, u⟩ := x
 dsimp only at l1 l2 l3 l1' ⊢
 unfold anK
 dsimp only
 have g0 : gi rows 0 [] = rows.getD 0 [] := aaJ rows 0 []
 by_cases c1 : rows.length < 1
 ·refine uT (zl (by rw [aaB]; omega)) ?_
  rw [zk (fun h : ad1 rows off => by have := h.1.1; omega)]; rfl
 refine uF (zk (by rw [aaB]; omega)) ?_
 by_cases c2 : rows.length > 4
 ·refine uT (zl (by rw [aaB]; omega)) ?_
  rw [zk (fun h : ad1 rows off => by have := h.1.2; omega)]; rfl
 refine uF (zk (by rw [aaB]; omega)) ?_
 by_cases c3 : off.length = rows.length
 case neg =>
  refine uT (yf.2 (by rw [aaB, aaB]; omega)) ?_
  rw [zk (fun h : ad1 rows off => c3 h.2.1)]; rfl
 refine uF (bne_eq_false_iff_eq.2 (by rw [aaB, aaB]; omega)) (uC _ (amB l3) ?_)
 by_cases c6 : ∀ n ∈ off, aaS n
 case neg =>
  refine uT (nT c6) ?_
  rw [zk (fun h : ad1 rows off => c6 h.2.2.2.2)]; rfl
 refine uF (nF c6) (uN ⟨xk _, by rw [aaB]; omega⟩ (uO (0, ()) rfl ?_))
 refine (abK (n := rows.length) (bad := (false, ())) (good := (decide (1 ≤ (rows.getD 0 []).length ∧ (rows.getD 0 []).length ≤ 4), ())) (fun k => decide ((rows.getD k []).length = (rows.getD 0 []).length ∧ ∀ n ∈ rows.getD k [], aaS n)) (fun k hk hp => ?_) (fun k hk hp => ?_) ?_).trans ?_
 ·obtain ⟨p1, p2⟩ : _ ∧ _ := of_decide_eq_true hp
  simp only [aiB, aaJ, g0]
  refine uT sd (uN sd (uF (bne_eq_false_iff_eq.2 (by rw [aaB, aaB]; omega)) (uN sd (uC _ (amB (l2 _ (acW _ hk))) (uF (nF p2) (uV (uB (uV (uV ?_)))))))))
  rw [apJ hk l1']; rfl
 ·have hp := of_decide_eq_false hp
  simp only [aiB, aaJ, g0]
  by_cases p1 : (rows.getD k []).length = (rows.getD 0 []).length
  case neg => exact uT sd (uN sd (uT (yf.2 (by rw [aaB, aaB]; omega)) rfl))
  exact uT sd (uN sd (uF (bne_eq_false_iff_eq.2 (by rw [aaB, aaB]; omega)) (uN sd (uC _ (amB (l2 _ (acW _ hk))) (uT (nT (fun h => hp ⟨p1, h⟩)) rfl)))))
 ·simp only [aiB, aaJ, g0]
  refine uF sd ?_
  by_cases c : 1 ≤ (rows.getD 0 []).length
  ·refine uT (zl (by rw [aaB]; omega)) ?_
   have e : decide (len (rows.getD 0 []) ≤ 4) = decide (1 ≤ (rows.getD 0 []).length ∧ (rows.getD 0 []).length ≤ 4) := afH (by rw [zC, aaB]; omega)
   rw [e]; rfl
  ·refine uF (zk (by rw [aaB]; omega)) ?_
   rw [zk (fun h : _ ∧ _ => c h.1)]; rfl
 ·rw [ai2 (afG rows [] (fun r => r.length = (rows.getD 0 []).length ∧ ∀ n ∈ r, aaS n))]
  by_cases d : ∀ r ∈ rows, r.length = (rows.getD 0 []).length ∧ ∀ n ∈ r, aaS n
  case neg => rw [if_neg d, zk (fun h : ad1 rows off => d h.2.2.2.1)]
  rw [if_pos d]
  have e : decide (1 ≤ (rows.getD 0 []).length ∧ (rows.getD 0 []).length ≤ 4) = decide (ad1 rows off) := afH (by rw [zC]; exact ⟨fun h => ⟨⟨by omega, by omega⟩, c3, h, d, c6⟩, fun h => h.2.2.1⟩)
  rw [e]
theorem aM0 {α : Type} {l : List α} : (len l == 0) = true ↔ l = [] := by rw [zz, aaB]; exact ⟨fun h => yY.1 zc, fun h => by rw [h]; rfl⟩
theorem amO {α : Type} {l : List α} : len l = 0 ↔ l = [] := by rw [aaB]; exact ⟨fun h => yY.1 zc, fun h => by rw [h]; rfl⟩
theorem asZ {l : List CvT} (h : shL l) : ac1 (l, ()) = some (decide (ai1 l), ()) := if_pos h
theorem asY {r : List (List Int)} {o : List Int} (h : (shL r ∧ ∀ x ∈ r, shL x) ∧ shL o) : acI (r, o, ()) = some (decide (ad1 r o), ()) := if_pos h
theorem aHI {g : GrT} (h : shG g) : ah5 ((g.1, g.2.1, g.2.2.1, ()), ()) = some (if af2 g then 0 else 100, ()) := if_pos h
theorem aEK {p : List OpT} (i o : Int) (h : shL p) : afW (p, i, o, ()) = some (if (aeB p i o).isSome then 0 else 120, ()) := if_pos h
theorem az0 (x : ElT) (y) (h : afY (x, ()) = some y) : (aoA x).toO = some y := by
 unfold afY at h
 split at h
 case isFalse => cases h
 case isTrue hl =>
 obtain ⟨⟨a1, -⟩, a2, a3, a4, a5⟩ := hl
 injection h with h
 subst h
 dsimp only at a1 a2 a3 a4 a5 ⊢
 unfold aoA aiO aiP aiQ aiR
 simp only [asZ a1, asY ⟨a2, a3⟩, aHI a4, aEK _ _ a5, adZ, ab7, zz, amO, ite_self]
 have k1 : x.1 = 1 ∨ x.1 = 2 ∨ x.1 = 3 ∨ x.1 = 4 ∨ (x.1 ≠ 1 ∧ x.1 ≠ 2 ∧ x.1 ≠ 3 ∧ x.1 ≠ 4) := zc
 unfold abM aIP atT aIO
 rcases k1 with k | k | k | k | ⟨e1, e2, e3, e4⟩
 ·simp only [k, show ¬ (1 : Int) = 2 by decide, show ¬ (1 : Int) = 3 by decide, show ¬ (1 : Int) = 4 by decide, if_true, if_false, ite_self, true_and, false_and, or_false, false_or]
  repeat' split
  all_goals first
   | (simp_all; done)
   | (refine uC _ rfl ?_; simp_all [adZ, ab7])
 ·simp only [k, show ¬ (2 : Int) = 1 by decide, show ¬ (2 : Int) = 3 by decide, show ¬ (2 : Int) = 4 by decide, if_true, if_false, ite_self, true_and, false_and, or_false, false_or]
  repeat' split
  all_goals first
   | (simp_all; done)
   | (refine uC _ rfl ?_; simp_all [adZ, ab7])
 ·simp only [k, show ¬ (3 : Int) = 1 by decide, show ¬ (3 : Int) = 2 by decide, show ¬ (3 : Int) = 4 by decide, if_true, if_false, ite_self, true_and, false_and, or_false, false_or]
  repeat' split
  all_goals first
   | (simp_all; done)
   | (refine uC _ rfl ?_; simp_all [adZ, ab7])
 ·simp only [k, show ¬ (4 : Int) = 1 by decide, show ¬ (4 : Int) = 2 by decide, show ¬ (4 : Int) = 3 by decide, if_true, if_false, ite_self, true_and, false_and, or_false, false_or]
  repeat' split
  all_goals first
   | (simp_all; done)
   | (refine uC _ rfl ?_; simp_all [adZ, ab7])
 ·simp only [e1, e2, e3, e4, if_false, ite_self, false_and, or_false]
set_option maxRecDepth 100000
open Go Go.Vg Go.Proofs
noncomputable section
abbrev DTl (d : Int × List Int × List (Int × Int × Int × Int × Int × Int × Unit) × Bool × Bool × Unit) : Prop := Qq true ∧ (Qq (112 : TypeId) ∧ Qq (0 : Int) ∧ True ∧ True ∧ True) ∧ Qq true ∧ (Qq (28 : TypeId) ∧ Qq d.1 ∧ Qq d.2.1 ∧ Qq d.2.2.1 ∧ Qq d.2.2.2.1 ∧ Qq d.2.2.2.2.1 ∧ True) ∧ Qq true ∧ True
abbrev gP (d : Int × List Int × List (Int × Int × Int × Int × Int × Int × Unit) × Bool × Bool × Unit) (i : Int) := gi d.2.2.1 i (0, 0, 0, 0, 0, 0, ())
def aAP : LTab := [(92, 7, 4100, ⟨0, Bool × (List Int) × Unit, .appN (.c 3 1) 4 3 xX <| .nil, [3, 2, 1], [3, 1, 0], 1⟩), (92, 58, 5124, ⟨1, (Int) × Bool × (List Int) × Unit, .dat (.s 4) xX <| .appN (.c 3 1) 5 3 xX <| .nil, [3, 2, 1], [3, 1, 0], 1⟩), (92, 60, 5124, ⟨2, Bool × (List Int) × Unit, .appN (.c 3 1) 5 3 xX <| .nil, [3, 2, 1], [3, 1, 0], 1⟩), (92, 4014, 19459, ⟨3, (Int) × (Int) × (List Int) × Unit, .dat (.s 7) xX <| .dat (.s 6) xX <| .row 5 xX <| .nil, [5, 3, 2], [5, 3, 1, 0], 0⟩), (92, 60, 5123, ⟨4, (List Int) × Unit, .app (.c 3 1) 5 3 xX <| .nil, [3, 2, 1], [3, 1, 0], 1⟩)]
def af3 (i : (Int) × Bool × (List Int) × Unit) (d : Int × List Int × List xW × Bool × Bool × Unit) : TT (wu ⊕ wD) :=
 .tt <| .lt (i.2.2.1 : List Int) fun z4 => .xD wy <| .xD (xC (xS 3 z4) <| (xQ 112 (2 : Int) <| (xU 4 0 (List.length z4) true) ∧ True ∧ True) ∧ DTl d) <| .ok (.inr (.inl ((false, z4, ()))))
def ajF (d : Int × List Int × List xW × Bool × Bool × Unit) (i : (Int) × Bool × (List Int) × Unit) : TT (wu ⊕ wD) :=
 .ite (i.2.1)
 (.ite (decide (i.1 < len d.2.1))
  (.ite (decide (i.1 < 8))
   (.need (inb i.1 (len d.2.1)) <| .need (1 * 8 ≤ 140737488355328) <| .tt <| .lt (w64 (i.1 + 1) : Int) fun z => .lt ([w64 (gi d.2.1 i.1 0)] : List Int) fun z1 => .xD (xL z <| wr ∧ wb ∧ wc ∧ True) <| .xD (xC (xS 3 z1) <| wY ∧ DTl d) <| .ok (.inl ((z, false, z1, ()))))
   (.tt <| .xD wy <| .xD (wF ∧ DTl d) <| .ok (.inr (.inl ((true, [], ()))))))
  (.tt <| .xD wy <| .xD (wF ∧ DTl d) <| .ok (.inr (.inl ((true, [], ()))))))
 (.ite (decide (i.1 < len d.2.1))
  (.ite (decide (i.1 < 8))
   (.need (inb i.1 (len d.2.1)) <| .need ((List.length i.2.2.1 + 1) * 8 ≤ 140737488355328) <| .tt <| .lt (w64 (i.1 + 1) : Int) fun z2 => .lt (List.take (List.length i.2.2.1) i.2.2.1 ++ [w64 (gi d.2.1 i.1 0)] : List Int) fun z3 => .xD (xL z2 <| wr ∧ wb ∧ wc ∧ True) <| .need ((((3 : TypeId) = 3) ∧ ((z3 : List Int) = z3)) ∧ (true = true) ∧ (((112 : TypeId) = 112) ∧ (((2 : Int) = 2) ∧ ((((5) = (5)) ∧ (((0) = (0)) ∧ ((List.length i.2.2.1 + 1 = List.length z3) ∧ ((true) = (true))))) ∧ wq))) ∧ (true = true) ∧ (((112 : TypeId) = 112) ∧ (((0 : Int) = 0) ∧ wM)) ∧ (true = true) ∧ (((28 : TypeId) = 28) ∧ (((d.1 : Int) = d.1) ∧ (((d.2.1 : List Int) = d.2.1) ∧ (((d.2.2.1 : List xW) = d.2.2.1) ∧ (((d.2.2.2.1) = (d.2.2.2.1)) ∧ (((d.2.2.2.2.1) = (d.2.2.2.2.1)) ∧ True)))))) ∧ (true = true) ∧ True) <| .ok (.inl ((z2, false, z3, ()))))
   (af3 i d))
  (af3 i d))
def agS (d : Int × List Int × List xW × Bool × Bool × Unit) (j : Bool × List Int × Unit) (i1 : Bool × List Int × Unit) (i2 : (Int) × (Int) × (List Int) × Unit) : TT (wP ⊕ wD) :=
 .ite (decide (i2.1 < len i1.2.1))
 (.need (inb i2.1 (len i1.2.1)) <| .need (w64 (Int.tdiv 65535 (len i1.2.1)) ≠ 0) <| .need (inb i2.1 (len i1.2.1)) <| .tt <| .lt (w64 (i2.1 + 1) : Int) fun z9 => .lt (w64 (w64 (i2.2.1 + 1) + Int.tmod (List.getD i2.2.2.1 (0 + Int.toNat i2.1) 0) (w64 (Int.tdiv 65535 (len i1.2.1)))) : Int) fun z10 => .lt (List.set i2.2.2.1 (0 + Int.toNat i2.1) (w64 (z10 - 1)) : List Int) fun z11 => .xD (xI z10 z9 (w64 (Int.tdiv 65535 (len i1.2.1))) <| wr ∧ wb ∧ True) <| .xD (xC (xS 3 z11) <| (xQ 112 (2 : Int) <| (xU 5 0 (List.length i1.2.1) true) ∧ True ∧ True) ∧ DTl d) <| .ok (.inl ((z9, z10, z11, ()))))
 (.ok (.inr (.inr (((2, List.take (List.length i1.2.1) i2.2.2.1, [], ()), ())))))
def ajE (d : Int × List Int × List xW × Bool × Bool × Unit) (j : Bool × List Int × Unit) (i1 : Bool × (List Int) × Unit) : TT wD :=
 .ite (i1.1)
 (.triv (1 * 8 ≤ 140737488355328) zd <| .tt <| .lt ([w64 (65535 * (↑0 : Int))] : List Int) fun z6 => .xD wy <| .xD (xC (xS 3 z6) <| wY ∧ DTl d) <| .ok (.inl ((false, z6, ()))))
 (.ite (decide (len i1.2.1 < 2))
 (.need ((List.length i1.2.1 + 1) * 8 ≤ 140737488355328) <| .tt <| .lt (List.take (List.length i1.2.1) i1.2.1 ++ [w64 (65535 * len i1.2.1)] : List Int) fun z7 => .xD wy <| .need ((((3 : TypeId) = 3) ∧ ((z7 : List Int) = z7)) ∧ (true = true) ∧ (((112 : TypeId) = 112) ∧ (((2 : Int) = 2) ∧ ((((5) = (5)) ∧ (((0) = (0)) ∧ ((List.length i1.2.1 + 1 = List.length z7) ∧ ((true) = (true))))) ∧ wq))) ∧ (true = true) ∧ (((112 : TypeId) = 112) ∧ (((0 : Int) = 0) ∧ (True ∧ wq))) ∧ (true = true) ∧ (((28 : TypeId) = 28) ∧ (((d.1 : Int) = d.1) ∧ (((d.2.1 : List Int) = d.2.1) ∧ (((d.2.2.1 : List xW) = d.2.2.1) ∧ (((d.2.2.2.1) = (d.2.2.2.1)) ∧ (((d.2.2.2.2.1) = (d.2.2.2.2.1)) ∧ True)))))) ∧ (true = true) ∧ True) <| .ok (.inl ((false, z7, ()))))
 (.ite (d.2.2.2.2.1)
 (.need (len i1.2.1 ≠ 0) <| .loop 3 (.tt <| .lt (i1.2.1 : List Int) fun z8 => .xD (xI (0 : Int) (0 : Int) (w64 (Int.tdiv 65535 (len z8))) <| wr ∧ wb ∧ True) <| .xD (xC (xS 3 z8) <| (xQ 112 (2 : Int) <| (xU 5 0 (List.length z8) true) ∧ True ∧ True) ∧ DTl d) <| .ok ((0, 0, z8, ()))) (agS d j i1))
 (.ok (.inr (((2, List.take (List.length i1.2.1) i1.2.1, [], ()), ()))))))
def agR (d : Int × List Int × List xW × Bool × Bool × Unit) (j : Bool × List Int × Unit) (i3 : List Int × Unit) (i4 : (Int) × (Int) × (List Int) × Unit) : TT (wP ⊕ (((List Int) × Unit) ⊕ wQ)) :=
 .ite (decide (i4.1 < len i3.1))
 (.need (inb i4.1 (len i3.1)) <| .need (w64 (Int.tdiv 65535 (len i3.1)) ≠ 0) <| .need (inb i4.1 (len i3.1)) <| .tt <| .lt (w64 (i4.1 + 1) : Int) fun z14 => .lt (w64 (w64 (i4.2.1 + 1) + Int.tmod (List.getD i4.2.2.1 (0 + Int.toNat i4.1) 0) (w64 (Int.tdiv 65535 (len i3.1)))) : Int) fun z15 => .lt (List.set i4.2.2.1 (0 + Int.toNat i4.1) (w64 (z15 - 1)) : List Int) fun z16 => .xD (xI z15 z14 (w64 (Int.tdiv 65535 (len i3.1))) <| wr ∧ wb ∧ True) <| .xD (xC (xS 3 z16) <| (xQ 112 (2 : Int) <| (xU 5 0 (List.length i3.1) true) ∧ True ∧ True) ∧ DTl d) <| .ok (.inl ((z14, z15, z16, ()))))
 (.ok (.inr (.inr (((2, List.take (List.length i3.1) i4.2.2.1, [], ()), ())))))
def ajD (d : Int × List Int × List xW × Bool × Bool × Unit) (j : Bool × List Int × Unit) (i3 : (List Int) × Unit) : TT (((List Int) × Unit) ⊕ wQ) :=
 .ite (decide (len i3.1 < 2))
 (.need ((List.length i3.1 + 1) * 8 ≤ 140737488355328) <| .tt <| .lt (List.take (List.length i3.1) i3.1 ++ [w64 (65535 * len i3.1)] : List Int) fun z13 => .xD wy <| .need ((((3 : TypeId) = 3) ∧ ((z13 : List Int) = z13)) ∧ (true = true) ∧ (((112 : TypeId) = 112) ∧ (((2 : Int) = 2) ∧ ((((5) = (5)) ∧ (((0) = (0)) ∧ ((List.length i3.1 + 1 = List.length z13) ∧ ((true) = (true))))) ∧ wq))) ∧ (true = true) ∧ (((112 : TypeId) = 112) ∧ (((0 : Int) = 0) ∧ (True ∧ wq))) ∧ (true = true) ∧ (((28 : TypeId) = 28) ∧ (((d.1 : Int) = d.1) ∧ (((d.2.1 : List Int) = d.2.1) ∧ (((d.2.2.1 : List xW) = d.2.2.1) ∧ (((d.2.2.2.1) = (d.2.2.2.1)) ∧ (((d.2.2.2.2.1) = (d.2.2.2.2.1)) ∧ True)))))) ∧ (true = true) ∧ True) <| .ok (.inl ((z13, ()))))
 (.ite (d.2.2.2.2.1)
 (.need (len i3.1 ≠ 0) <| .loop 3 (.tt <| .xD (xI (0 : Int) (0 : Int) (w64 (Int.tdiv 65535 (len i3.1))) <| wr ∧ wb ∧ True) <| .xD (xC (xS 3 i3.1) <| (xQ 112 (2 : Int) <| (xU 5 0 (List.length i3.1) true) ∧ True ∧ True) ∧ DTl d) <| .ok ((0, 0, i3.1, ()))) (agR d j i3))
 (.ok (.inr (((2, List.take (List.length i3.1) i3.1, [], ()), ())))))
def agT (d : Int × List Int × List xW × Bool × Bool × Unit) (j : Bool × (List Int) × Unit) : TT wQ :=
 .ite (j.1)
 (.loop 2 (.tt <| .xD wy <| .xD (wF ∧ DTl d) <| .ok ((true, [], ()))) (ajE d j))
 (.loop 4 (.tt <| .lt (j.2.1 : List Int) fun z12 => .xD wy <| .xD (xC (xS 3 z12) <| (xQ 112 (2 : Int) <| (xU 5 0 (List.length z12) true) ∧ True ∧ True) ∧ DTl d) <| .ok ((z12, ()))) (ajD d j))
def ah9 (d : Int × List Int × List xW × Bool × Bool × Unit) : TT wQ :=
 .join 0 (ι := Bool × (List Int) × Unit) (.loop 1 (.tt <| .xD (xL (0 : Int) <| wr ∧ wb ∧ wc ∧ True) <| .xD (wF ∧ DTl d) <| .ok ((0, true, [], ()))) (ajF d)) (agT d)
def avY : LTab := [(91, 250, 11268, ⟨0, (Int) × (Int) × Bool × (List xW) × Unit, .dat (.s 6) xX <| .dat (.s 5) xX <| .appN (.c 3 2) 11 171 (Ty.pair xX (Ty.pair xX (Ty.pair xX (Ty.pair xX wl)))) <| .nil, [4, 3, 2, 1], [3, 1, 0], 1⟩)]
def aeD (d : Int × List Int × List xW × Bool × Bool × Unit) : TT wZ :=
 .ite (d.2.2.2.2.1)
 (.triv (asT Int 0 ≤ 1 ∧ 1 ≤ (↑1 : Int)) zd <| .triv (inb (w64 (1 - 1)) (↑1 : Int)) zd <| .ok (.inr (((3, [], List.take 1 (List.set [(0, 1000000, 0, 1, 1, 0, ())] (0 + Int.toNat (w64 (1 - 1))) (1000000, (List.getD ([(0, 1000000, 0, 1, 1, 0, ())]) (0 + Int.toNat (w64 (1 - 1))) (0, 0, 0, 0, 0, 0, ())).2)), ()), ()))))
 (.triv (inb (w64 (1 - 1)) (↑1 : Int)) zd <| .ok (.inr (((3, [], List.take 1 (List.set [(0, 1000000, 0, 1, 1, 0, ())] (0 + Int.toNat (w64 (1 - 1))) (1000000, (List.getD ([(0, 1000000, 0, 1, 1, 0, ())]) (0 + Int.toNat (w64 (1 - 1))) (0, 0, 0, 0, 0, 0, ())).2)), ()), ()))))
def ahC (d : Int × List Int × List xW × Bool × Bool × Unit) (i : (Int) × (Int) × Bool × (List xW) × Unit) : TT wZ :=
 .ite (i.2.2.1)
 (.ite (decide (i.1 < if 3 < len d.2.2.1 then 3 else len d.2.2.1))
  (.need (inb i.1 (len d.2.2.1)) <| .triv (asT Int 4 ≠ 0) zd <| .ite (d.2.2.2.1)
   (.triv (asT Int 4 ≠ 0) zd <| .ite (d.2.2.2.2.1)
    (.call (aa8 (w64 (1 + w64 (Int.tmod (gP d i.1).2.2.2.2.1 4)), w64 (1 + w64 (Int.tmod (gP d i.1).2.2.2.2.2.1 4)), ())) Dd1 fun y =>
     .ite (y.1)
     (.need (1 * 48 ≤ 140737488355328) <| .tt <| .lt (w64 (i.1 + 1) : Int) fun z1 => .lt (w64 (w64 (i.2.1 + 1000) + w64 (1000 * w64 (gP d i.1).1)) : Int) fun z2 => .lt ([(z2, if w64 (0 - w64 (100 * w64 (gP d i.1).2.1)) > w64 (100 * w64 (gP d i.1).2.1) then w64 (0 - w64 (100 * w64 (gP d i.1).2.1)) else w64 (100 * w64 (gP d i.1).2.1), if w64 (0 - w64 (10 * w64 (gP d i.1).2.2.1)) > w64 (10 * w64 (gP d i.1).2.2.1) then w64 (0 - w64 (10 * w64 (gP d i.1).2.2.1)) else w64 (10 * w64 (gP d i.1).2.2.1), 1, w64 (1 + w64 (Int.tmod (gP d i.1).2.2.2.2.2.1 4)), w64 (10 * w64 (gP d i.1).2.2.2.1), ())] : List xW) fun z3 => .xD (xI z2 z1 (if 3 < len d.2.2.1 then 3 else len d.2.2.1 : Int) <| wr ∧ wb ∧ wc ∧ True) <| .xD (xC (xS 171 z3) <| wn ∧ DTl d) <| .ok (.inl ((z1, z2, false, z3, ()))))
     (.need (1 * 48 ≤ 140737488355328) <| .tt <| .lt (w64 (i.1 + 1) : Int) fun z4 => .lt (w64 (w64 (i.2.1 + 1000) + w64 (1000 * w64 (gP d i.1).1)) : Int) fun z5 => .lt ([(z5, if w64 (0 - w64 (100 * w64 (gP d i.1).2.1)) > w64 (100 * w64 (gP d i.1).2.1) then w64 (0 - w64 (100 * w64 (gP d i.1).2.1)) else w64 (100 * w64 (gP d i.1).2.1), if w64 (0 - w64 (10 * w64 (gP d i.1).2.2.1)) > w64 (10 * w64 (gP d i.1).2.2.1) then w64 (0 - w64 (10 * w64 (gP d i.1).2.2.1)) else w64 (10 * w64 (gP d i.1).2.2.1), w64 (1 + w64 (Int.tmod (gP d i.1).2.2.2.2.1 4)), w64 (1 + w64 (Int.tmod (gP d i.1).2.2.2.2.2.1 4)), w64 (10 * w64 (gP d i.1).2.2.2.1), ())] : List xW) fun z6 => .xD (xI z5 z4 (if 3 < len d.2.2.1 then 3 else len d.2.2.1 : Int) <| wr ∧ wb ∧ wc ∧ True) <| .xD (xC (xS 171 z6) <| wn ∧ DTl d) <| .ok (.inl ((z4, z5, false, z6, ())))))
    (.call (aa8 (w64 (1 + w64 (Int.tmod (gP d i.1).2.2.2.2.1 4)), w64 (1 + w64 (Int.tmod (gP d i.1).2.2.2.2.2.1 4)), ())) Dd1 fun y1 =>
     .ite (y1.1)
     (.need (1 * 48 ≤ 140737488355328) <| .tt <| .lt (w64 (i.1 + 1) : Int) fun z7 => .lt (w64 (w64 (i.2.1 + 1000) + w64 (1000 * w64 (gP d i.1).1)) : Int) fun z8 => .lt ([(z8, w64 (100 * w64 (gP d i.1).2.1), w64 (10 * w64 (gP d i.1).2.2.1), 1, w64 (1 + w64 (Int.tmod (gP d i.1).2.2.2.2.2.1 4)), w64 (10 * w64 (gP d i.1).2.2.2.1), ())] : List xW) fun z9 => .xD (xI z8 z7 (if 3 < len d.2.2.1 then 3 else len d.2.2.1 : Int) <| wr ∧ wb ∧ wc ∧ True) <| .xD (xC (xS 171 z9) <| wn ∧ DTl d) <| .ok (.inl ((z7, z8, false, z9, ()))))
     (.need (1 * 48 ≤ 140737488355328) <| .tt <| .lt (w64 (i.1 + 1) : Int) fun z10 => .lt (w64 (w64 (i.2.1 + 1000) + w64 (1000 * w64 (gP d i.1).1)) : Int) fun z11 => .lt ([(z11, w64 (100 * w64 (gP d i.1).2.1), w64 (10 * w64 (gP d i.1).2.2.1), w64 (1 + w64 (Int.tmod (gP d i.1).2.2.2.2.1 4)), w64 (1 + w64 (Int.tmod (gP d i.1).2.2.2.2.2.1 4)), w64 (10 * w64 (gP d i.1).2.2.2.1), ())] : List xW) fun z12 => .xD (xI z11 z10 (if 3 < len d.2.2.1 then 3 else len d.2.2.1 : Int) <| wr ∧ wb ∧ wc ∧ True) <| .xD (xC (xS 171 z12) <| wn ∧ DTl d) <| .ok (.inl ((z10, z11, false, z12, ()))))))
   (.ite (d.2.2.2.2.1)
    (.call (aa8 (w64 (1 + w64 (Int.tmod (gP d i.1).2.2.2.2.1 4)), 1, ())) Dd1 fun y2 =>
     .ite (y2.1)
     (.need (1 * 48 ≤ 140737488355328) <| .tt <| .lt (w64 (i.1 + 1) : Int) fun z13 => .lt (w64 (w64 (i.2.1 + 1000) + w64 (1000 * w64 (gP d i.1).1)) : Int) fun z14 => .lt ([(z14, if w64 (0 - w64 (100 * w64 (gP d i.1).2.1)) > w64 (100 * w64 (gP d i.1).2.1) then w64 (0 - w64 (100 * w64 (gP d i.1).2.1)) else w64 (100 * w64 (gP d i.1).2.1), if w64 (0 - w64 (10 * w64 (gP d i.1).2.2.1)) > w64 (10 * w64 (gP d i.1).2.2.1) then w64 (0 - w64 (10 * w64 (gP d i.1).2.2.1)) else w64 (10 * w64 (gP d i.1).2.2.1), 1, 1, w64 (10 * w64 (gP d i.1).2.2.2.1), ())] : List xW) fun z15 => .xD (xI z14 z13 (if 3 < len d.2.2.1 then 3 else len d.2.2.1 : Int) <| wr ∧ wb ∧ wc ∧ True) <| .xD (xC (xS 171 z15) <| wn ∧ DTl d) <| .ok (.inl ((z13, z14, false, z15, ()))))
     (.need (1 * 48 ≤ 140737488355328) <| .tt <| .lt (w64 (i.1 + 1) : Int) fun z16 => .lt (w64 (w64 (i.2.1 + 1000) + w64 (1000 * w64 (gP d i.1).1)) : Int) fun z17 => .lt ([(z17, if w64 (0 - w64 (100 * w64 (gP d i.1).2.1)) > w64 (100 * w64 (gP d i.1).2.1) then w64 (0 - w64 (100 * w64 (gP d i.1).2.1)) else w64 (100 * w64 (gP d i.1).2.1), if w64 (0 - w64 (10 * w64 (gP d i.1).2.2.1)) > w64 (10 * w64 (gP d i.1).2.2.1) then w64 (0 - w64 (10 * w64 (gP d i.1).2.2.1)) else w64 (10 * w64 (gP d i.1).2.2.1), w64 (1 + w64 (Int.tmod (gP d i.1).2.2.2.2.1 4)), 1, w64 (10 * w64 (gP d i.1).2.2.2.1), ())] : List xW) fun z18 => .xD (xI z17 z16 (if 3 < len d.2.2.1 then 3 else len d.2.2.1 : Int) <| wr ∧ wb ∧ wc ∧ True) <| .xD (xC (xS 171 z18) <| wn ∧ DTl d) <| .ok (.inl ((z16, z17, false, z18, ())))))
    (.call (aa8 (w64 (1 + w64 (Int.tmod (gP d i.1).2.2.2.2.1 4)), 1, ())) Dd1 fun y3 =>
     .ite (y3.1)
     (.need (1 * 48 ≤ 140737488355328) <| .tt <| .lt (w64 (i.1 + 1) : Int) fun z19 => .lt (w64 (w64 (i.2.1 + 1000) + w64 (1000 * w64 (gP d i.1).1)) : Int) fun z20 => .lt ([(z20, w64 (100 * w64 (gP d i.1).2.1), w64 (10 * w64 (gP d i.1).2.2.1), 1, 1, w64 (10 * w64 (gP d i.1).2.2.2.1), ())] : List xW) fun z21 => .xD (xI z20 z19 (if 3 < len d.2.2.1 then 3 else len d.2.2.1 : Int) <| wr ∧ wb ∧ wc ∧ True) <| .xD (xC (xS 171 z21) <| wn ∧ DTl d) <| .ok (.inl ((z19, z20, false, z21, ()))))
     (.need (1 * 48 ≤ 140737488355328) <| .tt <| .lt (w64 (i.1 + 1) : Int) fun z22 => .lt (w64 (w64 (i.2.1 + 1000) + w64 (1000 * w64 (gP d i.1).1)) : Int) fun z23 => .lt ([(z23, w64 (100 * w64 (gP d i.1).2.1), w64 (10 * w64 (gP d i.1).2.2.1), w64 (1 + w64 (Int.tmod (gP d i.1).2.2.2.2.1 4)), 1, w64 (10 * w64 (gP d i.1).2.2.2.1), ())] : List xW) fun z24 => .xD (xI z23 z22 (if 3 < len d.2.2.1 then 3 else len d.2.2.1 : Int) <| wr ∧ wb ∧ wc ∧ True) <| .xD (xC (xS 171 z24) <| wn ∧ DTl d) <| .ok (.inl ((z22, z23, false, z24, ())))))))
  (.ite ((if 3 < len d.2.2.1 then 3 else len d.2.2.1) == 0)
   (aeD d)
   (.ite (d.2.2.2.2.1)
    (.need (asT Int 0 ≤ 1 ∧ 1 ≤ (↑0 : Int)) <| .bad)
    (.bad))))
 (.ite (decide (i.1 < if 3 < len d.2.2.1 then 3 else len d.2.2.1))
  (.need (inb i.1 (len d.2.2.1)) <| .triv (asT Int 4 ≠ 0) zd <| .ite (d.2.2.2.1)
   (.triv (asT Int 4 ≠ 0) zd <| .ite (d.2.2.2.2.1)
    (.call (aa8 (w64 (1 + w64 (Int.tmod (gP d i.1).2.2.2.2.1 4)), w64 (1 + w64 (Int.tmod (gP d i.1).2.2.2.2.2.1 4)), ())) Dd1 fun y4 =>
     .ite (y4.1)
     (.need ((List.length i.2.2.2.1 + 1) * 48 ≤ 140737488355328) <| .tt <| .lt (w64 (i.1 + 1) : Int) fun z25 => .lt (w64 (w64 (i.2.1 + 1000) + w64 (1000 * w64 (gP d i.1).1)) : Int) fun z26 => .lt (List.take (List.length i.2.2.2.1) i.2.2.2.1 ++ [(z26, if w64 (0 - w64 (100 * w64 (gP d i.1).2.1)) > w64 (100 * w64 (gP d i.1).2.1) then w64 (0 - w64 (100 * w64 (gP d i.1).2.1)) else w64 (100 * w64 (gP d i.1).2.1), if w64 (0 - w64 (10 * w64 (gP d i.1).2.2.1)) > w64 (10 * w64 (gP d i.1).2.2.1) then w64 (0 - w64 (10 * w64 (gP d i.1).2.2.1)) else w64 (10 * w64 (gP d i.1).2.2.1), 1, w64 (1 + w64 (Int.tmod (gP d i.1).2.2.2.2.2.1 4)), w64 (10 * w64 (gP d i.1).2.2.2.1), ())] : List xW) fun z27 => .xD (xI z26 z25 (if 3 < len d.2.2.1 then 3 else len d.2.2.1 : Int) <| wr ∧ wb ∧ wc ∧ True) <| .need ((((171 : TypeId) = 171) ∧ ((z27 : List xW) = z27)) ∧ (true = true) ∧ (((112 : TypeId) = 112) ∧ (((3 : Int) = 3) ∧ (True ∧ ((((11) = (11)) ∧ (((0) = (0)) ∧ ((List.length i.2.2.2.1 + 1 = List.length z27) ∧ ((true) = (true))))) ∧ True)))) ∧ (true = true) ∧ (((112 : TypeId) = 112) ∧ (((0 : Int) = 0) ∧ wM)) ∧ (true = true) ∧ (((28 : TypeId) = 28) ∧ (((d.1 : Int) = d.1) ∧ (((d.2.1 : List Int) = d.2.1) ∧ (((d.2.2.1 : List xW) = d.2.2.1) ∧ (((d.2.2.2.1) = (d.2.2.2.1)) ∧ (((d.2.2.2.2.1) = (d.2.2.2.2.1)) ∧ True)))))) ∧ (true = true) ∧ True) <| .ok (.inl ((z25, z26, false, z27, ()))))
     (.need ((List.length i.2.2.2.1 + 1) * 48 ≤ 140737488355328) <| .tt <| .lt (w64 (i.1 + 1) : Int) fun z28 => .lt (w64 (w64 (i.2.1 + 1000) + w64 (1000 * w64 (gP d i.1).1)) : Int) fun z29 => .lt (List.take (List.length i.2.2.2.1) i.2.2.2.1 ++ [(z29, if w64 (0 - w64 (100 * w64 (gP d i.1).2.1)) > w64 (100 * w64 (gP d i.1).2.1) then w64 (0 - w64 (100 * w64 (gP d i.1).2.1)) else w64 (100 * w64 (gP d i.1).2.1), if w64 (0 - w64 (10 * w64 (gP d i.1).2.2.1)) > w64 (10 * w64 (gP d i.1).2.2.1) then w64 (0 - w64 (10 * w64 (gP d i.1).2.2.1)) else w64 (10 * w64 (gP d i.1).2.2.1), w64 (1 + w64 (Int.tmod (gP d i.1).2.2.2.2.1 4)), w64 (1 + w64 (Int.tmod (gP d i.1).2.2.2.2.2.1 4)), w64 (10 * w64 (gP d i.1).2.2.2.1), ())] : List xW) fun z30 => .xD (xI z29 z28 (if 3 < len d.2.2.1 then 3 else len d.2.2.1 : Int) <| wr ∧ wb ∧ wc ∧ True) <| .need ((((171 : TypeId) = 171) ∧ ((z30 : List xW) = z30)) ∧ (true = true) ∧ (((112 : TypeId) = 112) ∧ (((3 : Int) = 3) ∧ (True ∧ ((((11) = (11)) ∧ (((0) = (0)) ∧ ((List.length i.2.2.2.1 + 1 = List.length z30) ∧ ((true) = (true))))) ∧ True)))) ∧ (true = true) ∧ (((112 : TypeId) = 112) ∧ (((0 : Int) = 0) ∧ wM)) ∧ (true = true) ∧ (((28 : TypeId) = 28) ∧ (((d.1 : Int) = d.1) ∧ (((d.2.1 : List Int) = d.2.1) ∧ (((d.2.2.1 : List xW) = d.2.2.1) ∧ (((d.2.2.2.1) = (d.2.2.2.1)) ∧ (((d.2.2.2.2.1) = (d.2.2.2.2.1)) ∧ True)))))) ∧ (true = true) ∧ True) <| .ok (.inl ((z28, z29, false, z30, ())))))
    (.call (aa8 (w64 (1 + w64 (Int.tmod (gP d i.1).2.2.2.2.1 4)), w64 (1 + w64 (Int.tmod (gP d i.1).2.2.2.2.2.1 4)), ())) Dd1 fun y5 =>
     .ite (y5.1)
     (.need ((List.length i.2.2.2.1 + 1) * 48 ≤ 140737488355328) <| .tt <| .lt (w64 (i.1 + 1) : Int) fun z31 => .lt (w64 (w64 (i.2.1 + 1000) + w64 (1000 * w64 (gP d i.1).1)) : Int) fun z32 => .lt (List.take (List.length i.2.2.2.1) i.2.2.2.1 ++ [(z32, w64 (100 * w64 (gP d i.1).2.1), w64 (10 * w64 (gP d i.1).2.2.1), 1, w64 (1 + w64 (Int.tmod (gP d i.1).2.2.2.2.2.1 4)), w64 (10 * w64 (gP d i.1).2.2.2.1), ())] : List xW) fun z33 => .xD (xI z32 z31 (if 3 < len d.2.2.1 then 3 else len d.2.2.1 : Int) <| wr ∧ wb ∧ wc ∧ True) <| .need ((((171 : TypeId) = 171) ∧ ((z33 : List xW) = z33)) ∧ (true = true) ∧ (((112 : TypeId) = 112) ∧ (((3 : Int) = 3) ∧ (True ∧ ((((11) = (11)) ∧ (((0) = (0)) ∧ ((List.length i.2.2.2.1 + 1 = List.length z33) ∧ ((true) = (true))))) ∧ True)))) ∧ (true = true) ∧ (((112 : TypeId) = 112) ∧ (((0 : Int) = 0) ∧ wM)) ∧ (true = true) ∧ (((28 : TypeId) = 28) ∧ (((d.1 : Int) = d.1) ∧ (((d.2.1 : List Int) = d.2.1) ∧ (((d.2.2.1 : List xW) = d.2.2.1) ∧ (((d.2.2.2.1) = (d.2.2.2.1)) ∧ (((d.2.2.2.2.1) = (d.2.2.2.2.1)) ∧ True)))))) ∧ (true = true) ∧ True) <| .ok (.inl ((z31, z32, false, z33, ()))))
     (.need ((List.length i.2.2.2.1 + 1) * 48 ≤ 140737488355328) <| .tt <| .lt (w64 (i.1 + 1) : Int) fun z34 => .lt (w64 (w64 (i.2.1 + 1000) + w64 (1000 * w64 (gP d i.1).1)) : Int) fun z35 => .lt (List.take (List.length i.2.2.2.1) i.2.2.2.1 ++ [(z35, w64 (100 * w64 (gP d i.1).2.1), w64 (10 * w64 (gP d i.1).2.2.1), w64 (1 + w64 (Int.tmod (gP d i.1).2.2.2.2.1 4)), w64 (1 + w64 (Int.tmod (gP d i.1).2.2.2.2.2.1 4)), w64 (10 * w64 (gP d i.1).2.2.2.1), ())] : List xW) fun z36 => .xD (xI z35 z34 (if 3 < len d.2.2.1 then 3 else len d.2.2.1 : Int) <| wr ∧ wb ∧ wc ∧ True) <| .need ((((171 : TypeId) = 171) ∧ ((z36 : List xW) = z36)) ∧ (true = true) ∧ (((112 : TypeId) = 112) ∧ (((3 : Int) = 3) ∧ (True ∧ ((((11) = (11)) ∧ (((0) = (0)) ∧ ((List.length i.2.2.2.1 + 1 = List.length z36) ∧ ((true) = (true))))) ∧ True)))) ∧ (true = true) ∧ (((112 : TypeId) = 112) ∧ (((0 : Int) = 0) ∧ wM)) ∧ (true = true) ∧ (((28 : TypeId) = 28) ∧ (((d.1 : Int) = d.1) ∧ (((d.2.1 : List Int) = d.2.1) ∧ (((d.2.2.1 : List xW) = d.2.2.1) ∧ (((d.2.2.2.1) = (d.2.2.2.1)) ∧ (((d.2.2.2.2.1) = (d.2.2.2.2.1)) ∧ True)))))) ∧ (true = true) ∧ True) <| .ok (.inl ((z34, z35, false, z36, ()))))))
   (.ite (d.2.2.2.2.1)
    (.call (aa8 (w64 (1 + w64 (Int.tmod (gP d i.1).2.2.2.2.1 4)), 1, ())) Dd1 fun y6 =>
     .ite (y6.1)
     (.need ((List.length i.2.2.2.1 + 1) * 48 ≤ 140737488355328) <| .tt <| .lt (w64 (i.1 + 1) : Int) fun z37 => .lt (w64 (w64 (i.2.1 + 1000) + w64 (1000 * w64 (gP d i.1).1)) : Int) fun z38 => .lt (List.take (List.length i.2.2.2.1) i.2.2.2.1 ++ [(z38, if w64 (0 - w64 (100 * w64 (gP d i.1).2.1)) > w64 (100 * w64 (gP d i.1).2.1) then w64 (0 - w64 (100 * w64 (gP d i.1).2.1)) else w64 (100 * w64 (gP d i.1).2.1), if w64 (0 - w64 (10 * w64 (gP d i.1).2.2.1)) > w64 (10 * w64 (gP d i.1).2.2.1) then w64 (0 - w64 (10 * w64 (gP d i.1).2.2.1)) else w64 (10 * w64 (gP d i.1).2.2.1), 1, 1, w64 (10 * w64 (gP d i.1).2.2.2.1), ())] : List xW) fun z39 => .xD (xI z38 z37 (if 3 < len d.2.2.1 then 3 else len d.2.2.1 : Int) <| wr ∧ wb ∧ wc ∧ True) <| .need ((((171 : TypeId) = 171) ∧ ((z39 : List xW) = z39)) ∧ (true = true) ∧ (((112 : TypeId) = 112) ∧ (((3 : Int) = 3) ∧ (True ∧ ((((11) = (11)) ∧ (((0) = (0)) ∧ ((List.length i.2.2.2.1 + 1 = List.length z39) ∧ ((true) = (true))))) ∧ True)))) ∧ (true = true) ∧ (((112 : TypeId) = 112) ∧ (((0 : Int) = 0) ∧ wM)) ∧ (true = true) ∧ (((28 : TypeId) = 28) ∧ (((d.1 : Int) = d.1) ∧ (((d.2.1 : List Int) = d.2.1) ∧ (((d.2.2.1 : List xW) = d.2.2.1) ∧ (((d.2.2.2.1) = (d.2.2.2.1)) ∧ (((d.2.2.2.2.1) = (d.2.2.2.2.1)) ∧ True)))))) ∧ (true = true) ∧ True) <| .ok (.inl ((z37, z38, false, z39, ()))))
     (.need ((List.length i.2.2.2.1 + 1) * 48 ≤ 140737488355328) <| .tt <| .lt (w64 (i.1 + 1) : Int) fun z40 => .lt (w64 (w64 (i.2.1 + 1000) + w64 (1000 * w64 (gP d i.1).1)) : Int) fun z41 => .lt (List.take (List.length i.2.2.2.1) i.2.2.2.1 ++ [(z41, if w64 (0 - w64 (100 * w64 (gP d i.1).2.1)) > w64 (100 * w64 (gP d i.1).2.1) then w64 (0 - w64 (100 * w64 (gP d i.1).2.1)) else w64 (100 * w64 (gP d i.1).2.1), if w64 (0 - w64 (10 * w64 (gP d i.1).2.2.1)) > w64 (10 * w64 (gP d i.1).2.2.1) then w64 (0 - w64 (10 * w64 (gP d i.1).2.2.1)) else w64 (10 * w64 (gP d i.1).2.2.1), w64 (1 + w64 (Int.tmod (gP d i.1).2.2.2.2.1 4)), 1, w64 (10 * w64 (gP d i.1).2.2.2.1), ())] : List xW) fun z42 => .xD (xI z41 z40 (if 3 < len d.2.2.1 then 3 else len d.2.2.1 : Int) <| wr ∧ wb ∧ wc ∧ True) <| .need ((((171 : TypeId) = 171) ∧ ((z42 : List xW) = z42)) ∧ (true = true) ∧ (((112 : TypeId) = 112) ∧ (((3 : Int) = 3) ∧ (True ∧ ((((11) = (11)) ∧ (((0) = (0)) ∧ ((List.length i.2.2.2.1 + 1 = List.length z42) ∧ ((true) = (true))))) ∧ True)))) ∧ (true = true) ∧ (((112 : TypeId) = 112) ∧ (((0 : Int) = 0) ∧ wM)) ∧ (true = true) ∧ (((28 : TypeId) = 28) ∧ (((d.1 : Int) = d.1) ∧ (((d.2.1 : List Int) = d.2.1) ∧ (((d.2.2.1 : List xW) = d.2.2.1) ∧ (((d.2.2.2.1) = (d.2.2.2.1)) ∧ (((d.2.2.2.2.1) = (d.2.2.2.2.1)) ∧ True)))))) ∧ (true = true) ∧ True) <| .ok (.inl ((z40, z41, false, z42, ())))))
    (.call (aa8 (w64 (1 + w64 (Int.tmod (gP d i.1).2.2.2.2.1 4)), 1, ())) Dd1 fun y7 =>
     .ite (y7.1)
     (.need ((List.length i.2.2.2.1 + 1) * 48 ≤ 140737488355328) <| .tt <| .lt (w64 (i.1 + 1) : Int) fun z43 => .lt (w64 (w64 (i.2.1 + 1000) + w64 (1000 * w64 (gP d i.1).1)) : Int) fun z44 => .lt (List.take (List.length i.2.2.2.1) i.2.2.2.1 ++ [(z44, w64 (100 * w64 (gP d i.1).2.1), w64 (10 * w64 (gP d i.1).2.2.1), 1, 1, w64 (10 * w64 (gP d i.1).2.2.2.1), ())] : List xW) fun z45 => .xD (xI z44 z43 (if 3 < len d.2.2.1 then 3 else len d.2.2.1 : Int) <| wr ∧ wb ∧ wc ∧ True) <| .need ((((171 : TypeId) = 171) ∧ ((z45 : List xW) = z45)) ∧ (true = true) ∧ (((112 : TypeId) = 112) ∧ (((3 : Int) = 3) ∧ (True ∧ ((((11) = (11)) ∧ (((0) = (0)) ∧ ((List.length i.2.2.2.1 + 1 = List.length z45) ∧ ((true) = (true))))) ∧ True)))) ∧ (true = true) ∧ (((112 : TypeId) = 112) ∧ (((0 : Int) = 0) ∧ wM)) ∧ (true = true) ∧ (((28 : TypeId) = 28) ∧ (((d.1 : Int) = d.1) ∧ (((d.2.1 : List Int) = d.2.1) ∧ (((d.2.2.1 : List xW) = d.2.2.1) ∧ (((d.2.2.2.1) = (d.2.2.2.1)) ∧ (((d.2.2.2.2.1) = (d.2.2.2.2.1)) ∧ True)))))) ∧ (true = true) ∧ True) <| .ok (.inl ((z43, z44, false, z45, ()))))
     (.need ((List.length i.2.2.2.1 + 1) * 48 ≤ 140737488355328) <| .tt <| .lt (w64 (i.1 + 1) : Int) fun z46 => .lt (w64 (w64 (i.2.1 + 1000) + w64 (1000 * w64 (gP d i.1).1)) : Int) fun z47 => .lt (List.take (List.length i.2.2.2.1) i.2.2.2.1 ++ [(z47, w64 (100 * w64 (gP d i.1).2.1), w64 (10 * w64 (gP d i.1).2.2.1), w64 (1 + w64 (Int.tmod (gP d i.1).2.2.2.2.1 4)), 1, w64 (10 * w64 (gP d i.1).2.2.2.1), ())] : List xW) fun z48 => .xD (xI z47 z46 (if 3 < len d.2.2.1 then 3 else len d.2.2.1 : Int) <| wr ∧ wb ∧ wc ∧ True) <| .need ((((171 : TypeId) = 171) ∧ ((z48 : List xW) = z48)) ∧ (true = true) ∧ (((112 : TypeId) = 112) ∧ (((3 : Int) = 3) ∧ (True ∧ ((((11) = (11)) ∧ (((0) = (0)) ∧ ((List.length i.2.2.2.1 + 1 = List.length z48) ∧ ((true) = (true))))) ∧ True)))) ∧ (true = true) ∧ (((112 : TypeId) = 112) ∧ (((0 : Int) = 0) ∧ wM)) ∧ (true = true) ∧ (((28 : TypeId) = 28) ∧ (((d.1 : Int) = d.1) ∧ (((d.2.1 : List Int) = d.2.1) ∧ (((d.2.2.1 : List xW) = d.2.2.1) ∧ (((d.2.2.2.1) = (d.2.2.2.1)) ∧ (((d.2.2.2.2.1) = (d.2.2.2.2.1)) ∧ True)))))) ∧ (true = true) ∧ True) <| .ok (.inl ((z46, z47, false, z48, ())))))))
  (.ite ((if 3 < len d.2.2.1 then 3 else len d.2.2.1) == 0)
   (aeD d)
   (.ite (d.2.2.2.2.1)
    (.need (asT Int 0 ≤ 1 ∧ 1 ≤ len i.2.2.2.1) <| .triv (inb (w64 (1 - 1)) (↑1 : Int)) zd <| .ok (.inr (((3, [], List.take 1 (List.set i.2.2.2.1 (0 + Int.toNat (w64 (1 - 1))) (1000000, (List.getD i.2.2.2.1 (0 + Int.toNat (w64 (1 - 1))) (0, 0, 0, 0, 0, 0, ())).2)), ()), ()))))
    (.need (inb (w64 ((if 3 < len d.2.2.1 then 3 else len d.2.2.1) - 1)) (len i.2.2.2.1)) <| .ok (.inr (((3, [], List.take (List.length i.2.2.2.1) (List.set i.2.2.2.1 (0 + Int.toNat (w64 ((if 3 < len d.2.2.1 then 3 else len d.2.2.1) - 1))) (1000000, (List.getD i.2.2.2.1 (0 + Int.toNat (w64 ((if 3 < len d.2.2.1 then 3 else len d.2.2.1) - 1))) (0, 0, 0, 0, 0, 0, ())).2)), ()), ())))))))
def afI (d : Int × List Int × List xW × Bool × Bool × Unit) : TT wQ :=
 .loop 0 (.tt <| .lt ([] : List xW) fun z => .xD (xI (0 : Int) (0 : Int) (if 3 < len d.2.2.1 then 3 else len d.2.2.1 : Int) <| wr ∧ wb ∧ wc ∧ True) <| .xD ((xQ 112 (3 : Int) <| True ∧ True ∧ True) ∧ DTl d) <| .ok ((0, 0, true, z, ()))) (ahC d)
end
noncomputable section
abbrev DrT := Int × List Int × List akY × Bool × Bool × Unit
def axJ (l : List Int) : Prop := ∀ v ∈ l, inR v 0 65535
def aLk (d : DrT) : Prop := inR d.1 0 255 ∧ axJ d.2.1 ∧ ∀ s ∈ d.2.2.1, inR s.1 0 255 ∧ inR s.2.1 (-32768) 32767 ∧ inR s.2.2.1 (-32768) 32767 ∧ inR s.2.2.2.1 (-32768) 32767 ∧ inR s.2.2.2.2.1 0 255 ∧ inR s.2.2.2.2.2.1 0 255
def agK (x : DrT × Unit) : Option (CvT × Unit) := (ah9 x.1).toO
def ad8 (x : DrT × Unit) : Option (CvT × Unit) := (afI x.1).toO
end
set_option maxRecDepth 100000
open Go Go.Vg Go.Proofs
noncomputable section
def aDo : LTab := []
def akC (d : Int × List Int × List xW × Bool × Bool × Unit) : TT wQ :=
 .triv (asT Int 4 ≠ 0) zd <| .ite (Int.tmod d.1 4 == 0)
 (.ok (((1, [], [], ()), ())))
 (.ite (Int.tmod d.1 4 == 1)
 (.call (ad8 ((d.1, d.2.1, d.2.2.1, d.2.2.2.1, d.2.2.2.2.1, ()), ())) aOc fun y =>
 .ok (((y.1.1, y.1.2.1, y.1.2.2.1, ()), ())))
 (.call (agK ((d.1, d.2.1, d.2.2.1, d.2.2.2.1, d.2.2.2.2.1, ()), ())) aOc fun y1 =>
 .ok (((y1.1.1, y1.1.2.1, y1.1.2.2.1, ()), ()))))
end
noncomputable section
def aaK (x : DrT × Unit) : Option (CvT × Unit) := (akC x.1).toO
end
end Go.Vs
