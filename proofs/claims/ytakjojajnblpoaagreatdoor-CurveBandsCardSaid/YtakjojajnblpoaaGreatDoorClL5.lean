/-
  Trees of what the functions compute, and their laws. Own work; no condition.
-/
import Derived.Test.YtakjojajnblpoaaGreatDoorClL4
import Derived.Test.YtakjojajnblpoaaGreatDoorProg
set_option linter.unusedVariables false
set_option linter.unusedSimpArgs false
namespace Go.Vs
open Go Go.Vg
theorem aoD {k n : Nat} (h : Bd k n) (hk : k ≤ 8) : (dig n).length ≤ 1000000000000 := zz (aAQ h hk) zc
theorem atY {z : Int} (h : Bd 8 z.natAbs) : ai3 (pl z, ()) = some (pl (-z), ()) := aaE (enc := fun x : Int => (pl x, ())) z h (fun b hb => arY (Prod.mk.inj hb).1)
theorem aIR (x : PlT) (y) (h : ai3 (x, ()) = some y) : (aF9 x).toO = some y := by
 obtain ⟨z, hp, hx, rfl⟩ := aaC h
 obtain ⟨rfl, -⟩ := Prod.mk.inj hx
 refine uC (pl (-z), ()) (ag8 (aoD hp zc) zc ?_) rfl
 by_cases h0 : z = 0
 ·left; omega
 ·right
  show (!decide (z < 0)) = decide (-z < 0)
  by_cases h1 : z < 0
  ·rw [zo h1, zn zc]; rfl
  ·rw [zn h1, zo zc]; rfl
theorem aTG {a b : Nat} (h1 : (dig a).length ≤ 1000000000000) (h2 : (dig b).length ≤ 1000000000000) : ax2 (dig a, dig b, ()) = some (dig (a + b), ()) := aaE (enc := fun p : Nat × Nat => (dig p.1, dig p.2, ())) (a, b) ⟨h1, h2⟩ (fun b hb => aC1 hb)
theorem aDl {a b : Nat} (h1 : (dig a).length ≤ 1000000000000) (h : b ≤ a) : abF (dig a, dig b, ()) = some (dig (a - b), ()) := aoX (adU a) (adU b) h1 (acK h) (by rw [ah3, ah3]; omega) (by rw [ah3, ah3]; omega)
theorem aN7 {a b : Nat} (h1 : (dig a).length ≤ 400000000000) (h2 : (dig b).length ≤ 400000000000) : ab2 (dig a, dig b, ()) = some (dig (a * b), ()) := aoW (adU a) (Or.inl (adU b)) h1 h2 (by rw [ah3, ah3]; simp)
theorem atZ {a b : Int} (h1 : Bd 7 a.natAbs) (h2 : Bd 7 b.natAbs) : ahU (pl a, pl b, ()) = some (pl (a + b), ()) := aaE (enc := fun p : Int × Int => (pl p.1, pl p.2, ())) (a, b) ⟨h1, h2⟩ (fun b hb => al4 hb)
theorem aIV (x x' : PlT) (y) (h : ahU (x, x', ()) = some y) : (azE x x').toO = some y := by
 obtain ⟨⟨a, b⟩, hp, hx, rfl⟩ := aaC h
 obtain ⟨rfl, hx2⟩ := Prod.mk.inj hx; obtain ⟨rfl, -⟩ := Prod.mk.inj hx2; dsimp only
 obtain ⟨l1, l2⟩ := hp
 simp only at l1 l2
 have d1 := aoD l1 zc
 have d2 := aoD l2 zc
 have d3 := aoD (aaZ l1 l2) zc
 unfold azE
 dsimp only
 by_cases hs : (decide (a < 0) == decide (b < 0)) = true
 ·refine uT hs ?_
  have hs' : (a < 0 ↔ b < 0) := by simpa using hs
  refine uC _ (aTG d1 d2) ?_
  refine uC (pl (a + b), ()) (ag8 d3 zc (Or.inr (decide_eq_decide.2 zc))) rfl
 ·have hs' : ¬ (a < 0 ↔ b < 0) := by simpa using hs
  refine uF (by simpa using hs) ?_
  refine uC _ (av8 _ _ (adU _) (adU _) d1 d2) ?_
  obtain ⟨o1, o2⟩ := aKV a.natAbs b.natAbs
  by_cases hc : a.natAbs < b.natAbs
  ·refine uF (zn (by have := o1.2 hc; dsimp only; omega)) ?_
   refine uC _ (aDl d2 zc) ?_
   have d4 : (dig (b.natAbs - a.natAbs)).length ≤ 1000000000000 := zz (acK (Nat.sub_le _ _)) d2
   refine uC (pl (a + b), ()) (ag8 d4 zc (Or.inr (decide_eq_decide.2 zc))) rfl
  ·refine uT (zo (by
    rcases zQ (aTS (dig a.natAbs) (dig b.natAbs)) 0 with h | h
    ·exact absurd (o1.1 h) hc
    ·exact h)) ?_
   refine uC _ (aDl d1 zc) ?_
   have d4 : (dig (a.natAbs - b.natAbs)).length ≤ 1000000000000 := zz (acK (Nat.sub_le _ _)) d1
   refine uC (pl (a + b), ()) (ag8 d4 zc ?_) rfl
   by_cases h0 : a + b = 0
   ·exact Or.inl h0
   ·exact Or.inr (decide_eq_decide.2 zc)
theorem aDn {a b : Int} (h1 : Bd 7 a.natAbs) (h2 : Bd 7 b.natAbs) : alE (pl a, pl b, ()) = some (pl (a - b), ()) := aaE (enc := fun p : Int × Int => (pl p.1, pl p.2, ())) (a, b) ⟨h1, h2⟩ (fun b hb => al4 hb)
theorem aGe (x x' : PlT) (y) (h : alE (x, x', ()) = some y) : (aCm x x').toO = some y := by
 obtain ⟨⟨a, b⟩, hp, hx, rfl⟩ := aaC h
 obtain ⟨rfl, hx2⟩ := Prod.mk.inj hx; obtain ⟨rfl, -⟩ := Prod.mk.inj hx2; dsimp only
 obtain ⟨l1, l2⟩ := hp
 refine uC _ (atY (aaF l2 zc)) (uC _ (atZ l1 (aaV l2)) ?_)
 rw [Int.sub_eq_add_neg]; rfl
theorem aSX {a b : Int} : a * b = 0 ∨ (!(decide (a < 0) == decide (b < 0))) = decide (a * b < 0) := by
 by_cases hz : a * b = 0
 ·exact Or.inl hz
 ·right
  have z1 : a ≠ 0 := fun h => hz (by rw [h]; simp)
  have z2 : b ≠ 0 := fun h => hz (by rw [h]; simp)
  rcases zQ a 0 with c1 | c1 <;> rcases zQ b 0 with c2 | c2
  ·have := wu c1 c2
   rw [zo c1, zo c2, zn zc]; rfl
  ·have := wj c1 (show 0 < b by omega)
   rw [zo c1, zn zc, zo zc]; rfl
  ·have := wo (show 0 < a by omega) c2
   rw [zn zc, zo c2, zo zc]; rfl
  ·have := vC (show 0 < a by omega) (show 0 < b by omega)
   rw [zn zc, zn zc, zn zc]; rfl
theorem ad3 {a b : Int} (h1 : Bd 7 a.natAbs) (h2 : Bd 7 b.natAbs) : acF (pl a, pl b, ()) = some (pl (a * b), ()) := aaE (enc := fun p : Int × Int => (pl p.1, pl p.2, ())) (a, b) ⟨h1, h2⟩ (fun b hb => al4 hb)
theorem aGa (x x' : PlT) (y) (h : acF (x, x', ()) = some y) : (aCj x x').toO = some y := by
 obtain ⟨⟨a, b⟩, hp, hx, rfl⟩ := aaC h
 obtain ⟨rfl, hx2⟩ := Prod.mk.inj hx; obtain ⟨rfl, -⟩ := Prod.mk.inj hx2; dsimp only
 obtain ⟨l1, l2⟩ := hp
 simp only at l1 l2
 have d1 := aAQ l1 zc
 have d2 := aAQ l2 zc
 refine uC _ (aN7 (zz d1 zc) (zz d2 zc)) ?_
 refine uC (pl (a * b), ()) (ag8 (aoD (aaW l1 l2) zc) (by rw [yF]) aSX) rfl
theorem aiF {a b : Int} (h1 : Bd 7 a.natAbs) (h2 : Bd 7 b.natAbs) : aiC (pl a, pl b, ()) = some ((a - b).sign, ()) := aaE (enc := fun p : Int × Int => (pl p.1, pl p.2, ())) (a, b) ⟨h1, h2⟩ (fun b hb => al4 hb)
theorem aGd (x x' : PlT) (y) (h : aiC (x, x', ()) = some y) : (aCl x x').toO = some y := by
 obtain ⟨⟨a, b⟩, hp, hx, rfl⟩ := aaC h
 obtain ⟨rfl, hx2⟩ := Prod.mk.inj hx; obtain ⟨rfl, -⟩ := Prod.mk.inj hx2; dsimp only
 obtain ⟨l1, l2⟩ := hp
 refine uC _ (aDn l1 l2) ?_
 dsimp only
 rcases xn (a - b) 0 with c | c | c
 ·rw [yH c]
  exact uT (zo c) rfl
 ·rw [c]
  exact uF rfl (uF (zn (by show ¬ (len (dig (Int.natAbs 0)) > 0); rw [we, dig_zero]; decide)) rfl)
 ·rw [xh c]
  refine uF sd (uT (zo ?_) rfl)
  rw [aaB]
  rcases zC (dig (a - b).natAbs).length with h | h
  ·have := dig_nil_iff.1 (zV.1 h); omega
  ·omega
theorem aTz {n : Nat} (h : n ≤ 500) : Bd 6 (10 ^ n) := by
 have : (mag (10 ^ n)).length ≤ 501 := by
  refine ahB ?_
  rw [akE (k := n) (zq _) (wx zc zc)]; omega
 unfold Bd; omega
theorem aBe {a : Int} {n : Nat} (h : (n ≤ 40 ∧ Bd 2 a.natAbs) ∨ (n ≤ 500 ∧ a = 10)) : ai4 (pl a, (n : Int), ()) = some (pl (a ^ n), ()) := by
 refine aaE (enc := fun p : Int × Nat => (pl p.1, (p.2 : Int), ())) (a, n) h (fun b hb => ?_)
 obtain ⟨e1, e2⟩ := Prod.mk.inj hb
 obtain ⟨e2, -⟩ := Prod.mk.inj e2
 exact Prod.ext (arY e1) (Int.ofNat.inj e2)
theorem aRs {a : Int} {n : Nat} (h : (n ≤ 40 ∧ Bd 2 a.natAbs) ∨ (n ≤ 500 ∧ a = 10)) (j : Nat) (hj : j ≤ n) : Bd 7 (a ^ j).natAbs := by
 rw [vw]
 rcases h with ⟨h1, h2⟩ | ⟨h1, rfl⟩
 ·exact aLp h2 zc
 ·exact aaF (aTz zc) zc
theorem aDY (x : PlT) (k : Int) (y) (h : ai4 (x, k, ()) = some y) : (azD x k).toO = some y := by
 obtain ⟨⟨a, n⟩, hp, hx, rfl⟩ := aaC h
 obtain ⟨rfl, hx2⟩ := Prod.mk.inj hx; obtain ⟨rfl, -⟩ := Prod.mk.inj hx2; dsimp only
 dsimp only at hp
 have hn : n ≤ 500 := by rcases hp with h | h <;> omega
 have ha : Bd 7 a.natAbs := by
  rcases hp with h | h
  ·exact aaF h.2 zc
  ·rw [h.2]; exact aaF (aaH zc) zc
 refine uC _ (acE ⟨by omega, by omega⟩) ?_
 refine uO (0, decide ((1 : Int) < 0), dig 1, ()) rfl ?_
 refine aaK (fun i : Int × Bool × List Int × Unit => ∃ j : Nat, j ≤ n ∧ i = ((j : Int), pl (a ^ j))) (fun i => ((n : Int) - i.1).toNat) (fun _ => (pl (a ^ n), ())) ?_ _ ⟨0, by omega, by rw [Int.pow_zero]; rfl⟩
 rintro i ⟨j, hj, rfl⟩
 unfold awH
 dsimp only
 rcases zr j n with h1 | h1
 ·left
  refine ⟨(((j + 1 : Nat) : Int), pl (a ^ (j + 1))), ?_, ⟨j + 1, by omega, rfl⟩, by dsimp only; omega, ze⟩
  refine uT sd (uC (pl (a ^ (j + 1)), ()) (by rw [zX]; exact ad3 (aRs hp j hj) ha) ?_)
  repeat refine za ?_
  rw [aaI, aaA (x := (j : Int) + 1) zc]; rfl
 ·right
  have : j = n := zc
  subst this
  exact uF sd rfl
theorem aDk {a b : Nat} (h1 : (dig a).length ≤ 200000000000) (h2 : (dig b).length ≤ 200000000000) (h3 : b ≠ 0) : alD (dig a, dig b, ()) = some (dig (a / b), dig (a % b), ()) := aaE (enc := fun p : Nat × Nat => (dig p.1, dig p.2, ())) (a, b) ⟨h1, h2, h3⟩ (fun b hb => aC1 hb)
theorem aoY {a b : Int} (h1 : Bd 8 a.natAbs) (h2 : Bd 8 b.natAbs) : af0 (pl a, pl b, ()) = some (pl (Nat.gcd a.natAbs b.natAbs), ()) := aaE (enc := fun p : Int × Int => (pl p.1, pl p.2, ())) (a, b) ⟨h1, h2⟩ (fun b hb => al4 hb)
theorem aBz (x x' : PlT) (y) (h : af0 (x, x', ()) = some y) : (awJ x x').toO = some y := by
 obtain ⟨⟨a, b⟩, hp, hx, rfl⟩ := aaC h
 obtain ⟨rfl, hx2⟩ := Prod.mk.inj hx; obtain ⟨rfl, -⟩ := Prod.mk.inj hx2; dsimp only
 obtain ⟨l1, l2⟩ := hp
 dsimp only at l1 l2
 have d1 := aAQ l1 zc
 have d2 := aAQ l2 zc
 refine uO (dig b.natAbs, dig a.natAbs, ()) rfl ?_
 have hres : (pl ((Nat.gcd a.natAbs b.natAbs : Nat) : Int), ()) = ((false, dig (Nat.gcd a.natAbs b.natAbs), ()), ()) := by
  unfold pl
  rw [zn zc, zK]
 rw [hres]
 refine aaK (fun i : List Int × List Int × Unit => ∃ p q : Nat, i = (dig q, dig p, ()) ∧ (dig p).length ≤ 200000000000 ∧ (dig q).length ≤ 200000000000 ∧ Nat.gcd p q = Nat.gcd a.natAbs b.natAbs) (fun i => (V 10000 i.1).toNat) (fun _ => ((false, dig (Nat.gcd a.natAbs b.natAbs), ()), ())) ?_ _ ⟨a.natAbs, b.natAbs, rfl, d1, d2, rfl⟩
 rintro i ⟨p, q, rfl, lp, lq, hg⟩
 unfold arX
 dsimp only
 by_cases hq : q = 0
 ·right
  subst hq
  refine uF (by rw [dig_zero]; rfl) ?_
  rw [← hg, Nat.gcd_zero_right]; rfl
 ·left
  have hql : 1 ≤ (dig q).length := by
   rcases zC (dig q).length with h5 | h5
   ·exact absurd (dig_nil_iff.1 (zV.1 h5)) hq
   ·exact h5
  refine ⟨(dig (p % q), dig q, ()), ?_, ⟨q, p % q, rfl, lq, ?_, ?_⟩, ?_, ze⟩
  ·refine uT sd (uC _ (aDk lp lq hq) ?_)
   repeat refine za ?_
   rfl
  ·exact zz (acK (vO (yW p (show 0 < q by omega)))) lq
  ·rw [← hg, xI p q, Nat.gcd_rec q p, xI]
  ·simp only [ah3, zp]
   exact yW p zc
theorem alT {a b : Int} (h1 : Bd 6 a.natAbs) (h2 : Bd 6 b.natAbs) (h3 : b ≠ 0) : afZ (pl a, pl b, ()) = some (pl (a / b), pl (a % b), ()) := aaE (enc := fun p : Int × Int => (pl p.1, pl p.2, ())) (a, b) ⟨h1, h2, h3⟩ (fun b hb => al4 hb)
theorem aV3 {a b : Int} (hb : b ≠ 0) : ∃ q r : Int, q.natAbs = a.natAbs / b.natAbs ∧ r.natAbs = a.natAbs % b.natAbs ∧ (q = 0 ∨ (!(decide (a < 0) == decide (b < 0))) = decide (q < 0)) ∧ (r = 0 ∨ decide (a < 0) = decide (r < 0)) ∧ (r < 0 → a / b = (if b < 0 then q + 1 else q - 1) ∧ a % b = r + b.natAbs) ∧ (¬ r < 0 → a / b = q ∧ a % b = r) := by
 refine ⟨Int.tdiv a b, Int.tmod a b, Int.natAbs_tdiv a b, vS a b, ?_, ?_, ?_, ?_⟩
 ·by_cases hz : Int.tdiv a b = 0
  ·exact Or.inl hz
  ·right
   rcases zQ a 0 with c1 | c1 <;> rcases zQ b 0 with c2 | c2
   ·have : 0 ≤ Int.tdiv a b := by
     rw [← Int.neg_tdiv_neg]; exact xW zc zc
    rw [zo c1, zo c2, zn zc]; rfl
   ·have : Int.tdiv a b ≤ 0 := by
     have := xW (a := -a) (b := b) zc c2
     rw [Int.neg_tdiv] at this; omega
    rw [zo c1, zn zc, zo zc]; rfl
   ·have : Int.tdiv a b ≤ 0 := by
     have := xW (a := a) (b := -b) c1 zc
     rw [Int.tdiv_neg] at this; omega
    rw [zn zc, zo c2, zo zc]; rfl
   ·have := xW c1 c2
    rw [zn zc, zn zc, zn zc]; rfl
 ·by_cases hz : Int.tmod a b = 0
  ·exact Or.inl hz
  ·right
   refine decide_eq_decide.2 ?_
   rcases zQ a 0 with c1 | c1
   ·have : Int.tmod a b ≤ 0 := by
     have := xV (a := -a) b zc
     rw [Int.neg_tmod] at this; omega
    omega
   ·have := xV (a := a) b c1
    omega
 ·intro hr
  have ha : a < 0 := by
   rcases zQ a 0 with c | c
   ·exact c
   ·have := xV (a := a) b c; omega
  have h1 := wM a b
  have h2 : (Int.tmod a b).natAbs < b.natAbs := by rw [vS]; exact yW _ zc
  generalize Int.tdiv a b = q at *
  generalize Int.tmod a b = r at *
  have key : ∀ q' r' : Int, r' + b * q' = a → 0 ≤ r' → r' < b.natAbs → a / b = q' ∧ a % b = r' := by
   intro q' r' e e1 e2
   have hr' : r' / b = 0 := by
    rcases zQ b 0 with c | c
    ·have : r' / (-(-b)) = -(r' / -b) := Int.ediv_neg _ _
     rw [Int.neg_neg] at this
     rw [this, xv e1 zc]; rfl
    ·exact xv e1 zc
   have d1 : a / b = q' := by rw [← e, vJ _ _ hb, hr', vu]
   refine ⟨d1, ?_⟩
   have := yk a b
   rw [d1] at this
   omega
  rcases zQ b 0 with c | c
  ·rw [if_pos c]
   exact key _ _ (by rw [wz]; omega) zc zc
  ·rw [if_neg zc]
   exact key _ _ (by rw [Int.mul_sub]; omega) zc zc
 ·intro hr
  have h1 := wM a b
  have h2 : (Int.tmod a b).natAbs < b.natAbs := by rw [vS]; exact yW _ zc
  generalize Int.tdiv a b = q at *
  generalize Int.tmod a b = r at *
  have hr' : r / b = 0 := by
   rcases zQ b 0 with c | c
   ·have : r / (-(-b)) = -(r / -b) := Int.ediv_neg _ _
    rw [Int.neg_neg] at this
    rw [this, xv zc zc]; rfl
   ·exact xv zc zc
  have d1 : a / b = q := by rw [← h1, vJ _ _ hb, hr', vu]
  refine ⟨d1, ?_⟩
  have := yk a b
  rw [d1] at this
  omega
theorem aGc (x x' : PlT) (y) (h : afZ (x, x', ()) = some y) : (auU x x').toO = some y := by
 obtain ⟨⟨a, b⟩, hp, hx, rfl⟩ := aaC h
 obtain ⟨rfl, hx2⟩ := Prod.mk.inj hx; obtain ⟨rfl, -⟩ := Prod.mk.inj hx2; dsimp only
 obtain ⟨l1, l2, l3⟩ := hp
 dsimp only at l1 l2 l3
 have d1 := aAQ l1 zc
 have d2 := aAQ l2 zc
 obtain ⟨q, r, hq, hr, sq, sr, hneg, hpos⟩ := aV3 (a := a) l3
 have bq : Bd 6 q.natAbs := by rw [hq]; exact aaS _ l1
 have br : Bd 6 r.natAbs := by rw [hr]; exact aa2 _ l1
 have i1 : aa3 1 := ⟨by omega, by omega⟩
 have b1 : Bd 7 (1 : Int).natAbs := aaF (aaH zf) zc
 unfold auU
 dsimp only
 refine uC _ (aDk d1 d2 zc) ?_
 refine uC (pl q, ()) (ag8 (by rw [← hq]; exact aoD bq zc) hq.symm sq) ?_
 refine uC (pl r, ()) (ag8 (by rw [← hr]; exact aoD br zc) hr.symm sr) ?_
 dsimp only
 by_cases c : r < 0
 ·obtain ⟨e1, e2⟩ := hneg c
  refine uT (zo c) ?_
  have hpb : ahU (pl r, (false, dig b.natAbs, ()), ()) = some (pl (r + b.natAbs), ()) := by
   have := atZ (a := r) (b := (b.natAbs : Int)) (aaF br zc) (aaF l2 zc)
   unfold pl at this ⊢
   rwa [zn (show ¬ ((b.natAbs : Int) < 0) by omega), zK] at this
  refine uC _ hpb ?_
  rw [e1, e2]
  by_cases c2 : b < 0
  ·rw [if_pos c2]
   exact uT (zo c2) (uC _ (acE i1) (uC _ (atZ (aaF bq zc) b1) rfl))
  ·rw [if_neg c2]
   exact uF (zn c2) (uC _ (acE i1) (uC _ (aDn (aaF bq zc) b1) rfl))
 ·obtain ⟨e1, e2⟩ := hpos c
  rw [e1, e2]
  exact uF (zn c) rfl
theorem at1 {z : Int} (h : Bd 6 z.natAbs) : agM (pl z, ()) = some (if aa3 z then (z, 0, ()) else (0, 6, ())) := aaE (enc := fun x : Int => (pl x, ())) z h (fun b hb => arY (Prod.mk.inj hb).1)
theorem azF (x : PlT) (y) (h : agM (x, ()) = some y) : (al3 x).toO = some y := by
 obtain ⟨z, hp, hx, rfl⟩ := aaC h
 obtain ⟨rfl, -⟩ := Prod.mk.inj hx
 have i1 : aa3 (-9223372036854775808) := ⟨by omega, by omega⟩
 have i2 : aa3 9223372036854775807 := ⟨by omega, by omega⟩
 have b1 : Bd 7 (-9223372036854775808 : Int).natAbs := aaF (aaH zf) zc
 have b2 : Bd 7 (9223372036854775807 : Int).natAbs := aaF (aaH zf) zc
 have bz := aaF hp (show 6 ≤ 7 by omega)
 unfold al3
 by_cases c1 : z < -9223372036854775808
 ·rw [if_neg (fun h => by have := h.1; omega)]
  refine uR _ (uC _ (acE i1) (uC _ (aiF bz b1) (uT (zo ?_) rfl)))
  rw [yH zc]; decide
 have s1 : ¬ ((z - -9223372036854775808).sign < 0) := by
  intro h; have := Int.sign_nonneg_iff.2 (show 0 ≤ z - -9223372036854775808 by omega); omega
 by_cases c2 : z > 9223372036854775807
 ·rw [if_neg (fun h => by have := h.2; omega)]
  refine uR _ (uC _ (acE i1) (uC _ (aiF bz b1) (uF (zn s1) (uC _ (acE i2) (uC _ (aiF bz b2) (uT (zo ?_) rfl))))))
  rw [xh zc]; decide
 have s2 : ¬ ((z - 9223372036854775807).sign > 0) := by
  intro h
  rcases zQ (z - 9223372036854775807) 0 with c | c
  ·rw [yH c] at h; omega
  ·have : z - 9223372036854775807 = 0 := zc
   rw [this] at h; simp at h
 rw [if_pos ⟨by omega, by omega⟩]
 refine uL (0, 0, ()) (uC _ (acE i1) (uC _ (aiF bz b1) (uF (zn s1) (uC _ (acE i2) (uC _ (aiF bz b2) (uF (zn s2) rfl)))))) ?_
 have hd := adU z.natAbs
 have hV := ah3 z.natAbs
 have hl := aoD bz zc
 refine uO (((dig z.natAbs).length : Int) - 1, 0, ()) ?_ ?_
 ·repeat refine za ?_
  show some (w64 (((dig z.natAbs).length : Int) - 1), (0 : Int), ()) = _
  rw [aaA zc]
 refine aaK (fun i : Int × Int × Unit => ∃ k : Nat, k ≤ (dig z.natAbs).length ∧ i.1 = (k : Int) - 1 ∧ i.2.1 = -V 10000 ((dig z.natAbs).drop k)) (fun i => (i.1 + 1).toNat) (fun _ => (z, 0, ())) ?_ _ ⟨_, zq _, rfl, by rw [acY _ (zq _)]; rfl⟩
 rintro ⟨i, v, u⟩ ⟨k, h1, h2, h3⟩
 dsimp only at h2 h3
 subst h2 h3
 unfold ap9
 dsimp only
 cases k with
 | zero =>
  right
  rw [yK, hV]
  refine uF sd ?_
  by_cases c : z < 0
  ·refine uT (zo c) ?_
   rw [aaI]
   congr 3; omega
  ·refine uF (zn c) ?_
   rw [aaI, aaA zc]
   congr 3; omega
 | succ j =>
  left
  have e1 := aaU 10000 (dig z.natAbs) j
  have e2 := aa5 zc hd j
  have e3 := aaT zc (acP hd j)
  have e4 := aaT zc (acP hd (j + 1))
  have e5 := aHI zc hd j
  have e6 : ((j + 1 : Nat) : Int) - 1 = (j : Int) := zc
  rw [e6, hV] at *
  refine ⟨((j : Int) - 1, -V 10000 ((dig z.natAbs).drop j), ()), ?_, ⟨j, by omega, rfl, rfl⟩, by simp only; omega, ze⟩
  refine uT sd (uN sd ?_)
  repeat refine za ?_
  simp only [aaL]
  rw [aaA (x := (j : Int) - 1) zc, aaA (x := -V 10000 ((dig z.natAbs).drop (j + 1)) * 10000) zc, aaA zc, e1, aaI]
  have e7 : -V 10000 ((dig z.natAbs).drop (j + 1)) * 10000 - (dig z.natAbs).getD j 0 = -((dig z.natAbs).getD j 0 + 10000 * V 10000 ((dig z.natAbs).drop (j + 1))) := zc
  rw [e7]
theorem aDm {s : List UInt8} (h : s.length ≤ 1000000000000) : ag2 (s, ()) = some ((rdW s).isSome, ()) := by unfold ag2; rw [if_pos h]
theorem aGb (a : List UInt8) (y) (h : ag2 (a, ()) = some y) : (auT a).toO = some y := by
 unfold ag2 at h
 split at h
 case isFalse => cases h
 case isTrue hl =>
 injection h with h
 subst h
 dsimp only at hl ⊢
 obtain ⟨j, t, b, hj, hat, hc⟩ : ∃ (j : Nat) (t : List UInt8) (b : Bool), j ≤ a.length ∧ (a.drop j = t ∧ (b = true ↔ j = 1) ∧ j ≤ 1 ∧ (∃ d : TT (uS ⊕ uP), True) ∧ ((TT.ite (decide (len a > 0)) (TT.need (asT Int 0 ≤ 0 ∧ 0 < len a) (TT.ite ((((gi a 0 0).toNat : Int)) == 45) (TT.ok (.inl (1, ()))) (TT.ok (.inl (0, ()))))) (TT.ok (.inl (0, ()))) : TT (uS ⊕ uP)).toO = some (.inl ((j : Int), ())))) ∧ ab8 (a, #[45].toList, ()) = some (t, b, ()) := by
  cases a with
  | nil => exact ⟨0, [], false, by simp, ⟨rfl, by simp, by omega, ⟨TT.bad, trivial⟩, uF rfl rfl⟩, rfl⟩
  | cons c a =>
   by_cases hcc : c = 45
   ·subst hcc
    refine ⟨1, a, true, by simp, ⟨rfl, by simp, by omega, ⟨TT.bad, trivial⟩, uT (by (try simp only [yl, yj, yA, xi, beq_eq_false_iff_ne, bne_eq_false_iff_eq, zT, yD]) <;> (try simp only [aaB, inb, inc, ge_iff_le, gt_iff_lt, zp, asT, ne_eq]) <;> simp) (uN ⟨by simp [asT], by (try simp only [aaB, inb, inc, ge_iff_le, gt_iff_lt, zp, asT, ne_eq]); simp⟩ (uT rfl rfl))⟩, ?_⟩
    simp [ab8, List.isPrefixOf]
   ·refine ⟨0, c :: a, false, by simp, ⟨rfl, by simp, by omega, ⟨TT.bad, trivial⟩, uT (by (try simp only [yl, yj, yA, xi, beq_eq_false_iff_ne, bne_eq_false_iff_eq, zT, yD]) <;> (try simp only [aaB, inb, inc, ge_iff_le, gt_iff_lt, zp, asT, ne_eq]) <;> simp) (uN ⟨by simp [asT], by (try simp only [aaB, inb, inc, ge_iff_le, gt_iff_lt, zp, asT, ne_eq]); simp⟩ (uF ?_ rfl))⟩, ?_⟩
    ·rw [beq_eq_false_iff_ne]
     intro h
     exact hcc (UInt8.toNat_inj.1 (Int.ofNat.inj h))
    ·have : ¬ (45 = c) := fun h => hcc h.symm
     simp [ab8, List.isPrefixOf, this]
 obtain ⟨ht, hb, hj1, -, hjoin⟩ := hat
 have htl : t.length = a.length - j := by rw [← ht]; simp
 have hget : ∀ k, a.getD (j + k) 0 = t.getD k 0 := by
  intro k; rw [← ht]; simp [yp, yZ]
 have hnot : ¬ (isD t ∧ t ≠ [] ∧ t.length ≤ 600 ∧ (t.head? = some 48 → b = false ∧ t.length = 1)) → (rdW a).isSome = false := fun h => by rw [aOT hc h]; rfl
 have hyes : isD t → t ≠ [] → t.length ≤ 600 → (t.head? = some 48 → b = false ∧ t.length = 1) → (rdW a).isSome = true := fun h1 h2 h3 h4 => by
  obtain ⟨z, e1, -, -⟩ := aOS hc h1 h2 h3 h4
  rw [e1]; rfl
 unfold auT
 refine uL ((j : Int), ()) hjoin ?_
 unfold azC
 have hw : w64 (len a - (j : Int)) = (t.length : Int) := by rw [aaB, aaA zc]; omega
 simp only [hw]
 by_cases c1 : t = []
 ·rw [hnot (fun h => h.2.1 c1)]
  exact uR _ (uT (by rw [c1]; rfl) rfl)
 have hlen : 1 ≤ t.length := yb.2 c1
 by_cases c2 : t.length ≤ 600
 case neg =>
  rw [hnot (fun h => c2 h.2.2.1)]
  exact uR _ (uF sd (uT sd rfl))
 refine uL (false, ()) (uF sd (uF sd rfl)) ?_
 refine uO ((j : Int), ()) rfl ?_
 refine aaK (fun i : Int × Unit => ∃ k : Nat, i.1 = ((j + k : Nat) : Int) ∧ k ≤ t.length ∧ isD (t.take k)) (fun i => ((a.length : Int) - i.1).toNat) (fun _ => ((rdW a).isSome, ())) ?_ _ ⟨0, rfl, by omega, by simp [isD]⟩
 rintro ⟨i, u⟩ ⟨k, h3, h4, h5⟩
 simp only at h3
 subst h3
 simp only [azB, aaL, hget]
 rcases zr k t.length with hk | hk
 ·have e1 : t.getD k 0 = t[k] := by simp [hk]
  simp only [e1]
  by_cases d1 : t[k].toNat < 48
  ·right
   rw [hnot (fun h => by have := h.1 t[k] (ym hk); omega)]
   repeat refine za ?_
   rfl
  by_cases d2 : t[k].toNat > 57
  ·right
   rw [hnot (fun h => by have := h.1 t[k] (ym hk); omega)]
   repeat refine za ?_
   rfl
  ·left
   refine ⟨(((j + (k + 1) : Nat) : Int), ()), ?_, ⟨k + 1, rfl, by omega, ?_⟩, by simp only; omega, ze⟩
   ·repeat refine za ?_
    rw [aaI, aaA (x := ((j + k : Nat) : Int) + 1) zc]; rfl
   ·rw [zW hk, isD_append]
    refine ⟨h5, fun c hc => ?_⟩
    have := ya.1 hc
    subst this
    omega
 ·right
  have hd : isD t := by rwa [zy hk] at h5
  have hg0 : a.getD j 0 = t.getD 0 0 := hget 0
  simp only [hg0]
  refine uF sd (uN ⟨by omega, by exact sn⟩ ?_)
  cases hct : t with
  | nil => exact absurd hct c1
  | cons c r =>
   rw [← hct]
   have hg : t.getD 0 0 = c := by rw [hct]; rfl
   simp only [hg]
   have hh : t.head? = some c := by rw [hct]; rfl
   by_cases c0 : c = 48
   ·subst c0
    refine uF rfl ?_
    show some (Sum.inr (len a == 1, ())) = _
    by_cases hl1 : a.length = 1
    ·rw [hyes hd c1 c2 (fun _ => ⟨by
      cases b with
      | false => rfl
      | true => have := hb.1 rfl; omega, by omega⟩)]
     rw [show (len a == 1) = true by rw [yA, aaB]; omega]
    ·rw [hnot (fun h => by
      obtain ⟨q1, q2⟩ := h.2.2.2 hh
      have : ¬ j = 1 := fun h => by rw [hb.2 h] at q1; cases q1
      omega)]
     rw [show (len a == 1) = false by rw [beq_eq_false_iff_ne, aaB]; omega]
   ·rw [hyes hd c1 c2 (fun h => by rw [hh] at h; injection h with h; exact absurd h c0)]
    refine uT ?_ rfl
    rw [xi]
    intro h
    exact c0 (UInt8.toNat_inj.1 (Int.ofNat.inj h))
theorem aFx {a t : List UInt8} {j : Nat} (hd : isD t) (hget : ∀ k, a.getD (j + k) 0 = t.getD k 0) {s i e : Nat} (h1 : s ≤ i) (h2 : i < e) (h3 : e ≤ t.length) (h4 : e - s ≤ 4) : w64 (w64 ((num ((t.take i).drop s) : Int) * 10) + w64 (wu8 (((a.getD (j + i) 0).toNat : Int) - 48))) = (num ((t.take (i + 1)).drop s) : Int) := by
 have hi : i < t.length := zc
 have e1 : t.getD i 0 = t[i] := by simp [hi]
 have e2 := hd t[i] (ym hi)
 have e3 := aGG (asH (axX hd i) s)
 rw [ayJ h1 zc] at e3
 have e4 : (10 : Nat) ^ (i - s) ≤ 10 ^ 3 := zY zc zc
 have e5 : dv t[i] = t[i].toNat - 48 := rfl
 rw [aKC h1 hi, apC, hget, e1, e5]
 rw [abU (x := (t[i].toNat : Int) - 48) zc, aaA (x := (t[i].toNat : Int) - 48) zc, aaA (x := (num ((t.take i).drop s) : Int) * 10) zc, aaA zc]
 omega
theorem aFa {z : Int} (h : Fit z) : arK (dec z, ()) = some (pl z, ()) := aaE (enc := fun x : Int => (dec x, ())) z h (fun b hb => akD (Prod.mk.inj hb).1)
theorem aPn (a : List UInt8) (y) (h : arK (a, ()) = some y) : (aIW a).toO = some y := by
 obtain ⟨z, hp, hx, rfl⟩ := aaC h
 obtain ⟨rfl, -⟩ := Prod.mk.inj hx
 clear h hx
 have hfit : (aa4 z.natAbs).length ≤ 600 := hp
 have hd := amI z.natAbs
 have hn := apD z.natAbs
 have hne := aiX z.natAbs
 obtain ⟨j, hj, hget, hlen, hjoin⟩ : ∃ j : Nat, (j = if z < 0 then 1 else 0) ∧ (∀ k, (dec z).getD (j + k) 0 = (aa4 z.natAbs).getD k 0) ∧ (dec z).length = j + (aa4 z.natAbs).length ∧ ((TT.need (asT Int 0 ≤ 0 ∧ 0 < len (dec z)) (TT.ite ((((gi (dec z) 0 0).toNat : Int)) == 45) (TT.ok (.inl (1, ()))) (TT.ok (.inl (0, ())))) : TT (uS ⊕ (PlT × Unit))).toO = some (.inl ((j : Int), ()))) := by
  by_cases c : z < 0
  ·rw [aiW c]
   refine ⟨1, by rw [if_pos c], fun k => by rw [xe]; simp, by simp; omega, uN ⟨by simp [asT], by (try simp only [aaB, inb, inc, ge_iff_le, gt_iff_lt, zp, asT, ne_eq]); simp⟩ (uT rfl rfl)⟩
  ·rw [ab3 zc]
   refine ⟨0, by rw [if_neg c], fun k => by rw [zv], by omega, uN ⟨by simp [asT], by exact sn⟩ (uF ?_ rfl)⟩
   have := aeA z.natAbs
   cases hdn : aa4 z.natAbs with
   | nil => exact absurd hdn (afO _)
   | cons c l =>
    rw [hdn] at this
    show ((c.toNat : Int) == 45) = false
    rw [beq_eq_false_iff_ne]
    intro h
    have hc : c = 45 := UInt8.toNat_inj.1 (Int.ofNat.inj h)
    rw [hc] at this
    exact this rfl
 have hj1 : j ≤ 1 := by rw [hj]; split <;> omega
 have hjb : ((j : Int) == 1) = decide (z < 0) := by
  by_cases c : z < 0
  ·rw [zo c, hj, if_pos c]; rfl
  ·rw [zn c, hj, if_neg c]; rfl
 generalize aa4 z.natAbs = t at *
 generalize dec z = a at *
 unfold aIW
 refine uL ((j : Int), ()) hjoin ?_
 refine uO ((a.length : Int), true, [], ()) rfl ?_
 refine aaK (fun i : Int × Bool × List Int × Unit => ∃ e : Nat, (i.1 = ((j + e : Nat) : Int) ∨ (e = 0 ∧ i.1 ≤ j ∧ -10 ≤ i.1)) ∧ e ≤ t.length ∧ Dg 10000 i.2.2.1 ∧ V 10000 i.2.2.1 + 10000 ^ i.2.2.1.length * num (t.take e) = z.natAbs ∧ i.2.2.1.length + e ≤ t.length ∧ (i.2.1 = true → i.2.2.1 = [])) (fun i => (i.1 + 20).toNat) (fun _ => (pl z, ())) ?_ _ ⟨t.length, Or.inl (show (a.length : Int) = _ by omega), zq _, aw9 _, by simp [V]; omega, by simp, fun _ => rfl⟩
 rintro ⟨e', f, l, u⟩ ⟨e, g1, g3, g4, g5, g6, g7⟩
 simp only at g1 g4 g5 g6 g7
 rcases zC e with he | he
 ·right
  subst he
  have hle : e' ≤ j := zc
  have hv : V 10000 l = z.natAbs := by simpa [aJi] using g5
  have hm : abP ((j : Int) == 1, l, ()) = some (pl z, ()) := aBd g4 zc hv (Or.inr hjb)
  cases f with
  | true =>
   obtain rfl := g7 rfl
   unfold arW
   exact uT rfl (uF (zn (show ¬ (e' > (j : Int)) by omega)) (uC _ hm rfl))
  | false =>
   unfold arW
   dsimp only
   rw [zt]
   exact uF rfl (uF (zn (show ¬ (e' > (j : Int)) by omega)) (uC _ hm rfl))
 ·left
  have he' : e' = ((j + e : Nat) : Int) := zc
  subst he'
  obtain ⟨s, hs, hs1, hs2, hs3, hs4⟩ : ∃ s : Nat, (if (j : Int) > w64 (((j + e : Nat) : Int) - 4) then (j : Int) else w64 (((j + e : Nat) : Int) - 4)) = ((j + s : Nat) : Int) ∧ s ≤ e ∧ e - s ≤ 4 ∧ (s = 0 ∨ s + 4 = e) ∧ s < e := by
   rw [aaA (x := ((j + e : Nat) : Int) - 4) zc]
   rcases zr e 4 with h9 | h9
   ·exact ⟨0, by rw [if_pos zc]; rfl, by omega, by omega, Or.inl rfl, by omega⟩
   ·exact ⟨e - 4, by rw [if_neg zc]; omega, by omega, by omega, Or.inr zc, by omega⟩
  have hseg := aP0 (s := t) hs1 g3
  have hv := aGG (asH (axX hd e) s)
  rw [ayJ hs1 g3] at hv
  have hv4 : (10 : Nat) ^ (e - s) ≤ 10 ^ 4 := zY zc hs2
  have hw4 : w64 (((j + e : Nat) : Int) - 4) = ((j + e : Nat) : Int) - 4 := aaA zc
  generalize hX : num ((t.take e).drop s) = X at hseg hv
  have hD : Dg 10000 (l ++ [(X : Int)]) := afH g4 (ao0 zc zc)
  have hV1 : V 10000 (l ++ [(X : Int)]) + 10000 ^ (l ++ [(X : Int)]).length * (num (t.take s) : Int) = z.natAbs := by
   rw [aeY, aBO, ← g5, hseg, zH, yr, zX]
   rcases hs3 with h0 | h0
   ·subst h0; simp [aJi]
   ·rw [show e - s = 4 by omega]
    have : (((num (t.take s) * 10 ^ 4 + X : Nat)) : Int) = (num (t.take s) : Int) * 10000 + X := zi
    rw [this]
    grind
  have inv : (((j + e : Nat) : Int) - 4 = ((j + s : Nat) : Int) ∨ (s = 0 ∧ ((j + e : Nat) : Int) - 4 ≤ j ∧ -10 ≤ ((j + e : Nat) : Int) - 4)) := zc
  refine ⟨(((j + e : Nat) : Int) - 4, false, l ++ [(X : Int)], ()), ?_, ⟨s, inv, by omega, hD, hV1, by simp; omega, by simp⟩, by simp only; omega, ze⟩
  cases f with
  | false =>
   simp only [arW]
   refine uF rfl (uT sd (uO (((j + s : Nat) : Int), 0, ()) (by repeat refine za ?_; rw [hs]; rfl) ?_))
   refine aaK (fun i : Int × Int × Unit => ∃ q : Nat, s ≤ q ∧ q ≤ e ∧ i = (((j + q : Nat) : Int), (num ((t.take q).drop s) : Int), ())) (fun i => (((j + e : Nat) : Int) - i.1).toNat) (fun _ => (Sum.inl (((j + e : Nat) : Int) - 4, false, l ++ [(X : Int)], ()) : (Int × Bool × List Int × Unit) ⊕ (PlT × Unit))) ?_ _ ⟨s, zq _, hs1, by rw [yv zh]; rfl⟩
   rintro i ⟨q, h1, h2, rfl⟩
   rcases zr q e with hq | hq
   ·left
    refine ⟨(((j + (q + 1) : Nat) : Int), (num ((t.take (q + 1)).drop s) : Int), ()), ?_, ⟨q + 1, by omega, by omega, rfl⟩, by simp only; omega, ze⟩
    simp only [aD0, aaL, aFx hd hget h1 hq g3 hs2]
    refine uT sd (uN ⟨by omega, by exact sn⟩ ?_)
    repeat refine za ?_
    rw [aaI, aaA (x := ((j + q : Nat) : Int) + 1) zc]; rfl
   ·right
    have hqe : q = e := zc
    subst hqe
    simp only [aD0, hX, zt, hw4]
    refine uF sd (uN zc ?_)
    repeat refine za ?_
    rfl
  | true =>
   obtain rfl := g7 rfl
   simp only [arW]
   refine uT rfl (uT sd (uO (((j + s : Nat) : Int), 0, ()) (by repeat refine za ?_; rw [hs]; rfl) ?_))
   refine aaK (fun i : Int × Int × Unit => ∃ q : Nat, s ≤ q ∧ q ≤ e ∧ i = (((j + q : Nat) : Int), (num ((t.take q).drop s) : Int), ())) (fun i => (((j + e : Nat) : Int) - i.1).toNat) (fun _ => (Sum.inl (((j + e : Nat) : Int) - 4, false, [(X : Int)], ()) : (Int × Bool × List Int × Unit) ⊕ (PlT × Unit))) ?_ _ ⟨s, zq _, hs1, by rw [yv zh]; rfl⟩
   rintro i ⟨q, h1, h2, rfl⟩
   rcases zr q e with hq | hq
   ·left
    refine ⟨(((j + (q + 1) : Nat) : Int), (num ((t.take (q + 1)).drop s) : Int), ()), ?_, ⟨q + 1, by omega, by omega, rfl⟩, by simp only; omega, ze⟩
    simp only [aD1, aaL, aFx hd hget h1 hq g3 hs2]
    refine uT sd (uN ⟨by omega, by exact sn⟩ ?_)
    repeat refine za ?_
    rw [aaI, aaA (x := ((j + q : Nat) : Int) + 1) zc]; rfl
   ·right
    have hqe : q = e := zc
    subst hqe
    simp only [aD1, hX, hw4]
    refine uF sd (uN zc ?_)
    repeat refine za ?_
    rfl
theorem aDe {l : List Int} (h : Dg 10000 l) (k : Nat) : V 10000 (l.drop k) = V 10000 l / 10000 ^ k := by
 have h1 := acQ 10000 l k
 have h2 := adV zc h k
 have h3 := aaT zc (acO h k)
 rw [h1, vJ _ _ (by have := aD3 (show (1 : Int) ≤ 10000 by omega) k; omega), xv h3 h2, vu]
theorem aIX {R b top first P : Int} (hP : 0 < P) (hb0 : 0 < b) (htop : 10000 ≤ top) (hb1 : top * P ≤ b) (hb2 : b < (top + 1) * P) (hf1 : first * P ≤ R) (hf2 : R < (first + 1) * P) (hR0 : 0 ≤ R) (hR : R < b * 10000) (hf0 : 0 ≤ first) :
  (first / (top + 1)) * b ≤ R ∧ R < (first / top + 1) * b ∧ first / top + 1 ≤ 10001 ∧ 0 ≤ first / (top + 1) ∧ first ≤ 100000000000000 * top := by
 have g1 := yk first (top + 1)
 have g2 := yQ first (show top + 1 ≠ 0 by omega)
 have g3 := yk first top
 have g4 := yB first (show 0 < top by omega)
 have g7 := yQ first (show top ≠ 0 by omega)
 have g5 := xJ hf0 (show 0 ≤ top + 1 by omega)
 have g6 := xJ hf0 (show 0 ≤ top by omega)
 generalize first / (top + 1) = L at *
 generalize first / top = H at *
 generalize first % (top + 1) = m1 at *
 generalize first % top = m2 at *
 refine ⟨?_, ?_, ?_, g5, ?_⟩
 ·have a1 : L * b ≤ L * ((top + 1) * P) := zD zc g5
  have a2 : L * ((top + 1) * P) = ((top + 1) * L) * P := by grind
  have a3 : ((top + 1) * L) * P ≤ first * P := zE zc zc
  omega
 ·have a1 : (H + 1) * (top * P) ≤ (H + 1) * b := zD hb1 zc
  have a2 : (H + 1) * (top * P) = (top * H + top) * P := by grind
  have a3 : (first + 1) * P ≤ (top * H + top) * P := zE zc zc
  omega
 ·have a1 : first * P < ((top + 1) * 10000) * P := by
   have : b * 10000 < ((top + 1) * P) * 10000 := zc
   have e : ((top + 1) * P) * 10000 = ((top + 1) * 10000) * P := by grind
   omega
  have a2 : first < (top + 1) * 10000 := yf a1 zc
  have a3 : top * H < top * 10001 := zc
  have := yU a3 zc
  omega
 ·have a1 : first * P < ((top + 1) * 10000) * P := by
   have : b * 10000 < ((top + 1) * P) * 10000 := zc
   have e : ((top + 1) * P) * 10000 = ((top + 1) * 10000) * P := by grind
   omega
  have a2 : first < (top + 1) * 10000 := yf a1 zc
  omega
theorem aF5 (m o : List Int) (y) (h : alD (m, o, ()) = some y) : (auO m o).toO = some y := by
 obtain ⟨⟨a, b⟩, hn, hx, rfl⟩ := aaC h
 obtain ⟨rfl, hx2⟩ := Prod.mk.inj hx; obtain ⟨rfl, -⟩ := Prod.mk.inj hx2; dsimp only
 obtain ⟨la, lb, hb0⟩ := hn
 simp only at la lb hb0
 clear h hx hx2
 have hda := adU a
 have hdb := adU b
 have hVa := ah3 a
 have hVb := ah3 b
 have hbl : 1 ≤ (dig b).length := by
  rcases zC (dig b).length with h5 | h5
  ·exact absurd (dig_nil_iff.1 (zV.1 h5)) hb0
  ·exact h5
 unfold auO
 by_cases h1 : (dig b).length = 1
 ·-- one digit
  refine uT sd (uN ⟨by simp [asT], by exact sn⟩ ?_)
  have hb1 : b < 10000 := by have := dig_length_le_iff.1 (vM h1); simpa using this
  have hdb1 : dig b = [(b : Int)] := aQ3 hb0 hb1
  have hg : gi (dig b) 0 0 = (b : Int) := by rw [hdb1]; rfl
  rw [hg]
  refine uC _ (aRP zc zc hb1) ?_
  have hm := yW a (show 0 < b by omega)
  generalize a % b = r at hm ⊢
  refine uC (dig r, ()) (ahE (ao0 (show (0 : Int) ≤ (r : Int) by omega) (show (r : Int) < 10000 by omega)) zi (by simp [V])) rfl
 obtain ⟨n, hnl⟩ : ∃ n, (dig b).length = n + 2 := ⟨(dig b).length - 2, by omega⟩
 have w1 : w64 (len (dig b) - 1) = ((n + 1 : Nat) : Int) := by rw [aaB, hnl, aaA zc]; omega
 have w2 : w64 (((n + 1 : Nat) : Int) - 1) = ((n : Nat) : Int) := by rw [aaA zc]; omega
 have bge : 10000 ^ (n + 1) ≤ b := by have := azG (B := 10000) zc hb0; rw [show (axI 10000 b).length = n + 2 from hnl] at this; exact this
 refine uF sd ?_
 simp only [w1]
 by_cases h2 : (dig a).length ≤ n + 1
 ·-- the dividend is shorter
  refine uT sd (uN zc ?_)
  have hab : a < b := yn (dig_length_le_iff.1 h2) bge
  rw [aaI, xd hab, yG hab, dig_zero]
  simp
 have hq : ∃ M, (dig a).length = M + (n + 1) ∧ 0 < M := ⟨(dig a).length - (n + 1), by omega, by omega⟩
 obtain ⟨M, hM, hM0⟩ := hq
 have w3 : w64 (len (dig a) - ((n + 1 : Nat) : Int)) = (M : Int) := by rw [aaB, hM, aaA zc]; omega
 refine uF sd ?_
 simp only [w2, w3]
 refine uN sd (uN sd (uN zc (uN sd ?_)))
 simp only [zp]
 have htk : List.take ((dig a).length - M) ((dig a).drop M) = (dig a).drop M := zy zi
 simp only [htk]
 have htk2 : List.take (0 + ((dig a).drop M).length) (List.take 0 ([] : List Int) ++ (dig a).drop M) = (dig a).drop M := by rw [zv, List.take_zero, xo, zt]
 simp only [htk2]
 refine uN zh ?_
 have w4 : w64 ((M : Int) - 1) = (M : Int) - 1 := aaA zc
 refine uO ((M : Int) - 1, (dig a).drop M, List.replicate M 0, ()) ?_ ?_
 ·repeat refine za ?_
  rw [aaI, w4]
 -- the first two digits of the divisor
 have dB1 := aa5 zc hdb (n + 1)
 have dB0 := aa5 zc hdb n
 have hBtop : 1 ≤ (dig b).getD (n + 1) 0 := by
  have hc := aLi b
  unfold Cn at hc
  rw [yT, hnl, show n + 2 - 1 = n + 1 by omega, zS zc] at hc
  rw [akB zc] at *
  rcases zQ 0 (dig b)[n + 1] with h | h
  ·exact h
  ·exact absurd (by congr 1; omega) hc
 have htopV : V 10000 ((dig b).drop n) = (dig b).getD (n + 1) 0 * 10000 + (dig b).getD n 0 := by
  have e1 := aaU 10000 (dig b) n
  have e2 := aaU 10000 (dig b) (n + 1)
  have e3 := acY 10000 (l := dig b) (k := n + 1 + 1) zc
  omega
 have htop2 := aDe hdb n
 rw [hVb] at htop2
 have hwtop : w64 (w64 (gi (dig b) ((n + 1 : Nat) : Int) 0 * 10000) + gi (dig b) (n : Int) 0) = (dig b).getD (n + 1) 0 * 10000 + (dig b).getD n 0 := by
  rw [aaL, aaL, aaA (x := (dig b).getD (n + 1) 0 * 10000) zc, aaA zc]
 have hwtop1 : w64 ((dig b).getD (n + 1) 0 * 10000 + (dig b).getD n 0 + 1) = (dig b).getD (n + 1) 0 * 10000 + (dig b).getD n 0 + 1 := aaA zc
 have htop3 : 10000 ≤ (dig b).getD (n + 1) 0 * 10000 + (dig b).getD n 0 ∧ (dig b).getD (n + 1) 0 * 10000 + (dig b).getD n 0 < 100000000 := zc
 rw [← htopV] at htop3
 have hP : (0 : Int) < 10000 ^ n := yJ zc
 have hbt1 : V 10000 ((dig b).drop n) * 10000 ^ n ≤ (b : Int) := by
  rw [htop2]; exact Int.ediv_mul_le _ zc
 have hbt2 : (b : Int) < (V 10000 ((dig b).drop n) + 1) * 10000 ^ n := by
  rw [htop2]; exact Int.lt_ediv_add_one_mul_self _ hP
 rw [← htopV] at hwtop hwtop1
 generalize htv : V 10000 ((dig b).drop n) = top at *
 clear htopV htop2 dB1 dB0 hBtop htv
 have hR0 : V 10000 ((dig a).drop M) < (b : Int) := by
  have := aN1 zc (acP hda M)
  rw [yz, show (dig a).length - M = n + 1 by omega] at this
  have hb2 : ((10000 ^ (n + 1) : Nat) : Int) ≤ (b : Int) := wO.2 bge
  rw [wh] at hb2
  exact Int.lt_of_lt_of_le this hb2
 have hcR0 : Cn ((dig a).drop M) := by
  have hc := aLi a
  unfold Cn at hc ⊢
  rw [List.getLast?_drop, if_neg zc]
  exact hc
 refine aaK (fun i : Int × List Int × List Int × Unit => ∃ (k : Nat) (R : Nat), k ≤ M ∧ i.1 = (k : Int) - 1 ∧ i.2.1 = dig R ∧ R < b ∧ i.2.2.1.length = M ∧ Dg 10000 i.2.2.1 ∧ V 10000 ((dig a).drop k) = V 10000 (i.2.2.1.drop k) * b + R) (fun i => (i.1 + 1).toNat) (fun _ => (dig (a / b), dig (a % b), ())) ?_ _ ?_
 case refine_2 =>
  obtain ⟨R, hR⟩ := zu (aaT zc (acP hda M))
  refine ⟨M, R, zq _, rfl, aEJ (acP hda M) hcR0 hR, by omega, by simp, ahF zc _, ?_⟩
  rw [hR, acY _ zi]; simp
 rintro ⟨i, r, q, u⟩ ⟨k, R, g1, g2, g3, g4, g5, g6, g7⟩
 dsimp only at g2 g3 g5 g6 g7
 subst g2 g3
 cases k with
 | zero =>
  right
  simp only [yK, hVa] at g7
  obtain ⟨v, hv⟩ := zu (aaT zc g6)
  rw [hv] at g7
  have h8 : a = v * b + R := by
   have : (a : Int) = ((v * b + R : Nat) : Int) := by simpa using g7
   exact Int.ofNat.inj this
  have h9 : a / b = v := by rw [h8, xe, wQ _ _ zc, xd zc, zv]
  have h10 : a % b = R := by rw [h8, xe, wi, yG zc]
  simp only [aqT, w1, w3, zp]
  refine uF sd (uC (dig v, ()) ?_ ?_)
  ·rw [zy zc]
   exact ahE g6 zc hv
  ·rw [aaI, h9, h10]
 | succ j =>
  left
  have e6 : ((j + 1 : Nat) : Int) - 1 = (j : Int) := zc
  rw [e6]
  have da := aa5 zc hda j
  obtain ⟨d, hd⟩ := zu da.1
  have lR : (dig R).length ≤ n + 2 := by rw [← hnl]; exact acK zc
  -- the next rest
  obtain ⟨R', hR'⟩ : ∃ R', R' = d + 10000 * R := ⟨_, rfl⟩
  have hR'b : R' < b * 10000 := zc
  have hcut : ac3 ((dig a).getD j 0 :: dig R, ()) = some (dig R', ()) := by
   rw [hd]
   refine ahE (aFg ⟨by omega, by omega⟩ (adU R)) zh ?_
   simp only [V, ah3, hR']; simp
  have lR' : (dig R').length ≤ n + 3 := by
   rw [dig_length_le_iff]
   have := dig_length_le_iff.1 (vM hnl)
   rw [show n + 3 = (n + 2) + 1 by omega, yC]
   exact yn hR'b (zU _ (vO this))
  have hdR := adU R'
  have hVR := ah3 R'
  -- its first three digits
  have hf := aDe hdR n
  rw [hVR] at hf
  have hf1 : V 10000 ((dig R').drop n) * 10000 ^ n ≤ (R' : Int) := by rw [hf]; exact Int.ediv_mul_le _ zc
  have hf2 : (R' : Int) < (V 10000 ((dig R').drop n) + 1) * 10000 ^ n := by rw [hf]; exact Int.lt_ediv_add_one_mul_self _ hP
  have hf0 := aaT zc (acP hdR n)
  obtain ⟨k1, k2, k3, k4, k5⟩ := aIX hP zc htop3.1 hbt1 hbt2 hf1 hf2 zc zc hf0
  have hfirst : adK (fun i1 => (afK (dig a) (dig b) ((j : Int), dig R, q, ()) (dig R', ()) i1).toO) (((n + 2 : Nat) : Int), 0, ()) = adK (fun i1 => (afK (dig a) (dig b) ((j : Int), dig R, q, ()) (dig R', ()) i1).toO) ((n : Int) - 1, V 10000 ((dig R').drop n), ()) := by
   have st : ∀ (t : Nat) (v : Int), n ≤ t → t ≤ n + 2 → v = V 10000 ((dig R').drop (t + 1)) → (afK (dig a) (dig b) ((j : Int), dig R, q, ()) (dig R', ()) ((t : Int), v, ())).toO = some (.inl ((t : Int) - 1, V 10000 ((dig R').drop t), ())) := by
    intro t v ht1 ht2 hv
    have e1 := aaU 10000 (dig R') t
    have e2 := aa5 zc hdR t
    have e3 := aaT zc (acP hdR (t + 1))
    have e4 : V 10000 ((dig R').drop (t + 1)) < 10000 ^ 2 := by
     have := aN1 zc (acP hdR (t + 1))
     have h7 : (10000 : Int) ^ ((dig R').drop (t + 1)).length ≤ 10000 ^ 2 := aIZ zc (by rw [yz]; omega)
     omega
    subst hv
    simp only [afK, w1, w2, aaL]
    refine uT sd ?_
    by_cases ct : t < (dig R').length
    ·refine uT sd (uN sd ?_)
     repeat refine za ?_
     rw [aaI, aaA (x := (t : Int) - 1) zc, aaA (x := V 10000 ((dig R').drop (t + 1)) * 10000) zc, aaA zc, e1, Int.add_comm, yM]
    ·refine uF sd ?_
     repeat refine za ?_
     rw [aiS zc] at e1
     rw [aaI, aaA (x := (t : Int) - 1) zc, aaA zc, e1, vu, yM]
   have s1 := st (n + 2) 0 zc zc (by rw [acY _ zc])
   rw [show (((n + 2 : Nat) : Int)) - 1 = ((n + 1 : Nat) : Int) by omega] at s1
   rw [ac7 s1]
   have s2 := st (n + 1) _ zc zc rfl
   rw [show (((n + 1 : Nat) : Int)) - 1 = ((n : Nat) : Int) by omega] at s2
   rw [ac7 s2]
   rw [ac7 (st n _ zc zc rfl)]
  -- the search
  obtain ⟨Q, hQ⟩ : ∃ Q : Nat, Q = R' / b := ⟨_, rfl⟩
  have hQm := xZ R' b
  have hQl := yW R' (show 0 < b by omega)
  rw [← hQ] at hQm
  have hQ4 : Q < 10000 := by
   rw [hQ, yE zc, yN]; exact hR'b
  have hRQ : (R' : Int) = (Q : Int) * b + ((R' % b : Nat) : Int) := by
   have : (R' : Int) = ((R' % b + b * Q : Nat) : Int) := by rw [hQm]
   rw [this]; simp; rw [yM]; omega
  have res : adK (fun i1 => (afK (dig a) (dig b) ((j : Int), dig R, q, ()) (dig R', ()) i1).toO) (((n + 2 : Nat) : Int), 0, ()) = some (Sum.inl ((j : Int) - 1, dig (R' % b), q.set j (Q : Int), ())) := by
   rw [hfirst]
   refine acS ?_
   simp only [afK, w1, w2, hwtop, hwtop1]
   refine uF sd (uN zc (uN zc ?_))
   have hd1 : Int.tdiv (V 10000 ((dig R').drop n)) top = V 10000 ((dig R').drop n) / top := zL hf0
   have hd2 : Int.tdiv (V 10000 ((dig R').drop n)) (top + 1) = V 10000 ((dig R').drop n) / (top + 1) := zL hf0
   simp only [hd1, hd2]
   have hn1 := xJ hf0 (show 0 ≤ top by omega)
   have hlow : V 10000 ((dig R').drop n) / (top + 1) ≤ Q := by
    have : V 10000 ((dig R').drop n) / (top + 1) * b < ((Q : Int) + 1) * b := by
     rw [wY]; omega
    have := yf this zc
    omega
   have hhigh : (Q : Int) < V 10000 ((dig R').drop n) / top + 1 := by
    have : (Q : Int) * b < (V 10000 ((dig R').drop n) / top + 1) * b := zc
    exact yf this zc
   have wH : w64 (w64 (V 10000 ((dig R').drop n) / top) + 1) = V 10000 ((dig R').drop n) / top + 1 := by
    rw [aaA (x := V 10000 ((dig R').drop n) / top) zc, aaA zc]
   have wL : w64 (V 10000 ((dig R').drop n) / (top + 1)) = V 10000 ((dig R').drop n) / (top + 1) := aaA zc
   simp only [wH, wL]
   generalize V 10000 ((dig R').drop n) / top + 1 = H at *
   generalize V 10000 ((dig R').drop n) / (top + 1) = L at *
   refine uO (H, L, ()) (by repeat refine za ?_; rfl) ?_
   refine aaK (fun i2 : Int × Int × Unit => 0 ≤ i2.2.1 ∧ i2.2.1 ≤ Q ∧ (Q : Int) < i2.1 ∧ i2.1 ≤ 10001) (fun i2 => (i2.1 - i2.2.1).toNat) (fun _ => (.inr (.inl ((j : Int) - 1, dig (R' % b), q.set j (Q : Int), ())) : (Int × Int × Unit) ⊕ ((Int × List Int × List Int × Unit) ⊕ (List Int × List Int × Unit)))) ?_ _ ⟨k4, hlow, hhigh, k3⟩
   rintro ⟨hi, lo, u3⟩ ⟨c1, c2, c3, c4⟩
   dsimp only at c1 c2 c3 c4
   have wd : w64 (hi - lo) = hi - lo := aaA zc
   simp only [ay5, wd]
   by_cases hgap : hi - lo > 1
   ·left
    have wm : w64 (Int.tdiv (w64 (lo + hi)) 2) = (lo + hi) / 2 := by
     rw [aaA (x := lo + hi) zc, zL zc, aaA zc]
    simp only [wm]
    obtain ⟨mm, hmm⟩ := zu (show 0 ≤ (lo + hi) / 2 by omega)
    rw [hmm]
    have hmB : mm ≤ 10000 ∧ 1 ≤ mm := zc
    have hprod : ab2 (dig b, [(mm : Int)], ()) = some (dig (b * mm), ()) := by
     refine aoW hdb ?_ zc zi (by rw [hVb]; simp [V])
     by_cases cm : mm = 10000
     ·right; rw [cm]; rfl
     ·left; exact ao0 zc zc
    have lbm : (dig (b * mm)).length ≤ 1000000000000 := by
     have : (dig (b * mm)).length ≤ (dig b).length + 2 := by
      rw [dig_length_le_iff, xF]
      have q1 := dig_length_le_iff.1 (zq (dig b).length)
      exact Nat.mul_lt_mul'' q1 zc
     omega
    have hcutp : ac3 (dig (b * mm), ()) = some (dig (b * mm), ()) := ahE (adU _) lbm (ah3 _)
    obtain ⟨o1, o2⟩ := aKV (b * mm) R'
    have hle : aTS (dig (b * mm)) (dig R') ≤ 0 ↔ b * mm ≤ R' := zc
    have hmQ : b * mm ≤ R' ↔ mm ≤ Q := by
     rw [hQ, wg zc, yN]
    by_cases cm : mm ≤ Q
    ·refine ⟨(hi, (mm : Int), ()), ?_, ⟨by dsimp only; omega, by dsimp only; omega, c3, c4⟩, by dsimp only; omega, ze⟩
     refine uT (zo hgap) (uV ?_)
     refine uC _ hprod (uC _ hcutp (uC _ (av8 _ _ (adU _) (adU _) lbm zc) (uT (zo (hle.2 (hmQ.2 cm))) ?_)))
     repeat refine za ?_
     rfl
    ·refine ⟨((mm : Int), lo, ()), ?_, ⟨c1, c2, by dsimp only; omega, by dsimp only; omega⟩, by dsimp only; omega, ze⟩
     refine uT (zo hgap) (uV ?_)
     refine uC _ hprod (uC _ hcutp (uC _ (av8 _ _ (adU _) (adU _) lbm zc) (uF (zn (fun h => cm (hmQ.1 (hle.1 h)))) ?_)))
     repeat refine za ?_
     rfl
   ·right
    have hlQ : lo = Q := zc
    subst hlQ
    refine uF (zn hgap) ?_
    simp only [w1, w3, zp]
    refine uN ⟨by omega, by omega⟩ ?_
    have hprod : ab2 (dig b, [(Q : Int)], ()) = some (dig (b * Q), ()) := aoW hdb (Or.inl (ao0 zc zc)) zc zi (by rw [hVb]; simp [V])
    have hdiff : abF (dig R', dig (b * Q), ()) = some (dig (R' % b), ()) := by
     have := aoX (a := dig R') (b := dig (b * Q)) (n := R' % b) (adU _) (adU _) zc (acK zc) (by rw [ah3, ah3]; omega) (by rw [ah3, ah3]; omega)
     exact this
    refine uC _ hprod (uC _ hdiff ?_)
    repeat refine za ?_
    rw [aaI, aaA (x := (j : Int) - 1) zc, zv]
  refine ⟨((j : Int) - 1, dig (R' % b), q.set j (Q : Int), ()), ?_, ⟨j, R' % b, by omega, rfl, rfl, hQl, by simp; omega, aj4 g6 ⟨by omega, by omega⟩ _, ?_⟩, by dsimp only; omega, ze⟩
  ·simp only [aqT, aaL, w1]
   have htk3 : List.take (1 + (dig R).length) ([(dig a).getD j 0] ++ dig R) = (dig a).getD j 0 :: dig R := by
    rw [zy zh]; rfl
   simp only [htk3]
   have w5 : w64 (((n + 1 : Nat) : Int) + 1) = ((n + 2 : Nat) : Int) := by rw [aaA zc]; omega
   simp only [w5]
   refine uT sd (uN sd (uN zc (uC _ hcut ?_)))
   refine uO (((n + 2 : Nat) : Int), 0, ()) (by repeat refine za ?_; rfl) ?_
   exact res
  ·dsimp only
   rw [aaU 10000 (dig a) j, hd, g7, aaU 10000 (q.set j _) j, aq4 zc, aiV _ zc]
   have : (d : Int) + 10000 * (V 10000 (q.drop (j + 1)) * b + R) = 10000 * (V 10000 (q.drop (j + 1)) * b) + R' := by rw [hR']; simp; grind
   rw [this, hRQ]
   grind
set_option maxRecDepth 100000
open Go Go.Vg Go.Proofs
noncomputable section
def aIM : LTab := []
def aqS (n : Bool × List Int × Unit) (d : Bool × List Int × Unit) : TT tc :=
 .ite (d.1)
 (.call (ai3 ((n.1, n.2.1, ()), ())) ah8 fun y =>
 .call (ai3 ((d.1, d.2.1, ()), ())) ah8 fun y1 =>
 .call (af0 ((y.1.1, y.1.2.1, ()), (y1.1.1, y1.1.2.1, ()), ())) ah8 fun y2 =>
 .call (afZ ((y.1.1, y.1.2.1, ()), (y2.1.1, y2.1.2.1, ()), ())) aVW fun y3 =>
 .call (afZ ((y1.1.1, y1.1.2.1, ()), (y2.1.1, y2.1.2.1, ()), ())) aVW fun y4 =>
 .ok ((((y3.1.1, y3.1.2.1, ()), (y4.1.1, y4.1.2.1, ()), ()), ())))
 (.call (af0 ((n.1, n.2.1, ()), (d.1, d.2.1, ()), ())) ah8 fun y5 =>
 .call (afZ ((n.1, n.2.1, ()), (y5.1.1, y5.1.2.1, ()), ())) aVW fun y6 =>
 .call (afZ ((d.1, d.2.1, ()), (y5.1.1, y5.1.2.1, ()), ())) aVW fun y7 =>
 .ok ((((y6.1.1, y6.1.2.1, ()), (y7.1.1, y7.1.2.1, ()), ()), ())))
def aMf : LTab := []
def aCe (n : Int) (d : Int) : TT tc :=
 .call (abR (n, ())) ah8 fun y =>
 .call (abR (d, ())) ah8 fun y1 =>
 .call (afR (y.1, y1.1, ())) ai9 fun y2 =>
 .ok ((((y2.1.1.1, y2.1.1.2.1, ()), (y2.1.2.1.1, y2.1.2.1.2.1, ()), ()), ()))
def aMe : LTab := []
def auN (a : List UInt8 × List UInt8 × Unit) : TT uP :=
 .call (ag2 (a.1, ())) Dd1 fun y =>
 .ite (!y.1)
 (.ok ((false, ())))
 (.call (ag2 (a.2.1, ())) Dd1 fun y1 =>
 .ite (!y1.1)
 (.ok ((false, ())))
 (.call (arK (a.1, ())) ah8 fun y2 =>
 .call (arK (a.2.1, ())) ah8 fun y3 =>
 .ite (y3.1.1)
 (.ok ((false, ())))
 (.ite (len y3.1.2.1 == 0)
 (.ok ((false, ())))
 (.call (af0 ((y2.1.1, y2.1.2.1, ()), (y3.1.1, y3.1.2.1, ()), ())) ah8 fun y4 =>
 .call (aoQ (y4.1, ())) Dd2 fun y5 =>
 .ok ((y5.1 == #[49].toList, ()))))))
def aMn : LTab := []
def aCi (a : List UInt8 × List UInt8 × Unit) : TT uS :=
 .call (abA ((a.1, a.2.1, ()), ())) Dd1 fun y =>
 .ite (!y.1)
 (.ok ((20, ())))
 (.ok ((0, ())))
def aUm : LTab := []
def aPe (a : List UInt8 × List UInt8 × Unit) : TT tc :=
 .call (arK (a.1, ())) ah8 fun y =>
 .call (arK (a.2.1, ())) ah8 fun y1 =>
 .ok ((((y.1.1, y.1.2.1, ()), (y1.1.1, y1.1.2.1, ()), ()), ()))
def aSo : LTab := []
def aKI (r : ut × ut × Unit) : TT uI :=
 .call (atI ((r.1.1, r.1.2.1, ()), ())) aKm fun y =>
 .call (atI ((r.2.1.1, r.2.1.2.1, ()), ())) aKm fun y1 =>
 .ite (y.2.1 != 0)
 (.ok (((#[].toList, #[].toList, ()), 6, ())))
 (.ite (y1.2.1 != 0)
 (.ok (((#[].toList, #[].toList, ()), 6, ())))
 (.ok (((y.1, y1.1, ()), 0, ()))))
def aPb : LTab := []
def aFX (a : ut × ut × Unit) (b : ut × ut × Unit) : TT tc :=
 .call (acF ((a.1.1, a.1.2.1, ()), (b.2.1.1, b.2.1.2.1, ()), ())) ah8 fun y =>
 .call (acF ((b.1.1, b.1.2.1, ()), (a.2.1.1, a.2.1.2.1, ()), ())) ah8 fun y1 =>
 .call (ahU (y.1, y1.1, ())) ah8 fun y2 =>
 .call (acF ((a.2.1.1, a.2.1.2.1, ()), (b.2.1.1, b.2.1.2.1, ()), ())) ah8 fun y3 =>
 .call (afR ((y2.1.1, y2.1.2.1, ()), y3.1, ())) ai9 fun y4 =>
 .ok ((((y4.1.1.1, y4.1.1.2.1, ()), (y4.1.2.1.1, y4.1.2.1.2.1, ()), ()), ()))
def aPa : LTab := []
def aFT (a : ut × ut × Unit) : TT tc :=
 .call (ai3 ((a.1.1, a.1.2.1, ()), ())) ah8 fun y =>
 .ok ((((y.1.1, y.1.2.1, ()), (a.2.1.1, a.2.1.2.1, ()), ()), ()))
def aMj : LTab := []
def aCg (a : ut × ut × Unit) (b : ut × ut × Unit) : TT tc :=
 .call (aoO (((b.1.1, b.1.2.1, ()), (b.2.1.1, b.2.1.2.1, ()), ()), ())) ai9 fun y =>
 .call (ai2 (((a.1.1, a.1.2.1, ()), (a.2.1.1, a.2.1.2.1, ()), ()), y.1, ())) ai9 fun y1 =>
 .ok ((((y1.1.1.1, y1.1.1.2.1, ()), (y1.1.2.1.1, y1.1.2.1.2.1, ()), ()), ()))
def aMc : LTab := []
def aCd (a : ut × ut × Unit) (b : ut × ut × Unit) : TT tc :=
 .call (acF ((a.1.1, a.1.2.1, ()), (b.1.1, b.1.2.1, ()), ())) ah8 fun y =>
 .call (acF ((a.2.1.1, a.2.1.2.1, ()), (b.2.1.1, b.2.1.2.1, ()), ())) ah8 fun y1 =>
 .call (afR (y.1, y1.1, ())) ai9 fun y2 =>
 .ok ((((y2.1.1.1, y2.1.1.2.1, ()), (y2.1.2.1.1, y2.1.2.1.2.1, ()), ()), ()))
def aPc : LTab := []
def aFY (a : ut × ut × Unit) (b : ut × ut × Unit) : TT tc :=
 .call (acF ((a.1.1, a.1.2.1, ()), (b.2.1.1, b.2.1.2.1, ()), ())) ah8 fun y =>
 .call (acF ((a.2.1.1, a.2.1.2.1, ()), (b.1.1, b.1.2.1, ()), ())) ah8 fun y1 =>
 .call (afR (y.1, y1.1, ())) ai9 fun y2 =>
 .ok ((((y2.1.1.1, y2.1.1.2.1, ()), (y2.1.2.1.1, y2.1.2.1.2.1, ()), ()), ()))
def aMh : LTab := []
def aCf (a : ut × ut × Unit) (b : ut × ut × Unit) : TT uS :=
 .call (acF ((a.1.1, a.1.2.1, ()), (b.2.1.1, b.2.1.2.1, ()), ())) ah8 fun y =>
 .call (acF ((b.1.1, b.1.2.1, ()), (a.2.1.1, a.2.1.2.1, ()), ())) ah8 fun y1 =>
 .call (aiC (y.1, y1.1, ())) Dd6 fun y2 =>
 .ok ((y2.1, ()))
def aPg : LTab := []
def aF1 (a : ut × ut × Unit) : TT tq :=
 .call (afZ ((a.1.1, a.1.2.1, ()), (a.2.1.1, a.2.1.2.1, ()), ())) aVW fun y =>
 .ok (((y.1.1, y.1.2.1, ()), ()))
def aUl : LTab := []
def aIL (n : Int) (d : Int) : TT uI :=
 .ite (d == 0)
 (.ok (((#[].toList, #[].toList, ()), 7, ())))
 (.call (aiB (n, d, ())) ai9 fun y =>
 .call (ajX (y.1, ())) adZ fun y1 =>
 .ok (((y1.1.1, y1.1.2.1, ()), y1.2.1, ())))
def aSr : LTab := []
def aKL (a : List UInt8 × List UInt8 × Unit) (b : List UInt8 × List UInt8 × Unit) : TT uv :=
 .call (abA ((a.1, a.2.1, ()), ())) Dd1 fun y =>
 .ite (!y.1)
 (.ok ((0, 20, ())))
 (.call (abA ((b.1, b.2.1, ()), ())) Dd1 fun y1 =>
 .ite (!y1.1)
 (.ok ((0, 20, ())))
 (.call (adG ((a.1, a.2.1, ()), ())) ai9 fun y2 =>
 .call (adG ((b.1, b.2.1, ()), ())) ai9 fun y3 =>
 .call (ae0 (y2.1, y3.1, ())) Dd6 fun y4 =>
 .ok ((y4.1, 0, ()))))
def aSs : LTab := []
def aKM (a : List UInt8 × List UInt8 × Unit) (b : List UInt8 × List UInt8 × Unit) : TT uI :=
 .call (abA ((a.1, a.2.1, ()), ())) Dd1 fun y =>
 .ite (!y.1)
 (.ok (((#[].toList, #[].toList, ()), 20, ())))
 (.call (abA ((b.1, b.2.1, ()), ())) Dd1 fun y1 =>
 .ite (!y1.1)
 (.ok (((#[].toList, #[].toList, ()), 20, ())))
 (.call (adG ((a.1, a.2.1, ()), ())) ai9 fun y2 =>
 .call (adG ((b.1, b.2.1, ()), ())) ai9 fun y3 =>
 .call (ai2 (y2.1, y3.1, ())) ai9 fun y4 =>
 .call (ajX (y4.1, ())) adZ fun y5 =>
 .ok (((y5.1.1, y5.1.2.1, ()), y5.2.1, ()))))
def aSn : LTab := []
def aKH (a : List UInt8 × List UInt8 × Unit) (b : List UInt8 × List UInt8 × Unit) : TT uI :=
 .call (abA ((a.1, a.2.1, ()), ())) Dd1 fun y =>
 .ite (!y.1)
 (.ok (((#[].toList, #[].toList, ()), 20, ())))
 (.call (abA ((b.1, b.2.1, ()), ())) Dd1 fun y1 =>
 .ite (!y1.1)
 (.ok (((#[].toList, #[].toList, ()), 20, ())))
 (.call (adG ((a.1, a.2.1, ()), ())) ai9 fun y2 =>
 .call (adG ((b.1, b.2.1, ()), ())) ai9 fun y3 =>
 .call (apU (y2.1, y3.1, ())) ai9 fun y4 =>
 .call (ajX (y4.1, ())) adZ fun y5 =>
 .ok (((y5.1.1, y5.1.2.1, ()), y5.2.1, ()))))
def aSp : LTab := []
def aKJ (a : List UInt8 × List UInt8 × Unit) (b : List UInt8 × List UInt8 × Unit) : TT uI :=
 .call (abA ((a.1, a.2.1, ()), ())) Dd1 fun y =>
 .ite (!y.1)
 (.ok (((#[].toList, #[].toList, ()), 20, ())))
 (.call (abA ((b.1, b.2.1, ()), ())) Dd1 fun y1 =>
 .ite (!y1.1)
 (.ok (((#[].toList, #[].toList, ()), 20, ())))
 (.call (adG ((a.1, a.2.1, ()), ())) ai9 fun y2 =>
 .call (adG ((b.1, b.2.1, ()), ())) ai9 fun y3 =>
 .call (aiA (y2.1, y3.1, ())) ai9 fun y4 =>
 .call (ajX (y4.1, ())) adZ fun y5 =>
 .ok (((y5.1.1, y5.1.2.1, ()), y5.2.1, ()))))
def aSq : LTab := []
def aKK (a : List UInt8 × List UInt8 × Unit) (b : List UInt8 × List UInt8 × Unit) : TT uI :=
 .call (abA ((a.1, a.2.1, ()), ())) Dd1 fun y =>
 .ite (!y.1)
 (.ok (((#[].toList, #[].toList, ()), 20, ())))
 (.call (abA ((b.1, b.2.1, ()), ())) Dd1 fun y1 =>
 .ite (!y1.1)
 (.ok (((#[].toList, #[].toList, ()), 20, ())))
 (.ite (b.1 == #[48].toList)
 (.ok (((#[].toList, #[].toList, ()), 7, ())))
 (.call (adG ((a.1, a.2.1, ()), ())) ai9 fun y2 =>
 .call (adG ((b.1, b.2.1, ()), ())) ai9 fun y3 =>
 .call (atE (y2.1, y3.1, ())) ai9 fun y4 =>
 .call (ajX (y4.1, ())) adZ fun y5 =>
 .ok (((y5.1.1, y5.1.2.1, ()), y5.2.1, ())))))
def aMm : LTab := []
def aCh (a : List UInt8 × List UInt8 × Unit) (low : List UInt8 × List UInt8 × Unit) (high : List UInt8 × List UInt8 × Unit) : TT uI :=
 .call (abA ((a.1, a.2.1, ()), ())) Dd1 fun y =>
 .ite (!y.1)
 (.ok (((#[].toList, #[].toList, ()), 20, ())))
 (.call (abA ((low.1, low.2.1, ()), ())) Dd1 fun y1 =>
 .ite (!y1.1)
 (.ok (((#[].toList, #[].toList, ()), 20, ())))
 (.call (abA ((high.1, high.2.1, ()), ())) Dd1 fun y2 =>
 .ite (!y2.1)
 (.ok (((#[].toList, #[].toList, ()), 20, ())))
 (.call (adG ((low.1, low.2.1, ()), ())) ai9 fun y3 =>
 .call (adG ((high.1, high.2.1, ()), ())) ai9 fun y4 =>
 .call (ae0 (y3.1, y4.1, ())) Dd6 fun y5 =>
 .ite (decide (y5.1 > 0))
 (.ok (((#[].toList, #[].toList, ()), 2, ())))
 (.call (adG ((a.1, a.2.1, ()), ())) ai9 fun y6 =>
 .call (adG ((low.1, low.2.1, ()), ())) ai9 fun y7 =>
 .call (ae0 (y6.1, y7.1, ())) Dd6 fun y8 =>
 .ite (decide (y8.1 < 0))
 (.ok (((low.1, low.2.1, ()), 0, ())))
 (.call (adG ((a.1, a.2.1, ()), ())) ai9 fun y9 =>
 .call (adG ((high.1, high.2.1, ()), ())) ai9 fun y10 =>
 .call (ae0 (y9.1, y10.1, ())) Dd6 fun y11 =>
 .ite (decide (y11.1 > 0))
 (.ok (((high.1, high.2.1, ()), 0, ())))
 (.ok (((a.1, a.2.1, ()), 0, ()))))))))
def aII : LTab := []
def ay3 (a : ut × ut × Unit) (n : Int) : TT tc :=
 .call (ai4 ((a.1.1, a.1.2.1, ()), n, ())) ah8 fun y =>
 .call (ai4 ((a.2.1.1, a.2.1.2.1, ()), n, ())) ah8 fun y1 =>
 .ok ((((y.1.1, y.1.2.1, ()), (y1.1.1, y1.1.2.1, ()), ()), ()))
def aL9 : LTab := []
def auM (b : Int × Int × Unit) : TT uP :=
 .ite (decide (b.1 ≥ -1000000000000000000))
 (.ite (decide (b.1 ≤ b.2.1))
 (.ok ((decide (b.2.1 ≤ 1000000000000000000), ())))
 (.ok ((false, ()))))
 (.ok ((false, ())))
def aMa : LTab := []
def aCc (b : Int × Int × Unit) : TT uS :=
 .call (aeZ ((b.1, b.2.1, ()), ())) Dd1 fun y =>
 .ite (!y.1)
 (.ok ((30, ())))
 (.ok ((0, ())))
def aL7 : LTab := []
def aCa (n : Int) : TT tc :=
 .call (aiB (n, 1000000000000, ())) ai9 fun y =>
 .ok ((((y.1.1.1, y.1.1.2.1, ()), (y.1.2.1.1, y.1.2.1.2.1, ()), ()), ()))
def aL8 : LTab := []
def aCb (low : ut × ut × Unit) (high : ut × ut × Unit) : TT uH :=
 .call (aiB (1000000000000, 1, ())) ai9 fun y =>
 .call (aiA (((low.1.1, low.1.2.1, ()), (low.2.1.1, low.2.1.2.1, ()), ()), ((y.1.1.1, y.1.1.2.1, ()), (y.1.2.1.1, y.1.2.1.2.1, ()), ()), ())) ai9 fun y1 =>
 .call (aoP (y1.1, ())) ah8 fun y2 =>
 .call (agM (y2.1, ())) aDr fun y3 =>
 .call (aiA (((high.1.1, high.1.2.1, ()), (high.2.1.1, high.2.1.2.1, ()), ()), ((y.1.1.1, y.1.1.2.1, ()), (y.1.2.1.1, y.1.2.1.2.1, ()), ()), ())) ai9 fun y4 =>
 .call (aoO (y4.1, ())) ai9 fun y5 =>
 .call (aoP (y5.1, ())) ah8 fun y6 =>
 .call (agM (y6.1, ())) aDr fun y7 =>
 .ite (y3.2.1 != 0)
 (.ok (((0, 0, ()), 6, ())))
 (.ite (y7.2.1 != 0)
 (.ok (((0, 0, ()), 6, ())))
 (.ite (y7.1 == -9223372036854775808)
 (.ok (((0, 0, ()), 6, ())))
 (.call (aeZ ((y3.1, w64 (0 - y7.1), ()), ())) Dd1 fun y8 =>
 .ite (!y8.1)
 (.ok (((0, 0, ()), 6, ())))
 (.ok (((y3.1, w64 (0 - y7.1), ()), 0, ()))))))
def aIG : LTab := []
def ay2 (a : List UInt8 × List UInt8 × Unit) : TT uH :=
 .call (abA ((a.1, a.2.1, ()), ())) Dd1 fun y =>
 .ite (!y.1)
 (.ok (((0, 0, ()), 20, ())))
 (.call (adG ((a.1, a.2.1, ()), ())) ai9 fun y1 =>
 .call (alB (((y1.1.1.1, y1.1.1.2.1, ()), (y1.1.2.1.1, y1.1.2.1.2.1, ()), ()), ((y1.1.1.1, y1.1.1.2.1, ()), (y1.1.2.1.1, y1.1.2.1.2.1, ()), ()), ())) am9 fun y2 =>
 .ok (((y2.1.1, y2.1.2.1, ()), y2.2.1, ())))
def aSm : LTab := []
def aKG (a : Int × Int × Unit) (b : Int × Int × Unit) : TT uH :=
 .call (aeZ ((a.1, a.2.1, ()), ())) Dd1 fun y =>
 .ite (!y.1)
 (.ok (((0, 0, ()), 30, ())))
 (.call (aeZ ((b.1, b.2.1, ()), ())) Dd1 fun y1 =>
 .ite (!y1.1)
 (.ok (((0, 0, ()), 30, ())))
 (.call (abL (a.1, ())) ai9 fun y2 =>
 .call (abL (b.1, ())) ai9 fun y3 =>
 .call (ai2 (y2.1, y3.1, ())) ai9 fun y4 =>
 .call (abL (a.2.1, ())) ai9 fun y5 =>
 .call (abL (b.2.1, ())) ai9 fun y6 =>
 .call (ai2 (y5.1, y6.1, ())) ai9 fun y7 =>
 .call (alB (y4.1, y7.1, ())) am9 fun y8 =>
 .ok (((y8.1.1, y8.1.2.1, ()), y8.2.1, ()))))
def aL5 : LTab := []
def auK (p : Int) (q : Int) : TT uP :=
 .ite (decide (p ≥ 1))
 (.ite (decide (p ≤ 36))
 (.ite (decide (q ≥ 1))
 (.ok ((decide (q ≤ 12), ())))
 (.ok ((false, ()))))
 (.ok ((false, ()))))
 (.ok ((false, ())))
def aO8 : LTab := []
def ay1 (lo : Int) (hi : Int) : TT uH :=
 .call (aeZ ((lo, hi, ()), ())) Dd1 fun y =>
 .ite (!y.1)
 (.ok (((0, 0, ()), 6, ())))
 (.ok (((lo, hi, ()), 0, ())))
def aO9 : LTab := [(167, 28, 4096, ⟨0, (Int) × (Int) × Unit, .dat (.s 6) uq <| .dat (.s 5) uq <| .nil, [4, 2, 1], [0], 0⟩)]
def aB9 (x : ut × ut × Unit) (q : Int) (i : (Int) × (Int) × Unit) : TT (uQ ⊕ uS) :=
 .ite (decide (w64 (i.1 - i.2.1) > 1))
 (.triv (asT Int 2 ≠ 0) zf <| .call (abL (w64 (Int.tdiv (w64 (i.2.1 + i.1)) 2), ())) ai9 fun y =>
 .call (afQ (y.1, q, ())) ai9 fun y1 =>
 .call (ae0 (y1.1, ((x.1.1, x.1.2.1, ()), (x.2.1.1, x.2.1.2.1, ()), ()), ())) Dd6 fun y2 =>
 .ite (decide (y2.1 ≤ 0))
 (.tt <| .lt (w64 (Int.tdiv (w64 (i.2.1 + i.1)) 2) : Int) fun z => .vW (uh z i.1 (0 : Int) <| ux ∧ uf q) <| .vW (vV (um 89 x.1.1 x.1.2.1 x.2.1.1 x.2.1.2.1) True) <| .ok (.inl ((i.1, z, ()))))
 (.tt <| .lt (w64 (Int.tdiv (w64 (i.2.1 + i.1)) 2) : Int) fun z1 => .lt (i.2.1 : Int) fun z2 => .vW (uh z2 z1 (0 : Int) <| ux ∧ uf q) <| .vW (vV (um 89 x.1.1 x.1.2.1 x.2.1.1 x.2.1.2.1) True) <| .ok (.inl ((z1, z2, ())))))
 (.ok (.inr ((i.2.1, ()))))
def aFN (x : ut × ut × Unit) (q : Int) : TT uS :=
 .loop 0 (.tt <| .vW (uh (0 : Int) (1000000000000000002 : Int) (0 : Int) <| ux ∧ uf q) <| .vW (vV (um 89 x.1.1 x.1.2.1 x.2.1.1 x.2.1.2.1) True) <| .ok ((1000000000000000002, 0, ()))) (aB9 x q)
def aUk : LTab := []
def aO6 (x : ut × ut × Unit) (q : Int) : TT uS :=
 .call (aoN (((x.1.1, x.1.2.1, ()), (x.2.1.1, x.2.1.2.1, ()), ()), q, ())) Dd6 fun y =>
 .call (abL (y.1, ())) ai9 fun y1 =>
 .call (afQ (y1.1, q, ())) ai9 fun y2 =>
 .call (ae0 (y2.1, ((x.1.1, x.1.2.1, ()), (x.2.1.1, x.2.1.2.1, ()), ()), ())) Dd6 fun y3 =>
 .ite (decide (y3.1 < 0))
 (.ok ((w64 (y.1 + 1), ())))
 (.ok ((y.1, ())))
def aL6 : LTab := []
def auL (b : Int × Int × Unit) (p : Int) (q : Int) : TT uH :=
 .call (aeZ ((b.1, b.2.1, ()), ())) Dd1 fun y =>
 .ite (!y.1)
 (.ok (((0, 0, ()), 30, ())))
 (.call (av0 (p, q, ())) Dd1 fun y1 =>
 .ite (!y1.1)
 (.ok (((0, 0, ()), 2, ())))
 (.ite (decide (b.1 < 0))
 (.ok (((0, 0, ()), 2, ())))
 (.call (abL (b.1, ())) ai9 fun y2 =>
 .call (afQ (y2.1, p, ())) ai9 fun y3 =>
 .call (aoN (y3.1, q, ())) Dd6 fun y4 =>
 .call (abL (b.2.1, ())) ai9 fun y5 =>
 .call (afQ (y5.1, p, ())) ai9 fun y6 =>
 .call (aE6 (y6.1, q, ())) Dd6 fun y7 =>
 .call (atD (y4.1, y7.1, ())) am9 fun y8 =>
 .ok (((y8.1.1, y8.1.2.1, ()), y8.2.1, ())))))
end
theorem ao6 {p q : Rat × Rat} (h : (ra p.1, ra p.2, ()) = (ra q.1, ra q.2, ())) : p = q := by
 obtain ⟨h1, h2⟩ := Prod.mk.inj h
 obtain ⟨h2, -⟩ := Prod.mk.inj h2
 exact Prod.ext (awF h1) (awF h2)
theorem aw1 (n d : Int) (hd : d ≠ 0) : ∃ s : Int, s.natAbs = n.natAbs ∧ Rat.divInt n d = mkRat s d.natAbs ∧ s = (if d < 0 then -n else n) := by
 rcases zQ d 0 with c | c
 ·refine ⟨-n, by omega, ?_, by rw [if_pos c]⟩
  rw [← Rat.neg_divInt_neg, ← xl]
  congr 1; omega
 ·refine ⟨n, rfl, ?_, by rw [if_neg zc]⟩
  rw [← xl]
  congr 1; omega
theorem aNQ {k : Nat} {n d : Int} (hd : d ≠ 0) (h1 : Bd k n.natAbs) (h2 : Bd k d.natAbs) : BdQ k (Rat.divInt n d) := by
 obtain ⟨s, e1, e2, -⟩ := aw1 n d hd
 obtain ⟨g, t, hg, g0, e0, f1, f2⟩ := aeH s (d := d.natAbs) zc
 rw [e2]
 refine ⟨?_, ?_⟩
 ·rw [f1, ← acT e0 g0, e1]; exact aaS _ h1
 ·rw [f2]; exact aaS _ h2
theorem am1 {n d : Int} (h1 : Bd 6 n.natAbs) (h2 : Bd 6 d.natAbs) (h3 : d ≠ 0) : afR (pl n, pl d, ()) = some (ra (Rat.divInt n d), ()) := aaE (enc := fun x : Int × Int => (pl x.1, pl x.2, ())) (n, d) ⟨h1, h2, h3⟩ (fun b hb => al4 hb)
theorem aJl {s : Int} {d : Nat} (hd : d ≠ 0) (h1 : Bd 6 s.natAbs) (h2 : Bd 6 d) : ∃ g : Nat, g = Nat.gcd s.natAbs d ∧ g ≠ 0 ∧ Bd 6 g ∧ s / (g : Int) = (mkRat s d).num ∧ (d : Int) / (g : Int) = ((mkRat s d).den : Int) := by
 obtain ⟨g, t, hg, g0, e0, f1, f2⟩ := aeH s hd
 refine ⟨g, hg, g0, by rw [hg]; exact aa0 h1 h2, ?_, ?_⟩
 ·rw [f1, e0, Int.mul_ediv_cancel_left _ zc]
 ·rw [f2]; simp
theorem aDW (x x' : PlT) (y) (h : afR (x, x', ()) = some y) : (aqS x x').toO = some y := by
 obtain ⟨⟨n, d⟩, hp, hx, rfl⟩ := aaC h
 obtain ⟨rfl, hx2⟩ := Prod.mk.inj hx; obtain ⟨rfl, -⟩ := Prod.mk.inj hx2; dsimp only
 obtain ⟨l1, l2, l3⟩ := hp
 dsimp only at l1 l2 l3
 obtain ⟨s, e1, e2, e3⟩ := aw1 n d l3
 obtain ⟨g, hg, g0, bg, q1, q2⟩ := aJl (s := s) (d := d.natAbs) zc (by rw [e1]; exact l1) l2
 rw [e2]
 unfold aqS
 dsimp only
 have hgcd : Nat.gcd s.natAbs d.natAbs = g := hg.symm
 have g0' : (g : Int) ≠ 0 := zc
 by_cases c : d < 0
 ·rw [if_pos c] at e3
  subst e3
  refine uT (zo c) ?_
  refine uC _ (atY (aaF l1 zc)) (uC _ (atY (aaF l2 zc)) ?_)
  have hdv := aoY (a := -n) (b := -d) (aaV (aaF l1 zc)) (aaV (aaF l2 zc))
  rw [xA d, hgcd] at hdv
  refine uC _ hdv ?_
  refine uC _ (alT (b := (g : Int)) (aaV l1) bg g0') ?_
  refine uC _ (alT (b := (g : Int)) (aaV l2) bg g0') ?_
  rw [q1, show -d = (d.natAbs : Int) by omega, q2]; rfl
 ·rw [if_neg c] at e3
  subst e3
  refine uF (zn c) ?_
  have hdv := aoY (a := s) (b := d) (aaF l1 zc) (aaF l2 zc)
  rw [hgcd] at hdv
  refine uC _ hdv ?_
  refine uC _ (alT (b := (g : Int)) l1 bg g0') ?_
  refine uC _ (alT (b := (g : Int)) l2 bg g0') ?_
  rw [q1, show d = (d.natAbs : Int) by omega, zK, q2]; rfl
theorem aGV {n : Int} (h : aa3 n) : Bd 0 n.natAbs := aaH (by have := h.1; have := h.2; omega)
theorem av7 {n d : Int} (h1 : aa3 n) (h2 : aa3 d) (h3 : d ≠ 0) : aiB (n, d, ()) = some (ra (Rat.divInt n d), ()) := aaE (enc := fun x : Int × Int => (x.1, x.2, ())) (n, d) ⟨h1, h2, h3⟩ (fun b hb => by
 obtain ⟨e1, e2⟩ := Prod.mk.inj hb
 obtain ⟨e2, -⟩ := Prod.mk.inj e2
 exact Prod.ext e1 e2)
theorem aFW (n d : Int) (y) (h : aiB (n, d, ()) = some y) : (aCe n d).toO = some y := by
 obtain ⟨⟨n', d'⟩, hp, hx, rfl⟩ := aaC h
 obtain ⟨rfl, hx2⟩ := Prod.mk.inj hx; obtain ⟨rfl, -⟩ := Prod.mk.inj hx2; dsimp only
 obtain ⟨l1, l2, l3⟩ := hp
 exact uC _ (acE l1) (uC _ (acE l2) (uC _ (am1 (aaF (aGV l1) zc) (aaF (aGV l2) zc) l3) rfl))
theorem acG {s : FxT} (h : shF s) : abA (s, ()) = some ((rdF s).isSome, ()) := by unfold abA; rw [if_pos h]
theorem aFV (a : FxT) (y) (h : abA (a, ()) = some y) : (auN a).toO = some y := by
 unfold abA at h
 split at h
 case isFalse => cases h
 case isTrue hl =>
 injection h with h
 subst h
 obtain ⟨s, t, u⟩ := a
 obtain ⟨l1, l2⟩ := hl
 dsimp only at l1 l2 ⊢
 have hs := aTQ s t
 unfold auN
 refine uC _ (aDm l1) ?_
 cases hn : rdW s with
 | none =>
  rw [hn] at hs
  rw [show rdF (s, t, u) = none from hs]
  exact uT rfl rfl
 | some n =>
  refine uF rfl (uC _ (aDm l2) ?_)
  cases hd : rdW t with
  | none =>
   rw [hn, hd] at hs
   rw [show rdF (s, t, u) = none from hs]
   exact uT rfl rfl
  | some d =>
   rw [hn, hd] at hs
   dsimp only at hs
   obtain ⟨f1, rfl⟩ := afI hn
   obtain ⟨f2, rfl⟩ := afI hd
   have b1 := aoE f1
   have b2 := aoE f2
   refine uF rfl (uC _ (aFa f1) (uC _ (aFa f2) ?_))
   dsimp only
   by_cases hp : 0 < d
   case neg =>
    rw [dif_neg (fun h => hp h.1)] at hs
    rw [show rdF (dec n, dec d, u) = none from hs]
    by_cases c : d < 0
    ·exact uT (zo c) rfl
    ·have : d = 0 := zc
     subst this
     exact uF rfl (uT (by rw [we, dig_zero]; rfl) rfl)
   refine uF sd (uF ?_ ?_)
   ·rw [beq_eq_false_iff_ne, aaB]
    intro h
    have := dig_nil_iff.1 (zV.1 (show (dig d.natAbs).length = 0 by omega))
    omega
   have hdv := aoY (a := n) (b := d) (aaF b1 zc) (aaF b2 zc)
   refine uC _ hdv (uC _ (aHT (aaF (aa0 b1 b2) zc)) ?_)
   have h1 : aa4 1 = #[49].toList := by rw [abN zc]; rfl
   rw [aaI, ae7]
   by_cases hcop : n.natAbs.Coprime d.natAbs
   ·rw [dif_pos ⟨hp, hcop⟩] at hs
    rw [show rdF (dec n, dec d, u) = some _ from hs]
    have : Nat.gcd n.natAbs d.natAbs = 1 := hcop
    rw [this, h1]; rfl
   ·rw [dif_neg (fun h => hcop h.2)] at hs
    rw [show rdF (dec n, dec d, u) = none from hs]
    have : (aa4 (Nat.gcd n.natAbs d.natAbs) == #[49].toList) = false := by
     rw [beq_eq_false_iff_ne]
     exact fun h => hcop (ajP (h.trans h1.symm))
    rw [this]; rfl
theorem aF3 (a : FxT) (y) (h : alC (a, ()) = some y) : (aCi a).toO = some y := by
 unfold alC at h
 split at h
 case isFalse => cases h
 case isTrue hl =>
 unfold alN at h
 dsimp only at h hl
 refine uC _ (acG hl) ?_
 cases ha : rdF a with
 | none => simp only [ha] at h; exact uT rfl h
 | some q => simp only [ha] at h; exact uF rfl h
theorem aeT {q : Rat} (h : acB q) : adG (fx q, ()) = some (ra q, ()) := aaE (enc := fun x : Rat => (fx x, ())) q h (fun b hb => ad8 (Prod.mk.inj hb).1)
theorem aPf (a : FxT) (y) (h : adG (a, ()) = some y) : (aPe a).toO = some y := by
 obtain ⟨q, hp, hx, rfl⟩ := aaC h
 obtain ⟨rfl, -⟩ := Prod.mk.inj hx
 refine uC _ (aFa hp.1) (uC (pl q.den, ()) ?_ rfl)
 have := aFa hp.2
 rwa [ae7] at this
theorem atW {q : Rat} (h : BdQ 6 q) : ajX (ra q, ()) = some (wrF q) := aaE (enc := fun x : Rat => (ra x, ())) q h (fun b hb => awF (Prod.mk.inj hb).1)
theorem aMg (x : RaT) (y) (h : ajX (x, ()) = some y) : (aKI x).toO = some y := by
 obtain ⟨q, hp, hx, rfl⟩ := aaC h
 obtain ⟨rfl, -⟩ := Prod.mk.inj hx
 refine uC _ (aLu hp.1) (uC _ (aLu (z := (q.den : Int)) hp.2) ?_)
 by_cases c1 : Fit q.num
 ·rw [aj5 c1]
  by_cases c2 : Fit q.den
  ·rw [aH5 ⟨c1, c2⟩, aj5 c2]
   refine uF rfl (uF rfl ?_)
   rw [aaI, ae7]
  ·rw [aDs (fun h => c2 h.2), at7 c2]
   exact uF rfl (uT rfl rfl)
 ·rw [at7 c1, aDs (fun h => c1 h.1)]
  exact uT rfl rfl
theorem aHQ {q : Rat} (h : BdQ 6 q) : aoO (ra q, ()) = some (ra (-q), ()) := aaE (enc := fun x : Rat => (ra x, ())) q h (fun b hb => awF (Prod.mk.inj hb).1)
theorem aIH (x : RaT) (y) (h : aoO (x, ()) = some y) : (aFT x).toO = some y := by
 obtain ⟨q, hp, hx, rfl⟩ := aaC h
 obtain ⟨rfl, -⟩ := Prod.mk.inj hx
 exact uC _ (atY (aaF hp.1 zc)) rfl
theorem atV {p q : Rat} (h1 : BdQ 3 p) (h2 : BdQ 3 q) : ai2 (ra p, ra q, ()) = some (ra (p + q), ()) := aaE (enc := fun x : Rat × Rat => (ra x.1, ra x.2, ())) (p, q) ⟨h1, h2⟩ (fun b hb => ao6 hb)
theorem aIJ (x x' : RaT) (y) (h : ai2 (x, x', ()) = some y) : (aFX x x').toO = some y := by
 obtain ⟨⟨p, q⟩, hp, hx, rfl⟩ := aaC h
 obtain ⟨rfl, hx2⟩ := Prod.mk.inj hx; obtain ⟨rfl, -⟩ := Prod.mk.inj hx2; dsimp only
 obtain ⟨⟨p1, p2⟩, q1, q2⟩ := hp
 dsimp only at p1 p2 q1 q2
 have t1 := aaD p1 (aaN q2)
 have t2 := aaD q1 (aaN p2)
 have t3 := aaD (aaN p2) (aaN q2)
 refine uC _ (ad3 (aaF p1 zc) (aaN (aaF q2 zc))) ?_
 refine uC _ (ad3 (aaF q1 zc) (aaN (aaF p2 zc))) ?_
 refine uC _ (atZ (aaF t1 zc) (aaF t2 zc)) ?_
 refine uC _ (ad3 (a := (p.den : Int)) (b := (q.den : Int)) (aaN (aaF p2 zc)) (aaN (aaF q2 zc))) ?_
 have hd : (p.den : Int) * (q.den : Int) ≠ 0 := by
  have := xp p.den_nz q.den_nz
  rw [← yg]; omega
 refine uC _ (am1 (aaF (aaG t1 t2) zc) (aaF t3 zc) hd) ?_
 have : Rat.divInt (p.num * q.den + q.num * p.den) ((p.den : Int) * q.den) = p + q := by
  rw [← yg, xl, Rat.add_def']
 rw [this]; rfl
theorem aN5 {p q : Rat} (h1 : BdQ 3 p) (h2 : BdQ 3 q) : apU (ra p, ra q, ()) = some (ra (p - q), ()) := aaE (enc := fun x : Rat × Rat => (ra x.1, ra x.2, ())) (p, q) ⟨h1, h2⟩ (fun b hb => ao6 hb)
theorem aF0 (x x' : RaT) (y) (h : apU (x, x', ()) = some y) : (aCg x x').toO = some y := by
 obtain ⟨⟨p, q⟩, hp, hx, rfl⟩ := aaC h
 obtain ⟨rfl, hx2⟩ := Prod.mk.inj hx; obtain ⟨rfl, -⟩ := Prod.mk.inj hx2; dsimp only
 obtain ⟨h1, h2⟩ := hp
 refine uC _ (aHQ (aa8 h2 zc)) (uC _ (atV h1 (aEZ h2)) ?_)
 rw [vv]; rfl
theorem av6 {p q : Rat} (h1 : BdQ 3 p) (h2 : BdQ 3 q) : aiA (ra p, ra q, ()) = some (ra (p * q), ()) := aaE (enc := fun x : Rat × Rat => (ra x.1, ra x.2, ())) (p, q) ⟨h1, h2⟩ (fun b hb => ao6 hb)
theorem aFU (x x' : RaT) (y) (h : aiA (x, x', ()) = some y) : (aCd x x').toO = some y := by
 obtain ⟨⟨p, q⟩, hp, hx, rfl⟩ := aaC h
 obtain ⟨rfl, hx2⟩ := Prod.mk.inj hx; obtain ⟨rfl, -⟩ := Prod.mk.inj hx2; dsimp only
 obtain ⟨⟨p1, p2⟩, q1, q2⟩ := hp
 dsimp only at p1 p2 q1 q2
 refine uC _ (ad3 (aaF p1 zc) (aaF q1 zc)) ?_
 refine uC _ (ad3 (a := (p.den : Int)) (b := (q.den : Int)) (aaN (aaF p2 zc)) (aaN (aaF q2 zc))) ?_
 have hd : (p.den : Int) * (q.den : Int) ≠ 0 := by
  have := xp p.den_nz q.den_nz
  rw [← yg]; omega
 refine uC _ (am1 (aaF (aaD p1 q1) zc) (aaF (aaD (aaN p2) (aaN q2)) zc) hd) ?_
 have : Rat.divInt (p.num * q.num) ((p.den : Int) * q.den) = p * q := by
  rw [← yg, xl, Rat.mul_def']
 rw [this]; rfl
theorem aRO {p q : Rat} (h1 : BdQ 3 p) (h2 : BdQ 3 q) (h3 : q ≠ 0) : atE (ra p, ra q, ()) = some (ra (p / q), ()) := aaE (enc := fun x : Rat × Rat => (ra x.1, ra x.2, ())) (p, q) ⟨h1, h2, h3⟩ (fun b hb => ao6 hb)
theorem aIK (x x' : RaT) (y) (h : atE (x, x', ()) = some y) : (aFY x x').toO = some y := by
 obtain ⟨⟨p, q⟩, hp, hx, rfl⟩ := aaC h
 obtain ⟨rfl, hx2⟩ := Prod.mk.inj hx; obtain ⟨rfl, -⟩ := Prod.mk.inj hx2; dsimp only
 obtain ⟨⟨p1, p2⟩, ⟨q1, q2⟩, q0⟩ := hp
 dsimp only at p1 p2 q1 q2 q0
 refine uC _ (ad3 (aaF p1 zc) (aaN (aaF q2 zc))) ?_
 refine uC _ (ad3 (a := (p.den : Int)) (b := q.num) (aaN (aaF p2 zc)) (aaF q1 zc)) ?_
 have hn := aK6 q0
 have hd : (p.den : Int) * q.num ≠ 0 := Int.mul_ne_zero (by have := p.den_nz; omega) hn
 refine uC _ (am1 (aaF (aaD p1 (aaN q2)) zc) (aaF (aaD (aaN p2) q1) zc) hd) ?_
 have : Rat.divInt (p.num * q.den) ((p.den : Int) * q.num) = p / q := by
  rw [Rat.div_def, ← Rat.divInt_mul_divInt, Rat.num_divInt_den, ← Rat.inv_divInt, Rat.num_divInt_den]
 rw [this]; rfl
theorem aiE {p q : Rat} (h1 : BdQ 3 p) (h2 : BdQ 3 q) : ae0 (ra p, ra q, ()) = some (axD p q, ()) := aaE (enc := fun x : Rat × Rat => (ra x.1, ra x.2, ())) (p, q) ⟨h1, h2⟩ (fun b hb => ao6 hb)
theorem aFZ (x x' : RaT) (y) (h : ae0 (x, x', ()) = some y) : (aCf x x').toO = some y := by
 obtain ⟨⟨p, q⟩, hp, hx, rfl⟩ := aaC h
 obtain ⟨rfl, hx2⟩ := Prod.mk.inj hx; obtain ⟨rfl, -⟩ := Prod.mk.inj hx2; dsimp only
 obtain ⟨⟨p1, p2⟩, q1, q2⟩ := hp
 dsimp only at p1 p2 q1 q2
 refine uC _ (ad3 (aaF p1 zc) (aaN (aaF q2 zc))) ?_
 refine uC _ (ad3 (aaF q1 zc) (aaN (aaF p2 zc))) ?_
 refine uC _ (aiF (aaF (aaD p1 (aaN q2)) zc) (aaF (aaD q1 (aaN p2)) zc)) ?_
 rw [aPv, Int.sub_eq_add_neg]; rfl
theorem aHS {q : Rat} (h : BdQ 6 q) : aoP (ra q, ()) = some (pl (fl q), ()) := aaE (enc := fun x : Rat => (ra x, ())) q h (fun b hb => awF (Prod.mk.inj hb).1)
theorem aIN (x : RaT) (y) (h : aoP (x, ()) = some y) : (aF1 x).toO = some y := by
 obtain ⟨q, hp, hx, rfl⟩ := aaC h
 obtain ⟨rfl, -⟩ := Prod.mk.inj hx
 exact uC _ (alT hp.1 (b := (q.den : Int)) hp.2 (by have := q.den_nz; omega)) rfl
theorem aPd (n d : Int) (y) (h : arJ (n, d, ()) = some y) : (aIL n d).toO = some y := by
 unfold arJ am5 at h
 split at h
 case isFalse => cases h
 case isTrue hp =>
 obtain ⟨i1, i2⟩ := hp
 dsimp only at i1 i2 h
 unfold ofQ at h
 unfold aIL
 by_cases c : d = 0
 ·rw [if_pos c] at h
  exact uT (by rw [c]; rfl) h
 ·rw [if_neg c] at h
  refine uF (by simpa using c) (uC _ (av7 i1 i2 c) (uC _ (atW (aNQ c (aaF (aGV i1) zc) (aaF (aGV i2) zc))) h))
theorem aMo (a b : FxT) (y) (h : ajY (a, b, ()) = some y) : (aKM a b).toO = some y := by
 unfold ajY at h
 split at h
 case isFalse => cases h
 case isTrue hp =>
 obtain ⟨s1, s2⟩ := hp
 unfold aeO aOf at h
 dsimp only at h s1 s2
 refine uC _ (acG s1) ?_
 cases ha : rdF a with
 | none => simp only [ha] at h; exact uT rfl h
 | some p =>
  refine uF rfl (uC _ (acG s2) ?_)
  cases hb : rdF b with
  | none => simp only [ha, hb] at h; exact uT rfl h
  | some q =>
   simp only [ha, hb] at h
   refine uF rfl ?_
   have b1 := aeE ha
   have b2 := aeE hb
   obtain ⟨f1, rfl⟩ := acW ha
   obtain ⟨f2, rfl⟩ := acW hb
   refine uC _ (aeT f1) (uC _ (aeT f2) ?_)
   exact uC _ (atV (aa8 b1 zc) (aa8 b2 zc)) (uC _ (atW (aa8 (aAP b1 b2) zc)) h)
theorem aMd (a b : FxT) (y) (h : apT (a, b, ()) = some y) : (aKH a b).toO = some y := by
 unfold apT at h
 split at h
 case isFalse => cases h
 case isTrue hp =>
 obtain ⟨s1, s2⟩ := hp
 unfold afS aOf at h
 dsimp only at h s1 s2
 refine uC _ (acG s1) ?_
 cases ha : rdF a with
 | none => simp only [ha] at h; exact uT rfl h
 | some p =>
  refine uF rfl (uC _ (acG s2) ?_)
  cases hb : rdF b with
  | none => simp only [ha, hb] at h; exact uT rfl h
  | some q =>
   simp only [ha, hb] at h
   refine uF rfl ?_
   have b1 := aeE ha
   have b2 := aeE hb
   obtain ⟨f1, rfl⟩ := acW ha
   obtain ⟨f2, rfl⟩ := acW hb
   refine uC _ (aeT f1) (uC _ (aeT f2) ?_)
   exact uC _ (aN5 (aa8 b1 zc) (aa8 b2 zc)) (uC _ (atW (aa8 (aRq b1 b2) zc)) h)
theorem aMi (a b : FxT) (y) (h : ah5 (a, b, ()) = some y) : (aKJ a b).toO = some y := by
 unfold ah5 at h
 split at h
 case isFalse => cases h
 case isTrue hp =>
 obtain ⟨s1, s2⟩ := hp
 unfold ad6 aOf at h
 dsimp only at h s1 s2
 refine uC _ (acG s1) ?_
 cases ha : rdF a with
 | none => simp only [ha] at h; exact uT rfl h
 | some p =>
  refine uF rfl (uC _ (acG s2) ?_)
  cases hb : rdF b with
  | none => simp only [ha, hb] at h; exact uT rfl h
  | some q =>
   simp only [ha, hb] at h
   refine uF rfl ?_
   have b1 := aeE ha
   have b2 := aeE hb
   obtain ⟨f1, rfl⟩ := acW ha
   obtain ⟨f2, rfl⟩ := acW hb
   refine uC _ (aeT f1) (uC _ (aeT f2) ?_)
   exact uC _ (av6 (aa8 b1 zc) (aa8 b2 zc)) (uC _ (atW (aa8 (avT b1 b2) zc)) h)
theorem aMl (a b : FxT) (y) (h : atF (a, b, ()) = some y) : (aKL a b).toO = some y := by
 unfold atF at h
 split at h
 case isFalse => cases h
 case isTrue hp =>
 obtain ⟨s1, s2⟩ := hp
 unfold agO at h
 dsimp only at h s1 s2
 refine uC _ (acG s1) ?_
 cases ha : rdF a with
 | none => simp only [ha] at h; exact uT rfl h
 | some p =>
  refine uF rfl (uC _ (acG s2) ?_)
  cases hb : rdF b with
  | none => simp only [ha, hb] at h; exact uT rfl h
  | some q =>
   simp only [ha, hb] at h
   refine uF rfl ?_
   have b1 := aeE ha
   have b2 := aeE hb
   obtain ⟨f1, rfl⟩ := acW ha
   obtain ⟨f2, rfl⟩ := acW hb
   exact uC _ (aeT f1) (uC _ (aeT f2) (uC _ (aiE (aa8 b1 zc) (aa8 b2 zc)) h))
theorem aMk (a b : FxT) (y) (h : amX (a, b, ()) = some y) : (aKK a b).toO = some y := by
 unfold amX at h
 split at h
 case isFalse => cases h
 case isTrue hp =>
 obtain ⟨s1, s2⟩ := hp
 unfold afA at h
 dsimp only at h s1 s2
 refine uC _ (acG s1) ?_
 cases ha : rdF a with
 | none => simp only [ha] at h; exact uT rfl h
 | some p =>
  refine uF rfl (uC _ (acG s2) ?_)
  cases hb : rdF b with
  | none => simp only [ha, hb] at h; exact uT rfl h
  | some q =>
   simp only [ha, hb] at h
   refine uF rfl ?_
   have b1 := aeE ha
   have b2 := aeE hb
   obtain ⟨f1, rfl⟩ := acW ha
   obtain ⟨f2, rfl⟩ := acW hb
   have h0 : aa4 0 = #[48].toList := by rw [abN zc]; rfl
   by_cases c : q = 0
   ·rw [if_pos c] at h
    refine uT ?_ h
    rw [c]
    show (dec 0 == #[48].toList) = true
    rw [ab3 zc, we, h0]; rfl
   ·rw [if_neg c] at h
    refine uF ?_ ?_
    ·rw [beq_eq_false_iff_ne]
     intro h2
     have h3 : dec q.num = #[48].toList := h2
     have : dec q.num = dec 0 := by rw [h3, ab3 (z := 0) zc, we, h0]
     exact aK6 c (akD this)
    refine uC _ (aeT f1) (uC _ (aeT f2) ?_)
    refine uC _ (aRO (aa8 b1 zc) (aa8 b2 zc) c) (uC _ (atW ?_) h)
    rw [Rat.div_def]
    exact aa8 (avT b1 (aJ8 b2 c)) zc
theorem aVA {q : Rat} (h : acB q) : shF (fx q) := by
 have h1 : (aa4 q.num.natAbs).length ≤ 600 := h.1
 have h2 : (aa4 q.den).length ≤ 600 := h.2
 have h3 := amH q.num
 exact ⟨by show (dec q.num).length ≤ _; omega, by show (aa4 q.den).length ≤ _; omega⟩
theorem aoC {q : Rat} (h : acB q) : BdQ 3 q := ⟨aaF (aoE h.1) zc, aaF (aoE h.2) zc⟩
theorem aN6 {a l u : Rat} (h1 : acB a) (h2 : acB l) (h3 : acB u) (h4 : l ≤ u) : apV (fx a, fx l, fx u, ()) = some (fx (if a < l then l else if a > u then u else a), 0, ()) := aaE (enc := fun x : Rat × Rat × Rat => (fx x.1, fx x.2.1, fx x.2.2, ())) (a, l, u) ⟨h1, h2, h3, h4⟩ (fun b hb => by
 obtain ⟨e1, e2⟩ := Prod.mk.inj hb
 obtain ⟨e2, e3⟩ := Prod.mk.inj e2
 obtain ⟨e3, -⟩ := Prod.mk.inj e3
 exact Prod.ext (ad8 e1) (Prod.ext (ad8 e2) (ad8 e3)))
theorem aF2 (a l u : FxT) (y) (h : apV (a, l, u, ()) = some y) : (aCh a l u).toO = some y := by
 obtain ⟨⟨p, q, r⟩, hp, hx, rfl⟩ := aaC h
 obtain ⟨rfl, hx2⟩ := Prod.mk.inj hx
 obtain ⟨rfl, hx3⟩ := Prod.mk.inj hx2
 obtain ⟨rfl, -⟩ := Prod.mk.inj hx3
 obtain ⟨h1, h2, h3, h4⟩ := hp
 dsimp only at h1 h2 h3 h4 ⊢
 have r1 : ∀ {x : Rat}, acB x → abA (fx x, ()) = some (true, ()) := fun {x} hf => by rw [acG (aVA hf), ae3 hf]; rfl
 refine uC _ (r1 h1) (uF rfl (uC _ (r1 h2) (uF rfl (uC _ (r1 h3) (uF rfl ?_)))))
 refine uC _ (aeT h2) (uC _ (aeT h3) (uC _ (aiE (aoC h2) (aoC h3)) (uF (zn (fun h => by have := (ao8 _ _).1 h; exact absurd h4 (wy.2 this))) ?_)))
 refine uC _ (aeT h1) (uC _ (aeT h2) (uC _ (aiE (aoC h1) (aoC h2)) ?_))
 by_cases c : p < q
 ·rw [if_pos c]
  exact uT (zo ((ajF _ _).2 c)) rfl
 ·rw [if_neg c]
  refine uF (zn (fun h => c ((ajF _ _).1 h))) ?_
  refine uC _ (aeT h1) (uC _ (aeT h3) (uC _ (aiE (aoC h1) (aoC h3)) ?_))
  by_cases c2 : p > r
  ·rw [if_pos c2]
   exact uT (zo ((ao8 _ _).2 c2)) rfl
  ·rw [if_neg c2]
   exact uF (zn (fun h => c2 ((ao8 _ _).1 h))) rfl
theorem am0 {q : Rat} {n : Nat} (h1 : BdQ 2 q) (h2 : n ≤ 40) : afQ (ra q, (n : Int), ()) = some (ra (q ^ n), ()) := by
 refine aaE (enc := fun x : Rat × Nat => (ra x.1, (x.2 : Int), ())) (q, n) ⟨h1, h2⟩ (fun b hb => ?_)
 obtain ⟨e1, e2⟩ := Prod.mk.inj hb
 obtain ⟨e2, -⟩ := Prod.mk.inj e2
 exact Prod.ext (awF e1) (Int.ofNat.inj e2)
theorem aDV (x : RaT) (k : Int) (y) (h : afQ (x, k, ()) = some y) : (ay3 x k).toO = some y := by
 obtain ⟨⟨q, n⟩, hp, hx, rfl⟩ := aaC h
 obtain ⟨rfl, hx2⟩ := Prod.mk.inj hx; obtain ⟨rfl, -⟩ := Prod.mk.inj hx2; dsimp only
 obtain ⟨⟨h1, h2⟩, h3⟩ := hp
 refine uC _ (aBe (Or.inl ⟨h3, h1⟩)) (uC _ (aBe (a := (q.den : Int)) (Or.inl ⟨h3, h2⟩)) ?_)
 rw [← wh]
 show some ((pl (q.num ^ n), pl ((q.den ^ n : Nat) : Int), ()), ()) = some (ra (q ^ n), ())
 unfold ra
 rw [Rat.num_pow, Rat.den_pow]
end Go.Vs
