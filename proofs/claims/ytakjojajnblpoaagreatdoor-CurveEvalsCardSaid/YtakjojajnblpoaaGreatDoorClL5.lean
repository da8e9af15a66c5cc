/-
  Trees of what the functions compute, and their laws. Own work; no condition.
-/
import Derived.Test.YtakjojajnblpoaaGreatDoorClL4
import Derived.Test.YtakjojajnblpoaaGreatDoorProg
set_option linter.unusedVariables false
set_option linter.unusedSimpArgs false
namespace Go.Vs
open Go Go.Vg
theorem amY {k n : Nat} (h : Bd k n) (hk : k ≤ 8) : (dig n).length ≤ 1000000000000 := zC (azC h hk) zc
theorem ar8 {z : Int} (h : Bd 8 z.natAbs) : aiJ (pl z, ()) = some (pl (-z), ()) := aaG (enc := fun x : Int => (pl x, ())) z h (fun b hb => auQ (Prod.mk.inj hb).1)
theorem aGQ (x : PlT) (y) (h : aiJ (x, ()) = some y) : (aEr x).toO = some y := by
 obtain ⟨z, hp, hx, rfl⟩ := aaD h
 obtain ⟨rfl, -⟩ := Prod.mk.inj hx
 refine uC (pl (-z), ()) (afK (amY hp zc) zc ?_) rfl
 by_cases h0 : z = 0
 ·left; omega
 ·right
  show (!decide (z < 0)) = decide (-z < 0)
  by_cases h1 : z < 0
  ·rw [zo h1, zn zc]; rfl
  ·rw [zn h1, zo zc]; rfl
theorem aRz {a b : Nat} (h1 : (dig a).length ≤ 1000000000000) (h2 : (dig b).length ≤ 1000000000000) : awA (dig a, dig b, ()) = some (dig (a + b), ()) := aaG (enc := fun p : Nat × Nat => (dig p.1, dig p.2, ())) (a, b) ⟨h1, h2⟩ (fun b hb => aBA hb)
theorem aBQ {a b : Nat} (h1 : (dig a).length ≤ 1000000000000) (h : b ≤ a) : abF (dig a, dig b, ()) = some (dig (a - b), ()) := anF (adX a) (adX b) h1 (acD h) (by rw [aiF, aiF]; omega) (by rw [aiF, aiF]; omega)
theorem aL0 {a b : Nat} (h1 : (dig a).length ≤ 400000000000) (h2 : (dig b).length ≤ 400000000000) : abY (dig a, dig b, ()) = some (dig (a * b), ()) := anE (adX a) (Or.inl (adX b)) h1 h2 (by rw [aiF, aiF]; simp)
theorem anG {a b : Int} (h1 : Bd 7 a.natAbs) (h2 : Bd 7 b.natAbs) : aeZ (pl a, pl b, ()) = some (pl (a + b), ()) := aaG (enc := fun p : Int × Int => (pl p.1, pl p.2, ())) (a, b) ⟨h1, h2⟩ (fun b hb => ak0 hb)
theorem aGU (x x' : PlT) (y) (h : aeZ (x, x', ()) = some y) : (axD x x').toO = some y := by
 obtain ⟨⟨a, b⟩, hp, hx, rfl⟩ := aaD h
 obtain ⟨rfl, hx2⟩ := Prod.mk.inj hx; obtain ⟨rfl, -⟩ := Prod.mk.inj hx2; dsimp only
 obtain ⟨l1, l2⟩ := hp
 simp only at l1 l2
 have d1 := amY l1 zc
 have d2 := amY l2 zc
 have d3 := amY (aaZ l1 l2) zc
 unfold axD
 dsimp only
 by_cases hs : (decide (a < 0) == decide (b < 0)) = true
 ·refine uT hs ?_
  have hs' : (a < 0 ↔ b < 0) := by simpa using hs
  refine uC _ (aRz d1 d2) ?_
  refine uC (pl (a + b), ()) (afK d3 zc (Or.inr (decide_eq_decide.2 zc))) rfl
 ·have hs' : ¬ (a < 0 ↔ b < 0) := by simpa using hs
  refine uF (by simpa using hs) ?_
  refine uC _ (auF _ _ (adX _) (adX _) d1 d2) ?_
  obtain ⟨o1, o2⟩ := aIP a.natAbs b.natAbs
  by_cases hc : a.natAbs < b.natAbs
  ·refine uF (zn (by have := o1.2 hc; dsimp only; omega)) ?_
   refine uC _ (aBQ d2 zc) ?_
   have d4 : (dig (b.natAbs - a.natAbs)).length ≤ 1000000000000 := zC (acD (Nat.sub_le _ _)) d2
   refine uC (pl (a + b), ()) (afK d4 zc (Or.inr (decide_eq_decide.2 zc))) rfl
  ·refine uT (zo (by
    rcases zS (aRM (dig a.natAbs) (dig b.natAbs)) 0 with h | h
    ·exact absurd (o1.1 h) hc
    ·exact h)) ?_
   refine uC _ (aBQ d1 zc) ?_
   have d4 : (dig (a.natAbs - b.natAbs)).length ≤ 1000000000000 := zC (acD (Nat.sub_le _ _)) d1
   refine uC (pl (a + b), ()) (afK d4 zc ?_) rfl
   by_cases h0 : a + b = 0
   ·exact Or.inl h0
   ·exact Or.inr (decide_eq_decide.2 zc)
theorem aBT {a b : Int} (h1 : Bd 7 a.natAbs) (h2 : Bd 7 b.natAbs) : akI (pl a, pl b, ()) = some (pl (a - b), ()) := aaG (enc := fun p : Int × Int => (pl p.1, pl p.2, ())) (a, b) ⟨h1, h2⟩ (fun b hb => ak0 hb)
theorem aEw (x x' : PlT) (y) (h : akI (x, x', ()) = some y) : (aA0 x x').toO = some y := by
 obtain ⟨⟨a, b⟩, hp, hx, rfl⟩ := aaD h
 obtain ⟨rfl, hx2⟩ := Prod.mk.inj hx; obtain ⟨rfl, -⟩ := Prod.mk.inj hx2; dsimp only
 obtain ⟨l1, l2⟩ := hp
 refine uC _ (ar8 (aaF l2 zc)) (uC _ (anG l1 (aaV l2)) ?_)
 rw [Int.sub_eq_add_neg]; rfl
theorem aQR {a b : Int} : a * b = 0 ∨ (!(decide (a < 0) == decide (b < 0))) = decide (a * b < 0) := by
 by_cases hz : a * b = 0
 ·exact Or.inl hz
 ·right
  have z1 : a ≠ 0 := fun h => hz (by rw [h]; simp)
  have z2 : b ≠ 0 := fun h => hz (by rw [h]; simp)
  rcases zS a 0 with c1 | c1 <;> rcases zS b 0 with c2 | c2
  ·have := we c1 c2
   rw [zo c1, zo c2, zn zc]; rfl
  ·have := xY c1 (show 0 < b by omega)
   rw [zo c1, zn zc, zo zc]; rfl
  ·have := xZ (show 0 < a by omega) c2
   rw [zn zc, zo c2, zo zc]; rfl
  ·have := vo (show 0 < a by omega) (show 0 < b by omega)
   rw [zn zc, zn zc, zn zc]; rfl
theorem acP {a b : Int} (h1 : Bd 7 a.natAbs) (h2 : Bd 7 b.natAbs) : abJ (pl a, pl b, ()) = some (pl (a * b), ()) := aaG (enc := fun p : Int × Int => (pl p.1, pl p.2, ())) (a, b) ⟨h1, h2⟩ (fun b hb => ak0 hb)
theorem aEs (x x' : PlT) (y) (h : abJ (x, x', ()) = some y) : (aAX x x').toO = some y := by
 obtain ⟨⟨a, b⟩, hp, hx, rfl⟩ := aaD h
 obtain ⟨rfl, hx2⟩ := Prod.mk.inj hx; obtain ⟨rfl, -⟩ := Prod.mk.inj hx2; dsimp only
 obtain ⟨l1, l2⟩ := hp
 simp only at l1 l2
 have d1 := azC l1 zc
 have d2 := azC l2 zc
 refine uC _ (aL0 (zC d1 zc) (zC d2 zc)) ?_
 refine uC (pl (a * b), ()) (afK (amY (aaW l1 l2) zc) (by rw [yD]) aQR) rfl
theorem aL1 {a b : Int} (h1 : Bd 7 a.natAbs) (h2 : Bd 7 b.natAbs) : aoG (pl a, pl b, ()) = some ((a - b).sign, ()) := aaG (enc := fun p : Int × Int => (pl p.1, pl p.2, ())) (a, b) ⟨h1, h2⟩ (fun b hb => ak0 hb)
theorem aEv (x x' : PlT) (y) (h : aoG (x, x', ()) = some y) : (aAZ x x').toO = some y := by
 obtain ⟨⟨a, b⟩, hp, hx, rfl⟩ := aaD h
 obtain ⟨rfl, hx2⟩ := Prod.mk.inj hx; obtain ⟨rfl, -⟩ := Prod.mk.inj hx2; dsimp only
 obtain ⟨l1, l2⟩ := hp
 refine uC _ (aBT l1 l2) ?_
 dsimp only
 rcases xj (a - b) 0 with c | c | c
 ·rw [xd c]
  exact uT (zo c) rfl
 ·rw [c]
  exact uF rfl (uF (zn (by show ¬ (len (dig (Int.natAbs 0)) > 0); rw [wA, dig_zero]; decide)) rfl)
 ·rw [xq c]
  refine uF sd (uT (zo ?_) rfl)
  rw [aaC]
  rcases zD (dig (a - b).natAbs).length with h | h
  ·have := dig_nil_iff.1 (zW.1 h); omega
  ·omega
theorem aJm {n : Nat} (h : n ≤ 500) : Bd 6 (10 ^ n) := by
 have : (mag (10 ^ n)).length ≤ 501 := by
  refine agR ?_
  rw [ajQ (k := n) (zq _) (wg zc zc)]; omega
 unfold Bd; omega
theorem aIi {a : Int} {n : Nat} (h : (n ≤ 40 ∧ Bd 2 a.natAbs) ∨ (n ≤ 500 ∧ a = 10)) : aiK (pl a, (n : Int), ()) = some (pl (a ^ n), ()) := by
 refine aaG (enc := fun p : Int × Nat => (pl p.1, (p.2 : Int), ())) (a, n) h (fun b hb => ?_)
 obtain ⟨e1, e2⟩ := Prod.mk.inj hb
 obtain ⟨e2, -⟩ := Prod.mk.inj e2
 exact Prod.ext (auQ e1) (Int.ofNat.inj e2)
theorem aPm {a : Int} {n : Nat} (h : (n ≤ 40 ∧ Bd 2 a.natAbs) ∨ (n ≤ 500 ∧ a = 10)) (j : Nat) (hj : j ≤ n) : Bd 7 (a ^ j).natAbs := by
 rw [vk]
 rcases h with ⟨h1, h2⟩ | ⟨h1, rfl⟩
 ·exact aJn h2 zc
 ·exact aaF (aJm zc) zc
theorem aCo (x : PlT) (k : Int) (y) (h : aiK (x, k, ()) = some y) : (axC x k).toO = some y := by
 obtain ⟨⟨a, n⟩, hp, hx, rfl⟩ := aaD h
 obtain ⟨rfl, hx2⟩ := Prod.mk.inj hx; obtain ⟨rfl, -⟩ := Prod.mk.inj hx2; dsimp only
 dsimp only at hp
 have hn : n ≤ 500 := by rcases hp with h | h <;> omega
 have ha : Bd 7 a.natAbs := by
  rcases hp with h | h
  ·exact aaF h.2 zc
  ·rw [h.2]; exact aaF (aaH zc) zc
 refine uC _ (acA ⟨by omega, by omega⟩) ?_
 refine uO (0, decide ((1 : Int) < 0), dig 1, ()) rfl ?_
 refine aaL (fun i : Int × Bool × List Int × Unit => ∃ j : Nat, j ≤ n ∧ i = ((j : Int), pl (a ^ j))) (fun i => ((n : Int) - i.1).toNat) (fun _ => (pl (a ^ n), ())) ?_ _ ⟨0, by omega, by rw [Int.pow_zero]; rfl⟩
 rintro i ⟨j, hj, rfl⟩
 unfold auN
 dsimp only
 rcases zr j n with h1 | h1
 ·left
  refine ⟨(((j + 1 : Nat) : Int), pl (a ^ (j + 1))), ?_, ⟨j + 1, by omega, rfl⟩, by dsimp only; omega, ze⟩
  refine uT sd (uC (pl (a ^ (j + 1)), ()) (by rw [zY]; exact acP (aPm hp j hj) ha) ?_)
  repeat refine za ?_
  rw [aaJ, aaA (x := (j : Int) + 1) zc]; rfl
 ·right
  have : j = n := zc
  subst this
  exact uF sd rfl
theorem aBP {a b : Nat} (h1 : (dig a).length ≤ 200000000000) (h2 : (dig b).length ≤ 200000000000) (h3 : b ≠ 0) : akH (dig a, dig b, ()) = some (dig (a / b), dig (a % b), ()) := aaG (enc := fun p : Nat × Nat => (dig p.1, dig p.2, ())) (a, b) ⟨h1, h2, h3⟩ (fun b hb => aBA hb)
theorem anI {a b : Int} (h1 : Bd 8 a.natAbs) (h2 : Bd 8 b.natAbs) : afH (pl a, pl b, ()) = some (pl (Nat.gcd a.natAbs b.natAbs), ()) := aaG (enc := fun p : Int × Int => (pl p.1, pl p.2, ())) (a, b) ⟨h1, h2⟩ (fun b hb => ak0 hb)
theorem aAk (x x' : PlT) (y) (h : afH (x, x', ()) = some y) : (auP x x').toO = some y := by
 obtain ⟨⟨a, b⟩, hp, hx, rfl⟩ := aaD h
 obtain ⟨rfl, hx2⟩ := Prod.mk.inj hx; obtain ⟨rfl, -⟩ := Prod.mk.inj hx2; dsimp only
 obtain ⟨l1, l2⟩ := hp
 dsimp only at l1 l2
 have d1 := azC l1 zc
 have d2 := azC l2 zc
 refine uO (dig b.natAbs, dig a.natAbs, ()) rfl ?_
 have hres : (pl ((Nat.gcd a.natAbs b.natAbs : Nat) : Int), ()) = ((false, dig (Nat.gcd a.natAbs b.natAbs), ()), ()) := by
  unfold pl
  rw [zn zc, zQ]
 rw [hres]
 refine aaL (fun i : List Int × List Int × Unit => ∃ p q : Nat, i = (dig q, dig p, ()) ∧ (dig p).length ≤ 200000000000 ∧ (dig q).length ≤ 200000000000 ∧ Nat.gcd p q = Nat.gcd a.natAbs b.natAbs) (fun i => (V 10000 i.1).toNat) (fun _ => ((false, dig (Nat.gcd a.natAbs b.natAbs), ()), ())) ?_ _ ⟨a.natAbs, b.natAbs, rfl, d1, d2, rfl⟩
 rintro i ⟨p, q, rfl, lp, lq, hg⟩
 unfold aqF
 dsimp only
 by_cases hq : q = 0
 ·right
  subst hq
  refine uF (by rw [dig_zero]; rfl) ?_
  rw [← hg, Nat.gcd_zero_right]; rfl
 ·left
  have hql : 1 ≤ (dig q).length := by
   rcases zD (dig q).length with h5 | h5
   ·exact absurd (dig_nil_iff.1 (zW.1 h5)) hq
   ·exact h5
  refine ⟨(dig (p % q), dig q, ()), ?_, ⟨q, p % q, rfl, lq, ?_, ?_⟩, ?_, ze⟩
  ·refine uT sd (uC _ (aBP lp lq hq) ?_)
   repeat refine za ?_
   rfl
  ·exact zC (acD (vG (yU p (show 0 < q by omega)))) lq
  ·rw [← hg, xC p q, Nat.gcd_rec q p, xC]
  ·simp only [aiF, zp]
   exact yU p zc
theorem aoO {a b : Int} (h1 : Bd 6 a.natAbs) (h2 : Bd 6 b.natAbs) (h3 : b ≠ 0) : agH (pl a, pl b, ()) = some (pl (a / b), pl (a % b), ()) := aaG (enc := fun p : Int × Int => (pl p.1, pl p.2, ())) (a, b) ⟨h1, h2, h3⟩ (fun b hb => ak0 hb)
theorem aTU {a b : Int} (hb : b ≠ 0) : ∃ q r : Int, q.natAbs = a.natAbs / b.natAbs ∧ r.natAbs = a.natAbs % b.natAbs ∧ (q = 0 ∨ (!(decide (a < 0) == decide (b < 0))) = decide (q < 0)) ∧ (r = 0 ∨ decide (a < 0) = decide (r < 0)) ∧ (r < 0 → a / b = (if b < 0 then q + 1 else q - 1) ∧ a % b = r + b.natAbs) ∧ (¬ r < 0 → a / b = q ∧ a % b = r) := by
 refine ⟨Int.tdiv a b, Int.tmod a b, Int.natAbs_tdiv a b, vJ a b, ?_, ?_, ?_, ?_⟩
 ·by_cases hz : Int.tdiv a b = 0
  ·exact Or.inl hz
  ·right
   rcases zS a 0 with c1 | c1 <;> rcases zS b 0 with c2 | c2
   ·have : 0 ≤ Int.tdiv a b := by
     rw [← Int.neg_tdiv_neg]; exact xQ zc zc
    rw [zo c1, zo c2, zn zc]; rfl
   ·have : Int.tdiv a b ≤ 0 := by
     have := xQ (a := -a) (b := b) zc c2
     rw [Int.neg_tdiv] at this; omega
    rw [zo c1, zn zc, zo zc]; rfl
   ·have : Int.tdiv a b ≤ 0 := by
     have := xQ (a := a) (b := -b) c1 zc
     rw [Int.tdiv_neg] at this; omega
    rw [zn zc, zo c2, zo zc]; rfl
   ·have := xQ c1 c2
    rw [zn zc, zn zc, zn zc]; rfl
 ·by_cases hz : Int.tmod a b = 0
  ·exact Or.inl hz
  ·right
   refine decide_eq_decide.2 ?_
   rcases zS a 0 with c1 | c1
   ·have : Int.tmod a b ≤ 0 := by
     have := xP (a := -a) b zc
     rw [Int.neg_tmod] at this; omega
    omega
   ·have := xP (a := a) b c1
    omega
 ·intro hr
  have ha : a < 0 := by
   rcases zS a 0 with c | c
   ·exact c
   ·have := xP (a := a) b c; omega
  have h1 := wF a b
  have h2 : (Int.tmod a b).natAbs < b.natAbs := by rw [vJ]; exact yU _ zc
  generalize Int.tdiv a b = q at *
  generalize Int.tmod a b = r at *
  have key : ∀ q' r' : Int, r' + b * q' = a → 0 ≤ r' → r' < b.natAbs → a / b = q' ∧ a % b = r' := by
   intro q' r' e e1 e2
   have hr' : r' / b = 0 := by
    rcases zS b 0 with c | c
    ·have : r' / (-(-b)) = -(r' / -b) := Int.ediv_neg _ _
     rw [Int.neg_neg] at this
     rw [this, xr e1 zc]; rfl
    ·exact xr e1 zc
   have d1 : a / b = q' := by rw [← e, vA _ _ hb, hr', vh]
   refine ⟨d1, ?_⟩
   have := yl a b
   rw [d1] at this
   omega
  rcases zS b 0 with c | c
  ·rw [if_pos c]
   exact key _ _ (by rw [wh]; omega) zc zc
  ·rw [if_neg zc]
   exact key _ _ (by rw [Int.mul_sub]; omega) zc zc
 ·intro hr
  have h1 := wF a b
  have h2 : (Int.tmod a b).natAbs < b.natAbs := by rw [vJ]; exact yU _ zc
  generalize Int.tdiv a b = q at *
  generalize Int.tmod a b = r at *
  have hr' : r / b = 0 := by
   rcases zS b 0 with c | c
   ·have : r / (-(-b)) = -(r / -b) := Int.ediv_neg _ _
    rw [Int.neg_neg] at this
    rw [this, xr zc zc]; rfl
   ·exact xr zc zc
  have d1 : a / b = q := by rw [← h1, vA _ _ hb, hr', vh]
  refine ⟨d1, ?_⟩
  have := yl a b
  rw [d1] at this
  omega
theorem aEu (x x' : PlT) (y) (h : agH (x, x', ()) = some y) : (asZ x x').toO = some y := by
 obtain ⟨⟨a, b⟩, hp, hx, rfl⟩ := aaD h
 obtain ⟨rfl, hx2⟩ := Prod.mk.inj hx; obtain ⟨rfl, -⟩ := Prod.mk.inj hx2; dsimp only
 obtain ⟨l1, l2, l3⟩ := hp
 dsimp only at l1 l2 l3
 have d1 := azC l1 zc
 have d2 := azC l2 zc
 obtain ⟨q, r, hq, hr, sq, sr, hneg, hpos⟩ := aTU (a := a) l3
 have bq : Bd 6 q.natAbs := by rw [hq]; exact aaS _ l1
 have br : Bd 6 r.natAbs := by rw [hr]; exact aa1 _ l1
 have i1 : abA 1 := ⟨by omega, by omega⟩
 have b1 : Bd 7 (1 : Int).natAbs := aaF (aaH zf) zc
 unfold asZ
 dsimp only
 refine uC _ (aBP d1 d2 zc) ?_
 refine uC (pl q, ()) (afK (by rw [← hq]; exact amY bq zc) hq.symm sq) ?_
 refine uC (pl r, ()) (afK (by rw [← hr]; exact amY br zc) hr.symm sr) ?_
 dsimp only
 by_cases c : r < 0
 ·obtain ⟨e1, e2⟩ := hneg c
  refine uT (zo c) ?_
  have hpb : aeZ (pl r, (false, dig b.natAbs, ()), ()) = some (pl (r + b.natAbs), ()) := by
   have := anG (a := r) (b := (b.natAbs : Int)) (aaF br zc) (aaF l2 zc)
   unfold pl at this ⊢
   rwa [zn (show ¬ ((b.natAbs : Int) < 0) by omega), zQ] at this
  refine uC _ hpb ?_
  rw [e1, e2]
  by_cases c2 : b < 0
  ·rw [if_pos c2]
   exact uT (zo c2) (uC _ (acA i1) (uC _ (anG (aaF bq zc) b1) rfl))
  ·rw [if_neg c2]
   exact uF (zn c2) (uC _ (acA i1) (uC _ (aBT (aaF bq zc) b1) rfl))
 ·obtain ⟨e1, e2⟩ := hpos c
  rw [e1, e2]
  exact uF (zn c) rfl
theorem aBR {s : List UInt8} (h : s.length ≤ 1000000000000) : agG (s, ()) = some ((rdW s).isSome, ()) := by unfold agG; rw [if_pos h]
theorem aEt (a : List UInt8) (y) (h : agG (a, ()) = some y) : (asY a).toO = some y := by
 unfold agG at h
 split at h
 case isFalse => cases h
 case isTrue hl =>
 injection h with h
 subst h
 dsimp only at hl ⊢
 obtain ⟨j, t, b, hj, hat, hc⟩ : ∃ (j : Nat) (t : List UInt8) (b : Bool), j ≤ a.length ∧ (a.drop j = t ∧ (b = true ↔ j = 1) ∧ j ≤ 1 ∧ (∃ d : TT (uA ⊕ ux), True) ∧ ((TT.ite (decide (len a > 0)) (TT.need (asT Int 0 ≤ 0 ∧ 0 < len a) (TT.ite ((((gi a 0 0).toNat : Int)) == 45) (TT.ok (.inl (1, ()))) (TT.ok (.inl (0, ()))))) (TT.ok (.inl (0, ()))) : TT (uA ⊕ ux)).toO = some (.inl ((j : Int), ())))) ∧ ab4 (a, #[45].toList, ()) = some (t, b, ()) := by
  cases a with
  | nil => exact ⟨0, [], false, by simp, ⟨rfl, by simp, by omega, ⟨TT.bad, trivial⟩, uF rfl rfl⟩, rfl⟩
  | cons c a =>
   by_cases hcc : c = 45
   ·subst hcc
    refine ⟨1, a, true, by simp, ⟨rfl, by simp, by omega, ⟨TT.bad, trivial⟩, uT (by (try simp only [ym, yk, yF, xf, beq_eq_false_iff_ne, bne_eq_false_iff_eq, zT, yC]) <;> (try simp only [aaC, inb, inc, ge_iff_le, gt_iff_lt, zp, asT, ne_eq]) <;> simp) (uN ⟨by simp [asT], by (try simp only [aaC, inb, inc, ge_iff_le, gt_iff_lt, zp, asT, ne_eq]); simp⟩ (uT rfl rfl))⟩, ?_⟩
    simp [ab4, List.isPrefixOf]
   ·refine ⟨0, c :: a, false, by simp, ⟨rfl, by simp, by omega, ⟨TT.bad, trivial⟩, uT (by (try simp only [ym, yk, yF, xf, beq_eq_false_iff_ne, bne_eq_false_iff_eq, zT, yC]) <;> (try simp only [aaC, inb, inc, ge_iff_le, gt_iff_lt, zp, asT, ne_eq]) <;> simp) (uN ⟨by simp [asT], by (try simp only [aaC, inb, inc, ge_iff_le, gt_iff_lt, zp, asT, ne_eq]); simp⟩ (uF ?_ rfl))⟩, ?_⟩
    ·rw [beq_eq_false_iff_ne]
     intro h
     exact hcc (UInt8.toNat_inj.1 (Int.ofNat.inj h))
    ·have : ¬ (45 = c) := fun h => hcc h.symm
     simp [ab4, List.isPrefixOf, this]
 obtain ⟨ht, hb, hj1, -, hjoin⟩ := hat
 have htl : t.length = a.length - j := by rw [← ht]; simp
 have hget : ∀ k, a.getD (j + k) 0 = t.getD k 0 := by
  intro k; rw [← ht]; simp [yp, yX]
 have hnot : ¬ (isD t ∧ t ≠ [] ∧ t.length ≤ 600 ∧ (t.head? = some 48 → b = false ∧ t.length = 1)) → (rdW a).isSome = false := fun h => by rw [aMQ hc h]; rfl
 have hyes : isD t → t ≠ [] → t.length ≤ 600 → (t.head? = some 48 → b = false ∧ t.length = 1) → (rdW a).isSome = true := fun h1 h2 h3 h4 => by
  obtain ⟨z, e1, -, -⟩ := aMP hc h1 h2 h3 h4
  rw [e1]; rfl
 unfold asY
 refine uL ((j : Int), ()) hjoin ?_
 unfold axB
 have hw : w64 (len a - (j : Int)) = (t.length : Int) := by rw [aaC, aaA zc]; omega
 simp only [hw]
 by_cases c1 : t = []
 ·rw [hnot (fun h => h.2.1 c1)]
  exact uR _ (uT (by rw [c1]; rfl) rfl)
 have hlen : 1 ≤ t.length := ya.2 c1
 by_cases c2 : t.length ≤ 600
 case neg =>
  rw [hnot (fun h => c2 h.2.2.1)]
  exact uR _ (uF sd (uT sd rfl))
 refine uL (false, ()) (uF sd (uF sd rfl)) ?_
 refine uO ((j : Int), ()) rfl ?_
 refine aaL (fun i : Int × Unit => ∃ k : Nat, i.1 = ((j + k : Nat) : Int) ∧ k ≤ t.length ∧ isD (t.take k)) (fun i => ((a.length : Int) - i.1).toNat) (fun _ => ((rdW a).isSome, ())) ?_ _ ⟨0, rfl, by omega, by simp [isD]⟩
 rintro ⟨i, u⟩ ⟨k, h3, h4, h5⟩
 simp only at h3
 subst h3
 simp only [axA, aaM, hget]
 rcases zr k t.length with hk | hk
 ·have e1 : t.getD k 0 = t[k] := by simp [hk]
  simp only [e1]
  by_cases d1 : t[k].toNat < 48
  ·right
   rw [hnot (fun h => by have := h.1 t[k] (yf hk); omega)]
   repeat refine za ?_
   rfl
  by_cases d2 : t[k].toNat > 57
  ·right
   rw [hnot (fun h => by have := h.1 t[k] (yf hk); omega)]
   repeat refine za ?_
   rfl
  ·left
   refine ⟨(((j + (k + 1) : Nat) : Int), ()), ?_, ⟨k + 1, rfl, by omega, ?_⟩, by simp only; omega, ze⟩
   ·repeat refine za ?_
    rw [aaJ, aaA (x := ((j + k : Nat) : Int) + 1) zc]; rfl
   ·rw [zX hk, isD_append]
    refine ⟨h5, fun c hc => ?_⟩
    have := zZ.1 hc
    subst this
    omega
 ·right
  have hd : isD t := by rwa [zx hk] at h5
  have hg0 : a.getD j 0 = t.getD 0 0 := hget 0
  simp only [hg0]
  refine uF sd (uN ⟨by omega, by exact sn⟩ ?_)
  cases hct : t with
  | nil => exact absurd hct c1
  | cons c r =>
   rw [← hct]
   have hg : t.getD 0 0 = c := by rw [hct]; rfl
   simp only [hg]
   have hh : t.head? = some c := by rw [hct]; rfl
   by_cases c0 : c = 48
   ·subst c0
    refine uF rfl ?_
    show some (Sum.inr (len a == 1, ())) = _
    by_cases hl1 : a.length = 1
    ·rw [hyes hd c1 c2 (fun _ => ⟨by
      cases b with
      | false => rfl
      | true => have := hb.1 rfl; omega, by omega⟩)]
     rw [show (len a == 1) = true by rw [yF, aaC]; omega]
    ·rw [hnot (fun h => by
      obtain ⟨q1, q2⟩ := h.2.2.2 hh
      have : ¬ j = 1 := fun h => by rw [hb.2 h] at q1; cases q1
      omega)]
     rw [show (len a == 1) = false by rw [beq_eq_false_iff_ne, aaC]; omega]
   ·rw [hyes hd c1 c2 (fun h => by rw [hh] at h; injection h with h; exact absurd h c0)]
    refine uT ?_ rfl
    rw [xf]
    intro h
    exact c0 (UInt8.toNat_inj.1 (Int.ofNat.inj h))
theorem aDY {a t : List UInt8} {j : Nat} (hd : isD t) (hget : ∀ k, a.getD (j + k) 0 = t.getD k 0) {s i e : Nat} (h1 : s ≤ i) (h2 : i < e) (h3 : e ≤ t.length) (h4 : e - s ≤ 4) : w64 (w64 ((num ((t.take i).drop s) : Int) * 10) + w64 (wu8 (((a.getD (j + i) 0).toNat : Int) - 48))) = (num ((t.take (i + 1)).drop s) : Int) := by
 have hi : i < t.length := zc
 have e1 : t.getD i 0 = t[i] := by simp [hi]
 have e2 := hd t[i] (yf hi)
 have e3 := aEU (aqW (av4 hd i) s)
 rw [awQ h1 zc] at e3
 have e4 : (10 : Nat) ^ (i - s) ≤ 10 ^ 3 := zV zc zc
 have e5 : dv t[i] = t[i].toNat - 48 := rfl
 rw [aIx h1 hi, anV, hget, e1, e5]
 rw [abO (x := (t[i].toNat : Int) - 48) zc, aaA (x := (t[i].toNat : Int) - 48) zc, aaA (x := (num ((t.take i).drop s) : Int) * 10) zc, aaA zc]
 omega
theorem anH {z : Int} (h : Fit z) : alU (dec z, ()) = some (pl z, ()) := aaG (enc := fun x : Int => (dec x, ())) z h (fun b hb => ajP (Prod.mk.inj hb).1)
theorem aNc (a : List UInt8) (y) (h : alU (a, ()) = some y) : (aGV a).toO = some y := by
 obtain ⟨z, hp, hx, rfl⟩ := aaD h
 obtain ⟨rfl, -⟩ := Prod.mk.inj hx
 clear h hx
 have hfit : (aa2 z.natAbs).length ≤ 600 := hp
 have hd := alE z.natAbs
 have hn := anW z.natAbs
 have hne := aiC z.natAbs
 obtain ⟨j, hj, hget, hlen, hjoin⟩ : ∃ j : Nat, (j = if z < 0 then 1 else 0) ∧ (∀ k, (dec z).getD (j + k) 0 = (aa2 z.natAbs).getD k 0) ∧ (dec z).length = j + (aa2 z.natAbs).length ∧ ((TT.need (asT Int 0 ≤ 0 ∧ 0 < len (dec z)) (TT.ite ((((gi (dec z) 0 0).toNat : Int)) == 45) (TT.ok (.inl (1, ()))) (TT.ok (.inl (0, ())))) : TT (uA ⊕ (PlT × Unit))).toO = some (.inl ((j : Int), ()))) := by
  by_cases c : z < 0
  ·rw [aiB c]
   refine ⟨1, by rw [if_pos c], fun k => by rw [xc]; simp, by simp; omega, uN ⟨by simp [asT], by (try simp only [aaC, inb, inc, ge_iff_le, gt_iff_lt, zp, asT, ne_eq]); simp⟩ (uT rfl rfl)⟩
  ·rw [abZ zc]
   refine ⟨0, by rw [if_neg c], fun k => by rw [zu], by omega, uN ⟨by simp [asT], by exact sn⟩ (uF ?_ rfl)⟩
   have := adY z.natAbs
   cases hdn : aa2 z.natAbs with
   | nil => exact absurd hdn (ae9 _)
   | cons c l =>
    rw [hdn] at this
    show ((c.toNat : Int) == 45) = false
    rw [beq_eq_false_iff_ne]
    intro h
    have hc : c = 45 := UInt8.toNat_inj.1 (Int.ofNat.inj h)
    rw [hc] at this
    exact this rfl
 have hj1 : j ≤ 1 := by rw [hj]; split <;> omega
 have hjb : ((j : Int) == 1) = decide (z < 0) := by
  by_cases c : z < 0
  ·rw [zo c, hj, if_pos c]; rfl
  ·rw [zn c, hj, if_neg c]; rfl
 generalize aa2 z.natAbs = t at *
 generalize dec z = a at *
 unfold aGV
 refine uL ((j : Int), ()) hjoin ?_
 refine uO ((a.length : Int), true, [], ()) rfl ?_
 refine aaL (fun i : Int × Bool × List Int × Unit => ∃ e : Nat, (i.1 = ((j + e : Nat) : Int) ∨ (e = 0 ∧ i.1 ≤ j ∧ -10 ≤ i.1)) ∧ e ≤ t.length ∧ Dg 10000 i.2.2.1 ∧ V 10000 i.2.2.1 + 10000 ^ i.2.2.1.length * num (t.take e) = z.natAbs ∧ i.2.2.1.length + e ≤ t.length ∧ (i.2.1 = true → i.2.2.1 = [])) (fun i => (i.1 + 20).toNat) (fun _ => (pl z, ())) ?_ _ ⟨t.length, Or.inl (show (a.length : Int) = _ by omega), zq _, avH _, by simp [V]; omega, by simp, fun _ => rfl⟩
 rintro ⟨e', f, l, u⟩ ⟨e, g1, g3, g4, g5, g6, g7⟩
 simp only at g1 g4 g5 g6 g7
 rcases zD e with he | he
 ·right
  subst he
  have hle : e' ≤ j := zc
  have hv : V 10000 l = z.natAbs := by simpa [aHh] using g5
  have hm : abE ((j : Int) == 1, l, ()) = some (pl z, ()) := azY g4 zc hv (Or.inr hjb)
  cases f with
  | true =>
   obtain rfl := g7 rfl
   unfold aqE
   exact uT rfl (uF (zn (show ¬ (e' > (j : Int)) by omega)) (uC _ hm rfl))
  | false =>
   unfold aqE
   dsimp only
   rw [zt]
   exact uF rfl (uF (zn (show ¬ (e' > (j : Int)) by omega)) (uC _ hm rfl))
 ·left
  have he' : e' = ((j + e : Nat) : Int) := zc
  subst he'
  obtain ⟨s, hs, hs1, hs2, hs3, hs4⟩ : ∃ s : Nat, (if (j : Int) > w64 (((j + e : Nat) : Int) - 4) then (j : Int) else w64 (((j + e : Nat) : Int) - 4)) = ((j + s : Nat) : Int) ∧ s ≤ e ∧ e - s ≤ 4 ∧ (s = 0 ∨ s + 4 = e) ∧ s < e := by
   rw [aaA (x := ((j + e : Nat) : Int) - 4) zc]
   rcases zr e 4 with h9 | h9
   ·exact ⟨0, by rw [if_pos zc]; rfl, by omega, by omega, Or.inl rfl, by omega⟩
   ·exact ⟨e - 4, by rw [if_neg zc]; omega, by omega, by omega, Or.inr zc, by omega⟩
  have hseg := aNU (s := t) hs1 g3
  have hv := aEU (aqW (av4 hd e) s)
  rw [awQ hs1 g3] at hv
  have hv4 : (10 : Nat) ^ (e - s) ≤ 10 ^ 4 := zV zc hs2
  have hw4 : w64 (((j + e : Nat) : Int) - 4) = ((j + e : Nat) : Int) - 4 := aaA zc
  generalize hX : num ((t.take e).drop s) = X at hseg hv
  have hD : Dg 10000 (l ++ [(X : Int)]) := ae1 g4 (anK zc zc)
  have hV1 : V 10000 (l ++ [(X : Int)]) + 10000 ^ (l ++ [(X : Int)]).length * (num (t.take s) : Int) = z.natAbs := by
   rw [aeK, aAz, ← g5, hseg, zH, yr, zY]
   rcases hs3 with h0 | h0
   ·subst h0; simp [aHh]
   ·rw [show e - s = 4 by omega]
    have : (((num (t.take s) * 10 ^ 4 + X : Nat)) : Int) = (num (t.take s) : Int) * 10000 + X := zi
    rw [this]
    grind
  have inv : (((j + e : Nat) : Int) - 4 = ((j + s : Nat) : Int) ∨ (s = 0 ∧ ((j + e : Nat) : Int) - 4 ≤ j ∧ -10 ≤ ((j + e : Nat) : Int) - 4)) := zc
  refine ⟨(((j + e : Nat) : Int) - 4, false, l ++ [(X : Int)], ()), ?_, ⟨s, inv, by omega, hD, hV1, by simp; omega, by simp⟩, by simp only; omega, ze⟩
  cases f with
  | false =>
   simp only [aqE]
   refine uF rfl (uT sd (uO (((j + s : Nat) : Int), 0, ()) (by repeat refine za ?_; rw [hs]; rfl) ?_))
   refine aaL (fun i : Int × Int × Unit => ∃ q : Nat, s ≤ q ∧ q ≤ e ∧ i = (((j + q : Nat) : Int), (num ((t.take q).drop s) : Int), ())) (fun i => (((j + e : Nat) : Int) - i.1).toNat) (fun _ => (Sum.inl (((j + e : Nat) : Int) - 4, false, l ++ [(X : Int)], ()) : (Int × Bool × List Int × Unit) ⊕ (PlT × Unit))) ?_ _ ⟨s, zq _, hs1, by rw [yv zh]; rfl⟩
   rintro i ⟨q, h1, h2, rfl⟩
   rcases zr q e with hq | hq
   ·left
    refine ⟨(((j + (q + 1) : Nat) : Int), (num ((t.take (q + 1)).drop s) : Int), ()), ?_, ⟨q + 1, by omega, by omega, rfl⟩, by simp only; omega, ze⟩
    simp only [aCp, aaM, aDY hd hget h1 hq g3 hs2]
    refine uT sd (uN ⟨by omega, by exact sn⟩ ?_)
    repeat refine za ?_
    rw [aaJ, aaA (x := ((j + q : Nat) : Int) + 1) zc]; rfl
   ·right
    have hqe : q = e := zc
    subst hqe
    simp only [aCp, hX, zt, hw4]
    refine uF sd (uN zc ?_)
    repeat refine za ?_
    rfl
  | true =>
   obtain rfl := g7 rfl
   simp only [aqE]
   refine uT rfl (uT sd (uO (((j + s : Nat) : Int), 0, ()) (by repeat refine za ?_; rw [hs]; rfl) ?_))
   refine aaL (fun i : Int × Int × Unit => ∃ q : Nat, s ≤ q ∧ q ≤ e ∧ i = (((j + q : Nat) : Int), (num ((t.take q).drop s) : Int), ())) (fun i => (((j + e : Nat) : Int) - i.1).toNat) (fun _ => (Sum.inl (((j + e : Nat) : Int) - 4, false, [(X : Int)], ()) : (Int × Bool × List Int × Unit) ⊕ (PlT × Unit))) ?_ _ ⟨s, zq _, hs1, by rw [yv zh]; rfl⟩
   rintro i ⟨q, h1, h2, rfl⟩
   rcases zr q e with hq | hq
   ·left
    refine ⟨(((j + (q + 1) : Nat) : Int), (num ((t.take (q + 1)).drop s) : Int), ()), ?_, ⟨q + 1, by omega, by omega, rfl⟩, by simp only; omega, ze⟩
    simp only [aCq, aaM, aDY hd hget h1 hq g3 hs2]
    refine uT sd (uN ⟨by omega, by exact sn⟩ ?_)
    repeat refine za ?_
    rw [aaJ, aaA (x := ((j + q : Nat) : Int) + 1) zc]; rfl
   ·right
    have hqe : q = e := zc
    subst hqe
    simp only [aCq, hX, hw4]
    refine uF sd (uN zc ?_)
    repeat refine za ?_
    rfl
theorem aBL {l : List Int} (h : Dg 10000 l) (k : Nat) : V 10000 (l.drop k) = V 10000 l / 10000 ^ k := by
 have h1 := acJ 10000 l k
 have h2 := adP zc h k
 have h3 := aaT zc (acI h k)
 rw [h1, vA _ _ (by have := aCs (show (1 : Int) ≤ 10000 by omega) k; omega), xr h3 h2, vh]
theorem aGW {R b top first P : Int} (hP : 0 < P) (hb0 : 0 < b) (htop : 10000 ≤ top) (hb1 : top * P ≤ b) (hb2 : b < (top + 1) * P) (hf1 : first * P ≤ R) (hf2 : R < (first + 1) * P) (hR0 : 0 ≤ R) (hR : R < b * 10000) (hf0 : 0 ≤ first) :
  (first / (top + 1)) * b ≤ R ∧ R < (first / top + 1) * b ∧ first / top + 1 ≤ 10001 ∧ 0 ≤ first / (top + 1) ∧ first ≤ 100000000000000 * top := by
 have g1 := yl first (top + 1)
 have g2 := yO first (show top + 1 ≠ 0 by omega)
 have g3 := yl first top
 have g4 := yB first (show 0 < top by omega)
 have g7 := yO first (show top ≠ 0 by omega)
 have g5 := xD hf0 (show 0 ≤ top + 1 by omega)
 have g6 := xD hf0 (show 0 ≤ top by omega)
 generalize first / (top + 1) = L at *
 generalize first / top = H at *
 generalize first % (top + 1) = m1 at *
 generalize first % top = m2 at *
 refine ⟨?_, ?_, ?_, g5, ?_⟩
 ·have a1 : L * b ≤ L * ((top + 1) * P) := zE zc g5
  have a2 : L * ((top + 1) * P) = ((top + 1) * L) * P := by grind
  have a3 : ((top + 1) * L) * P ≤ first * P := zF zc zc
  omega
 ·have a1 : (H + 1) * (top * P) ≤ (H + 1) * b := zE hb1 zc
  have a2 : (H + 1) * (top * P) = (top * H + top) * P := by grind
  have a3 : (first + 1) * P ≤ (top * H + top) * P := zF zc zc
  omega
 ·have a1 : first * P < ((top + 1) * 10000) * P := by
   have : b * 10000 < ((top + 1) * P) * 10000 := zc
   have e : ((top + 1) * P) * 10000 = ((top + 1) * 10000) * P := by grind
   omega
  have a2 : first < (top + 1) * 10000 := yh a1 zc
  have a3 : top * H < top * 10001 := zc
  have := yR a3 zc
  omega
 ·have a1 : first * P < ((top + 1) * 10000) * P := by
   have : b * 10000 < ((top + 1) * P) * 10000 := zc
   have e : ((top + 1) * P) * 10000 = ((top + 1) * 10000) * P := by grind
   omega
  have a2 : first < (top + 1) * 10000 := yh a1 zc
  omega
theorem aEm (m o : List Int) (y) (h : akH (m, o, ()) = some y) : (asS m o).toO = some y := by
 obtain ⟨⟨a, b⟩, hn, hx, rfl⟩ := aaD h
 obtain ⟨rfl, hx2⟩ := Prod.mk.inj hx; obtain ⟨rfl, -⟩ := Prod.mk.inj hx2; dsimp only
 obtain ⟨la, lb, hb0⟩ := hn
 simp only at la lb hb0
 clear h hx hx2
 have hda := adX a
 have hdb := adX b
 have hVa := aiF a
 have hVb := aiF b
 have hbl : 1 ≤ (dig b).length := by
  rcases zD (dig b).length with h5 | h5
  ·exact absurd (dig_nil_iff.1 (zW.1 h5)) hb0
  ·exact h5
 unfold asS
 by_cases h1 : (dig b).length = 1
 ·-- one digit
  refine uT sd (uN ⟨by simp [asT], by exact sn⟩ ?_)
  have hb1 : b < 10000 := by have := dig_length_le_iff.1 (vD h1); simpa using this
  have hdb1 : dig b = [(b : Int)] := aOW hb0 hb1
  have hg : gi (dig b) 0 0 = (b : Int) := by rw [hdb1]; rfl
  rw [hg]
  refine uC _ (aPL zc zc hb1) ?_
  have hm := yU a (show 0 < b by omega)
  generalize a % b = r at hm ⊢
  refine uC (dig r, ()) (agU (anK (show (0 : Int) ≤ (r : Int) by omega) (show (r : Int) < 10000 by omega)) zi (by simp [V])) rfl
 obtain ⟨n, hnl⟩ : ∃ n, (dig b).length = n + 2 := ⟨(dig b).length - 2, by omega⟩
 have w1 : w64 (len (dig b) - 1) = ((n + 1 : Nat) : Int) := by rw [aaC, hnl, aaA zc]; omega
 have w2 : w64 (((n + 1 : Nat) : Int) - 1) = ((n : Nat) : Int) := by rw [aaA zc]; omega
 have bge : 10000 ^ (n + 1) ≤ b := by have := axE (B := 10000) zc hb0; rw [show (avP 10000 b).length = n + 2 from hnl] at this; exact this
 refine uF sd ?_
 simp only [w1]
 by_cases h2 : (dig a).length ≤ n + 1
 ·-- the dividend is shorter
  refine uT sd (uN zc ?_)
  have hab : a < b := ye (dig_length_le_iff.1 h2) bge
  rw [aaJ, xb hab, yE hab, dig_zero]
  simp
 have hq : ∃ M, (dig a).length = M + (n + 1) ∧ 0 < M := ⟨(dig a).length - (n + 1), by omega, by omega⟩
 obtain ⟨M, hM, hM0⟩ := hq
 have w3 : w64 (len (dig a) - ((n + 1 : Nat) : Int)) = (M : Int) := by rw [aaC, hM, aaA zc]; omega
 refine uF sd ?_
 simp only [w2, w3]
 refine uN sd (uN sd (uN zc (uN sd ?_)))
 simp only [zp]
 have htk : List.take ((dig a).length - M) ((dig a).drop M) = (dig a).drop M := zx zi
 simp only [htk]
 have htk2 : List.take (0 + ((dig a).drop M).length) (List.take 0 ([] : List Int) ++ (dig a).drop M) = (dig a).drop M := by rw [zu, List.take_zero, xk, zt]
 simp only [htk2]
 refine uN zh ?_
 have w4 : w64 ((M : Int) - 1) = (M : Int) - 1 := aaA zc
 refine uO ((M : Int) - 1, (dig a).drop M, List.replicate M 0, ()) ?_ ?_
 ·repeat refine za ?_
  rw [aaJ, w4]
 -- the first two digits of the divisor
 have dB1 := aa3 zc hdb (n + 1)
 have dB0 := aa3 zc hdb n
 have hBtop : 1 ≤ (dig b).getD (n + 1) 0 := by
  have hc := aJg b
  unfold Cn at hc
  rw [yQ, hnl, show n + 2 - 1 = n + 1 by omega, zR zc] at hc
  rw [ajN zc] at *
  rcases zS 0 (dig b)[n + 1] with h | h
  ·exact h
  ·exact absurd (by congr 1; omega) hc
 have htopV : V 10000 ((dig b).drop n) = (dig b).getD (n + 1) 0 * 10000 + (dig b).getD n 0 := by
  have e1 := aaU 10000 (dig b) n
  have e2 := aaU 10000 (dig b) (n + 1)
  have e3 := adB 10000 (l := dig b) (k := n + 1 + 1) zc
  omega
 have htop2 := aBL hdb n
 rw [hVb] at htop2
 have hwtop : w64 (w64 (gi (dig b) ((n + 1 : Nat) : Int) 0 * 10000) + gi (dig b) (n : Int) 0) = (dig b).getD (n + 1) 0 * 10000 + (dig b).getD n 0 := by
  rw [aaM, aaM, aaA (x := (dig b).getD (n + 1) 0 * 10000) zc, aaA zc]
 have hwtop1 : w64 ((dig b).getD (n + 1) 0 * 10000 + (dig b).getD n 0 + 1) = (dig b).getD (n + 1) 0 * 10000 + (dig b).getD n 0 + 1 := aaA zc
 have htop3 : 10000 ≤ (dig b).getD (n + 1) 0 * 10000 + (dig b).getD n 0 ∧ (dig b).getD (n + 1) 0 * 10000 + (dig b).getD n 0 < 100000000 := zc
 rw [← htopV] at htop3
 have hP : (0 : Int) < 10000 ^ n := yG zc
 have hbt1 : V 10000 ((dig b).drop n) * 10000 ^ n ≤ (b : Int) := by
  rw [htop2]; exact Int.ediv_mul_le _ zc
 have hbt2 : (b : Int) < (V 10000 ((dig b).drop n) + 1) * 10000 ^ n := by
  rw [htop2]; exact Int.lt_ediv_add_one_mul_self _ hP
 rw [← htopV] at hwtop hwtop1
 generalize htv : V 10000 ((dig b).drop n) = top at *
 clear htopV htop2 dB1 dB0 hBtop htv
 have hR0 : V 10000 ((dig a).drop M) < (b : Int) := by
  have := aLR zc (acZ hda M)
  rw [yA, show (dig a).length - M = n + 1 by omega] at this
  have hb2 : ((10000 ^ (n + 1) : Nat) : Int) ≤ (b : Int) := wI.2 bge
  rw [xV] at hb2
  exact Int.lt_of_lt_of_le this hb2
 have hcR0 : Cn ((dig a).drop M) := by
  have hc := aJg a
  unfold Cn at hc ⊢
  rw [List.getLast?_drop, if_neg zc]
  exact hc
 refine aaL (fun i : Int × List Int × List Int × Unit => ∃ (k : Nat) (R : Nat), k ≤ M ∧ i.1 = (k : Int) - 1 ∧ i.2.1 = dig R ∧ R < b ∧ i.2.2.1.length = M ∧ Dg 10000 i.2.2.1 ∧ V 10000 ((dig a).drop k) = V 10000 (i.2.2.1.drop k) * b + R) (fun i => (i.1 + 1).toNat) (fun _ => (dig (a / b), dig (a % b), ())) ?_ _ ?_
 case refine_2 =>
  obtain ⟨R, hR⟩ := zv (aaT zc (acZ hda M))
  refine ⟨M, R, zq _, rfl, aC9 (acZ hda M) hcR0 hR, by omega, by simp, agV zc _, ?_⟩
  rw [hR, adB _ zi]; simp
 rintro ⟨i, r, q, u⟩ ⟨k, R, g1, g2, g3, g4, g5, g6, g7⟩
 dsimp only at g2 g3 g5 g6 g7
 subst g2 g3
 cases k with
 | zero =>
  right
  simp only [yN, hVa] at g7
  obtain ⟨v, hv⟩ := zv (aaT zc g6)
  rw [hv] at g7
  have h8 : a = v * b + R := by
   have : (a : Int) = ((v * b + R : Nat) : Int) := by simpa using g7
   exact Int.ofNat.inj this
  have h9 : a / b = v := by rw [h8, xc, wK _ _ zc, xb zc, zu]
  have h10 : a % b = R := by rw [h8, xc, xX, yE zc]
  simp only [apD, w1, w3, zp]
  refine uF sd (uC (dig v, ()) ?_ ?_)
  ·rw [zx zc]
   exact agU g6 zc hv
  ·rw [aaJ, h9, h10]
 | succ j =>
  left
  have e6 : ((j + 1 : Nat) : Int) - 1 = (j : Int) := zc
  rw [e6]
  have da := aa3 zc hda j
  obtain ⟨d, hd⟩ := zv da.1
  have lR : (dig R).length ≤ n + 2 := by rw [← hnl]; exact acD zc
  -- the next rest
  obtain ⟨R', hR'⟩ : ∃ R', R' = d + 10000 * R := ⟨_, rfl⟩
  have hR'b : R' < b * 10000 := zc
  have hcut : ac1 ((dig a).getD j 0 :: dig R, ()) = some (dig R', ()) := by
   rw [hd]
   refine agU (aDF ⟨by omega, by omega⟩ (adX R)) zh ?_
   simp only [V, aiF, hR']; simp
  have lR' : (dig R').length ≤ n + 3 := by
   rw [dig_length_le_iff]
   have := dig_length_le_iff.1 (vD hnl)
   rw [show n + 3 = (n + 2) + 1 by omega, yz]
   exact ye hR'b (zU _ (vG this))
  have hdR := adX R'
  have hVR := aiF R'
  -- its first three digits
  have hf := aBL hdR n
  rw [hVR] at hf
  have hf1 : V 10000 ((dig R').drop n) * 10000 ^ n ≤ (R' : Int) := by rw [hf]; exact Int.ediv_mul_le _ zc
  have hf2 : (R' : Int) < (V 10000 ((dig R').drop n) + 1) * 10000 ^ n := by rw [hf]; exact Int.lt_ediv_add_one_mul_self _ hP
  have hf0 := aaT zc (acZ hdR n)
  obtain ⟨k1, k2, k3, k4, k5⟩ := aGW hP zc htop3.1 hbt1 hbt2 hf1 hf2 zc zc hf0
  have hfirst : adG (fun i1 => (ae4 (dig a) (dig b) ((j : Int), dig R, q, ()) (dig R', ()) i1).toO) (((n + 2 : Nat) : Int), 0, ()) = adG (fun i1 => (ae4 (dig a) (dig b) ((j : Int), dig R, q, ()) (dig R', ()) i1).toO) ((n : Int) - 1, V 10000 ((dig R').drop n), ()) := by
   have st : ∀ (t : Nat) (v : Int), n ≤ t → t ≤ n + 2 → v = V 10000 ((dig R').drop (t + 1)) → (ae4 (dig a) (dig b) ((j : Int), dig R, q, ()) (dig R', ()) ((t : Int), v, ())).toO = some (.inl ((t : Int) - 1, V 10000 ((dig R').drop t), ())) := by
    intro t v ht1 ht2 hv
    have e1 := aaU 10000 (dig R') t
    have e2 := aa3 zc hdR t
    have e3 := aaT zc (acZ hdR (t + 1))
    have e4 : V 10000 ((dig R').drop (t + 1)) < 10000 ^ 2 := by
     have := aLR zc (acZ hdR (t + 1))
     have h7 : (10000 : Int) ^ ((dig R').drop (t + 1)).length ≤ 10000 ^ 2 := aGY zc (by rw [yA]; omega)
     omega
    subst hv
    simp only [ae4, w1, w2, aaM]
    refine uT sd ?_
    by_cases ct : t < (dig R').length
    ·refine uT sd (uN sd ?_)
     repeat refine za ?_
     rw [aaJ, aaA (x := (t : Int) - 1) zc, aaA (x := V 10000 ((dig R').drop (t + 1)) * 10000) zc, aaA zc, e1, Int.add_comm, yJ]
    ·refine uF sd ?_
     repeat refine za ?_
     rw [ah7 zc] at e1
     rw [aaJ, aaA (x := (t : Int) - 1) zc, aaA zc, e1, vh, yJ]
   have s1 := st (n + 2) 0 zc zc (by rw [adB _ zc])
   rw [show (((n + 2 : Nat) : Int)) - 1 = ((n + 1 : Nat) : Int) by omega] at s1
   rw [ac4 s1]
   have s2 := st (n + 1) _ zc zc rfl
   rw [show (((n + 1 : Nat) : Int)) - 1 = ((n : Nat) : Int) by omega] at s2
   rw [ac4 s2]
   rw [ac4 (st n _ zc zc rfl)]
  -- the search
  obtain ⟨Q, hQ⟩ : ∃ Q : Nat, Q = R' / b := ⟨_, rfl⟩
  have hQm := xU R' b
  have hQl := yU R' (show 0 < b by omega)
  rw [← hQ] at hQm
  have hQ4 : Q < 10000 := by
   rw [hQ, yL zc, yK]; exact hR'b
  have hRQ : (R' : Int) = (Q : Int) * b + ((R' % b : Nat) : Int) := by
   have : (R' : Int) = ((R' % b + b * Q : Nat) : Int) := by rw [hQm]
   rw [this]; simp; rw [yJ]; omega
  have res : adG (fun i1 => (ae4 (dig a) (dig b) ((j : Int), dig R, q, ()) (dig R', ()) i1).toO) (((n + 2 : Nat) : Int), 0, ()) = some (Sum.inl ((j : Int) - 1, dig (R' % b), q.set j (Q : Int), ())) := by
   rw [hfirst]
   refine acL ?_
   simp only [ae4, w1, w2, hwtop, hwtop1]
   refine uF sd (uN zc (uN zc ?_))
   have hd1 : Int.tdiv (V 10000 ((dig R').drop n)) top = V 10000 ((dig R').drop n) / top := zL hf0
   have hd2 : Int.tdiv (V 10000 ((dig R').drop n)) (top + 1) = V 10000 ((dig R').drop n) / (top + 1) := zL hf0
   simp only [hd1, hd2]
   have hn1 := xD hf0 (show 0 ≤ top by omega)
   have hlow : V 10000 ((dig R').drop n) / (top + 1) ≤ Q := by
    have : V 10000 ((dig R').drop n) / (top + 1) * b < ((Q : Int) + 1) * b := by
     rw [wT]; omega
    have := yh this zc
    omega
   have hhigh : (Q : Int) < V 10000 ((dig R').drop n) / top + 1 := by
    have : (Q : Int) * b < (V 10000 ((dig R').drop n) / top + 1) * b := zc
    exact yh this zc
   have wH : w64 (w64 (V 10000 ((dig R').drop n) / top) + 1) = V 10000 ((dig R').drop n) / top + 1 := by
    rw [aaA (x := V 10000 ((dig R').drop n) / top) zc, aaA zc]
   have wL : w64 (V 10000 ((dig R').drop n) / (top + 1)) = V 10000 ((dig R').drop n) / (top + 1) := aaA zc
   simp only [wH, wL]
   generalize V 10000 ((dig R').drop n) / top + 1 = H at *
   generalize V 10000 ((dig R').drop n) / (top + 1) = L at *
   refine uO (H, L, ()) (by repeat refine za ?_; rfl) ?_
   refine aaL (fun i2 : Int × Int × Unit => 0 ≤ i2.2.1 ∧ i2.2.1 ≤ Q ∧ (Q : Int) < i2.1 ∧ i2.1 ≤ 10001) (fun i2 => (i2.1 - i2.2.1).toNat) (fun _ => (.inr (.inl ((j : Int) - 1, dig (R' % b), q.set j (Q : Int), ())) : (Int × Int × Unit) ⊕ ((Int × List Int × List Int × Unit) ⊕ (List Int × List Int × Unit)))) ?_ _ ⟨k4, hlow, hhigh, k3⟩
   rintro ⟨hi, lo, u3⟩ ⟨c1, c2, c3, c4⟩
   dsimp only at c1 c2 c3 c4
   have wd : w64 (hi - lo) = hi - lo := aaA zc
   simp only [aw4, wd]
   by_cases hgap : hi - lo > 1
   ·left
    have wm : w64 (Int.tdiv (w64 (lo + hi)) 2) = (lo + hi) / 2 := by
     rw [aaA (x := lo + hi) zc, zL zc, aaA zc]
    simp only [wm]
    obtain ⟨mm, hmm⟩ := zv (show 0 ≤ (lo + hi) / 2 by omega)
    rw [hmm]
    have hmB : mm ≤ 10000 ∧ 1 ≤ mm := zc
    have hprod : abY (dig b, [(mm : Int)], ()) = some (dig (b * mm), ()) := by
     refine anE hdb ?_ zc zi (by rw [hVb]; simp [V])
     by_cases cm : mm = 10000
     ·right; rw [cm]; rfl
     ·left; exact anK zc zc
    have lbm : (dig (b * mm)).length ≤ 1000000000000 := by
     have : (dig (b * mm)).length ≤ (dig b).length + 2 := by
      rw [dig_length_le_iff, xA]
      have q1 := dig_length_le_iff.1 (zq (dig b).length)
      exact Nat.mul_lt_mul'' q1 zc
     omega
    have hcutp : ac1 (dig (b * mm), ()) = some (dig (b * mm), ()) := agU (adX _) lbm (aiF _)
    obtain ⟨o1, o2⟩ := aIP (b * mm) R'
    have hle : aRM (dig (b * mm)) (dig R') ≤ 0 ↔ b * mm ≤ R' := zc
    have hmQ : b * mm ≤ R' ↔ mm ≤ Q := by
     rw [hQ, wM zc, yK]
    by_cases cm : mm ≤ Q
    ·refine ⟨(hi, (mm : Int), ()), ?_, ⟨by dsimp only; omega, by dsimp only; omega, c3, c4⟩, by dsimp only; omega, ze⟩
     refine uT (zo hgap) (uV ?_)
     refine uC _ hprod (uC _ hcutp (uC _ (auF _ _ (adX _) (adX _) lbm zc) (uT (zo (hle.2 (hmQ.2 cm))) ?_)))
     repeat refine za ?_
     rfl
    ·refine ⟨((mm : Int), lo, ()), ?_, ⟨c1, c2, by dsimp only; omega, by dsimp only; omega⟩, by dsimp only; omega, ze⟩
     refine uT (zo hgap) (uV ?_)
     refine uC _ hprod (uC _ hcutp (uC _ (auF _ _ (adX _) (adX _) lbm zc) (uF (zn (fun h => cm (hmQ.1 (hle.1 h)))) ?_)))
     repeat refine za ?_
     rfl
   ·right
    have hlQ : lo = Q := zc
    subst hlQ
    refine uF (zn hgap) ?_
    simp only [w1, w3, zp]
    refine uN ⟨by omega, by omega⟩ ?_
    have hprod : abY (dig b, [(Q : Int)], ()) = some (dig (b * Q), ()) := anE hdb (Or.inl (anK zc zc)) zc zi (by rw [hVb]; simp [V])
    have hdiff : abF (dig R', dig (b * Q), ()) = some (dig (R' % b), ()) := by
     have := anF (a := dig R') (b := dig (b * Q)) (n := R' % b) (adX _) (adX _) zc (acD zc) (by rw [aiF, aiF]; omega) (by rw [aiF, aiF]; omega)
     exact this
    refine uC _ hprod (uC _ hdiff ?_)
    repeat refine za ?_
    rw [aaJ, aaA (x := (j : Int) - 1) zc, zu]
  refine ⟨((j : Int) - 1, dig (R' % b), q.set j (Q : Int), ()), ?_, ⟨j, R' % b, by omega, rfl, rfl, hQl, by simp; omega, ajG g6 ⟨by omega, by omega⟩ _, ?_⟩, by dsimp only; omega, ze⟩
  ·simp only [apD, aaM, w1]
   have htk3 : List.take (1 + (dig R).length) ([(dig a).getD j 0] ++ dig R) = (dig a).getD j 0 :: dig R := by
    rw [zx zh]; rfl
   simp only [htk3]
   have w5 : w64 (((n + 1 : Nat) : Int) + 1) = ((n + 2 : Nat) : Int) := by rw [aaA zc]; omega
   simp only [w5]
   refine uT sd (uN sd (uN zc (uC _ hcut ?_)))
   refine uO (((n + 2 : Nat) : Int), 0, ()) (by repeat refine za ?_; rfl) ?_
   exact res
  ·dsimp only
   rw [aaU 10000 (dig a) j, hd, g7, aaU 10000 (q.set j _) j, apM zc, aiA _ zc]
   have : (d : Int) + 10000 * (V 10000 (q.drop (j + 1)) * b + R) = 10000 * (V 10000 (q.drop (j + 1)) * b) + R' := by rw [hR']; simp; grind
   rw [this, hRQ]
   grind
set_option maxRecDepth 100000
open Go Go.Vg Go.Proofs
noncomputable section
def aGL : LTab := []
def apC (n : Bool × List Int × Unit) (d : Bool × List Int × Unit) : TT uQ :=
 .ite (d.1)
 (.call (aiJ ((n.1, n.2.1, ()), ())) agP fun y =>
 .call (aiJ ((d.1, d.2.1, ()), ())) agP fun y1 =>
 .call (afH ((y.1.1, y.1.2.1, ()), (y1.1.1, y1.1.2.1, ()), ())) agP fun y2 =>
 .call (agH ((y.1.1, y.1.2.1, ()), (y2.1.1, y2.1.2.1, ()), ())) aTR fun y3 =>
 .call (agH ((y1.1.1, y1.1.2.1, ()), (y2.1.1, y2.1.2.1, ()), ())) aTR fun y4 =>
 .ok ((((y3.1.1, y3.1.2.1, ()), (y4.1.1, y4.1.2.1, ()), ()), ())))
 (.call (afH ((n.1, n.2.1, ()), (d.1, d.2.1, ()), ())) agP fun y5 =>
 .call (agH ((n.1, n.2.1, ()), (y5.1.1, y5.1.2.1, ()), ())) aTR fun y6 =>
 .call (agH ((d.1, d.2.1, ()), (y5.1.1, y5.1.2.1, ()), ())) aTR fun y7 =>
 .ok ((((y6.1.1, y6.1.2.1, ()), (y7.1.1, y7.1.2.1, ()), ()), ())))
def aJ3 : LTab := []
def aAS (n : Int) (d : Int) : TT uQ :=
 .call (aa4 (n, ())) agP fun y =>
 .call (aa4 (d, ())) agP fun y1 =>
 .call (acX (y.1, y1.1, ())) asB fun y2 =>
 .ok ((((y2.1.1.1, y2.1.1.2.1, ()), (y2.1.2.1.1, y2.1.2.1.2.1, ()), ()), ()))
def aJ2 : LTab := []
def asR (a : List UInt8 × List UInt8 × Unit) : TT ux :=
 .call (agG (a.1, ())) Dd1 fun y =>
 .ite (!y.1)
 (.ok ((false, ())))
 (.call (agG (a.2.1, ())) Dd1 fun y1 =>
 .ite (!y1.1)
 (.ok ((false, ())))
 (.call (alU (a.1, ())) agP fun y2 =>
 .call (alU (a.2.1, ())) agP fun y3 =>
 .ite (y3.1.1)
 (.ok ((false, ())))
 (.ite (len y3.1.2.1 == 0)
 (.ok ((false, ())))
 (.call (afH ((y2.1.1, y2.1.2.1, ()), (y3.1.1, y3.1.2.1, ()), ())) agP fun y4 =>
 .call (am7 (y4.1, ())) Dd2 fun y5 =>
 .ok ((y5.1 == #[49].toList, ()))))))
def aKb : LTab := []
def aAW (a : List UInt8 × List UInt8 × Unit) : TT uA :=
 .call (aa9 ((a.1, a.2.1, ()), ())) Dd1 fun y =>
 .ite (!y.1)
 (.ok ((20, ())))
 (.ok ((0, ())))
def aSe : LTab := []
def aM3 (a : List UInt8 × List UInt8 × Unit) : TT uQ :=
 .call (alU (a.1, ())) agP fun y =>
 .call (alU (a.2.1, ())) agP fun y1 =>
 .ok ((((y.1.1, y.1.2.1, ()), (y1.1.1, y1.1.2.1, ()), ()), ()))
def aQk : LTab := []
def aIC (r : ug × ug × Unit) : TT uq :=
 .call (ajA ((r.1.1, r.1.2.1, ()), ())) aGa fun y =>
 .call (ajA ((r.2.1.1, r.2.1.2.1, ()), ())) aGa fun y1 =>
 .ite (y.2.1 != 0)
 (.ok (((#[].toList, #[].toList, ()), 6, ())))
 (.ite (y1.2.1 != 0)
 (.ok (((#[].toList, #[].toList, ()), 6, ())))
 (.ok (((y.1, y1.1, ()), 0, ()))))
def aM0 : LTab := []
def aEf (a : ug × ug × Unit) (b : ug × ug × Unit) : TT uQ :=
 .call (abJ ((a.1.1, a.1.2.1, ()), (b.2.1.1, b.2.1.2.1, ()), ())) agP fun y =>
 .call (abJ ((b.1.1, b.1.2.1, ()), (a.2.1.1, a.2.1.2.1, ()), ())) agP fun y1 =>
 .call (aeZ (y.1, y1.1, ())) agP fun y2 =>
 .call (abJ ((a.2.1.1, a.2.1.2.1, ()), (b.2.1.1, b.2.1.2.1, ()), ())) agP fun y3 =>
 .call (acX ((y2.1.1, y2.1.2.1, ()), y3.1, ())) asB fun y4 =>
 .ok ((((y4.1.1.1, y4.1.1.2.1, ()), (y4.1.2.1.1, y4.1.2.1.2.1, ()), ()), ()))
def aMZ : LTab := []
def aEb (a : ug × ug × Unit) : TT uQ :=
 .call (aiJ ((a.1.1, a.1.2.1, ()), ())) agP fun y =>
 .ok ((((y.1.1, y.1.2.1, ()), (a.2.1.1, a.2.1.2.1, ()), ()), ()))
def aJ7 : LTab := []
def aAU (a : ug × ug × Unit) (b : ug × ug × Unit) : TT uQ :=
 .call (arP (((b.1.1, b.1.2.1, ()), (b.2.1.1, b.2.1.2.1, ()), ()), ())) asB fun y =>
 .call (am6 (((a.1.1, a.1.2.1, ()), (a.2.1.1, a.2.1.2.1, ()), ()), y.1, ())) asB fun y1 =>
 .ok ((((y1.1.1.1, y1.1.1.2.1, ()), (y1.1.2.1.1, y1.1.2.1.2.1, ()), ()), ()))
def aJ0 : LTab := []
def aAR (a : ug × ug × Unit) (b : ug × ug × Unit) : TT uQ :=
 .call (abJ ((a.1.1, a.1.2.1, ()), (b.1.1, b.1.2.1, ()), ())) agP fun y =>
 .call (abJ ((a.2.1.1, a.2.1.2.1, ()), (b.2.1.1, b.2.1.2.1, ()), ())) agP fun y1 =>
 .call (acX (y.1, y1.1, ())) asB fun y2 =>
 .ok ((((y2.1.1.1, y2.1.1.2.1, ()), (y2.1.2.1.1, y2.1.2.1.2.1, ()), ()), ()))
def aM1 : LTab := []
def aEg (a : ug × ug × Unit) (b : ug × ug × Unit) : TT uQ :=
 .call (abJ ((a.1.1, a.1.2.1, ()), (b.2.1.1, b.2.1.2.1, ()), ())) agP fun y =>
 .call (abJ ((a.2.1.1, a.2.1.2.1, ()), (b.1.1, b.1.2.1, ()), ())) agP fun y1 =>
 .call (acX (y.1, y1.1, ())) asB fun y2 =>
 .ok ((((y2.1.1.1, y2.1.1.2.1, ()), (y2.1.2.1.1, y2.1.2.1.2.1, ()), ()), ()))
def aJ5 : LTab := []
def aAT (a : ug × ug × Unit) (b : ug × ug × Unit) : TT uA :=
 .call (abJ ((a.1.1, a.1.2.1, ()), (b.2.1.1, b.2.1.2.1, ()), ())) agP fun y =>
 .call (abJ ((b.1.1, b.1.2.1, ()), (a.2.1.1, a.2.1.2.1, ()), ())) agP fun y1 =>
 .call (aoG (y.1, y1.1, ())) Dd6 fun y2 =>
 .ok ((y2.1, ()))
def aSd : LTab := []
def aGK (n : Int) (d : Int) : TT uq :=
 .ite (d == 0)
 (.ok (((#[].toList, #[].toList, ()), 7, ())))
 (.call (aoD (n, d, ())) asB fun y =>
 .call (afZ (y.1, ())) adS fun y1 =>
 .ok (((y1.1.1, y1.1.2.1, ()), y1.2.1, ())))
def aQn : LTab := []
def aIF (a : List UInt8 × List UInt8 × Unit) (b : List UInt8 × List UInt8 × Unit) : TT uh :=
 .call (aa9 ((a.1, a.2.1, ()), ())) Dd1 fun y =>
 .ite (!y.1)
 (.ok ((0, 20, ())))
 (.call (aa9 ((b.1, b.2.1, ()), ())) Dd1 fun y1 =>
 .ite (!y1.1)
 (.ok ((0, 20, ())))
 (.call (adH ((a.1, a.2.1, ()), ())) asB fun y2 =>
 .call (adH ((b.1, b.2.1, ()), ())) asB fun y3 =>
 .call (agE (y2.1, y3.1, ())) Dd6 fun y4 =>
 .ok ((y4.1, 0, ()))))
def aQo : LTab := []
def aIG (a : List UInt8 × List UInt8 × Unit) (b : List UInt8 × List UInt8 × Unit) : TT uq :=
 .call (aa9 ((a.1, a.2.1, ()), ())) Dd1 fun y =>
 .ite (!y.1)
 (.ok (((#[].toList, #[].toList, ()), 20, ())))
 (.call (aa9 ((b.1, b.2.1, ()), ())) Dd1 fun y1 =>
 .ite (!y1.1)
 (.ok (((#[].toList, #[].toList, ()), 20, ())))
 (.call (adH ((a.1, a.2.1, ()), ())) asB fun y2 =>
 .call (adH ((b.1, b.2.1, ()), ())) asB fun y3 =>
 .call (am6 (y2.1, y3.1, ())) asB fun y4 =>
 .call (afZ (y4.1, ())) adS fun y5 =>
 .ok (((y5.1.1, y5.1.2.1, ()), y5.2.1, ()))))
def aQj : LTab := []
def aIB (a : List UInt8 × List UInt8 × Unit) (b : List UInt8 × List UInt8 × Unit) : TT uq :=
 .call (aa9 ((a.1, a.2.1, ()), ())) Dd1 fun y =>
 .ite (!y.1)
 (.ok (((#[].toList, #[].toList, ()), 20, ())))
 (.call (aa9 ((b.1, b.2.1, ()), ())) Dd1 fun y1 =>
 .ite (!y1.1)
 (.ok (((#[].toList, #[].toList, ()), 20, ())))
 (.call (adH ((a.1, a.2.1, ()), ())) asB fun y2 =>
 .call (adH ((b.1, b.2.1, ()), ())) asB fun y3 =>
 .call (aoE (y2.1, y3.1, ())) asB fun y4 =>
 .call (afZ (y4.1, ())) adS fun y5 =>
 .ok (((y5.1.1, y5.1.2.1, ()), y5.2.1, ()))))
def aQl : LTab := []
def aID (a : List UInt8 × List UInt8 × Unit) (b : List UInt8 × List UInt8 × Unit) : TT uq :=
 .call (aa9 ((a.1, a.2.1, ()), ())) Dd1 fun y =>
 .ite (!y.1)
 (.ok (((#[].toList, #[].toList, ()), 20, ())))
 (.call (aa9 ((b.1, b.2.1, ()), ())) Dd1 fun y1 =>
 .ite (!y1.1)
 (.ok (((#[].toList, #[].toList, ()), 20, ())))
 (.call (adH ((a.1, a.2.1, ()), ())) asB fun y2 =>
 .call (adH ((b.1, b.2.1, ()), ())) asB fun y3 =>
 .call (aoB (y2.1, y3.1, ())) asB fun y4 =>
 .call (afZ (y4.1, ())) adS fun y5 =>
 .ok (((y5.1.1, y5.1.2.1, ()), y5.2.1, ()))))
def aQm : LTab := []
def aIE (a : List UInt8 × List UInt8 × Unit) (b : List UInt8 × List UInt8 × Unit) : TT uq :=
 .call (aa9 ((a.1, a.2.1, ()), ())) Dd1 fun y =>
 .ite (!y.1)
 (.ok (((#[].toList, #[].toList, ()), 20, ())))
 (.call (aa9 ((b.1, b.2.1, ()), ())) Dd1 fun y1 =>
 .ite (!y1.1)
 (.ok (((#[].toList, #[].toList, ()), 20, ())))
 (.ite (b.1 == #[48].toList)
 (.ok (((#[].toList, #[].toList, ()), 7, ())))
 (.call (adH ((a.1, a.2.1, ()), ())) asB fun y2 =>
 .call (adH ((b.1, b.2.1, ()), ())) asB fun y3 =>
 .call (arQ (y2.1, y3.1, ())) asB fun y4 =>
 .call (afZ (y4.1, ())) adS fun y5 =>
 .ok (((y5.1.1, y5.1.2.1, ()), y5.2.1, ())))))
def aKa : LTab := []
def aAV (a : List UInt8 × List UInt8 × Unit) (low : List UInt8 × List UInt8 × Unit) (high : List UInt8 × List UInt8 × Unit) : TT uq :=
 .call (aa9 ((a.1, a.2.1, ()), ())) Dd1 fun y =>
 .ite (!y.1)
 (.ok (((#[].toList, #[].toList, ()), 20, ())))
 (.call (aa9 ((low.1, low.2.1, ()), ())) Dd1 fun y1 =>
 .ite (!y1.1)
 (.ok (((#[].toList, #[].toList, ()), 20, ())))
 (.call (aa9 ((high.1, high.2.1, ()), ())) Dd1 fun y2 =>
 .ite (!y2.1)
 (.ok (((#[].toList, #[].toList, ()), 20, ())))
 (.call (adH ((low.1, low.2.1, ()), ())) asB fun y3 =>
 .call (adH ((high.1, high.2.1, ()), ())) asB fun y4 =>
 .call (agE (y3.1, y4.1, ())) Dd6 fun y5 =>
 .ite (decide (y5.1 > 0))
 (.ok (((#[].toList, #[].toList, ()), 2, ())))
 (.call (adH ((a.1, a.2.1, ()), ())) asB fun y6 =>
 .call (adH ((low.1, low.2.1, ()), ())) asB fun y7 =>
 .call (agE (y6.1, y7.1, ())) Dd6 fun y8 =>
 .ite (decide (y8.1 < 0))
 (.ok (((low.1, low.2.1, ()), 0, ())))
 (.call (adH ((a.1, a.2.1, ()), ())) asB fun y9 =>
 .call (adH ((high.1, high.2.1, ()), ())) asB fun y10 =>
 .call (agE (y9.1, y10.1, ())) Dd6 fun y11 =>
 .ite (decide (y11.1 > 0))
 (.ok (((high.1, high.2.1, ()), 0, ())))
 (.ok (((a.1, a.2.1, ()), 0, ()))))))))
end
theorem aqB {p q : Rat × Rat} (h : (ra p.1, ra p.2, ()) = (ra q.1, ra q.2, ())) : p = q := by
 obtain ⟨h1, h2⟩ := Prod.mk.inj h
 obtain ⟨h2, -⟩ := Prod.mk.inj h2
 exact Prod.ext (aIA h1) (aIA h2)
theorem au8 (n d : Int) (hd : d ≠ 0) : ∃ s : Int, s.natAbs = n.natAbs ∧ Rat.divInt n d = mkRat s d.natAbs ∧ s = (if d < 0 then -n else n) := by
 rcases zS d 0 with c | c
 ·refine ⟨-n, by omega, ?_, by rw [if_pos c]⟩
  rw [← Rat.neg_divInt_neg, ← xh]
  congr 1; omega
 ·refine ⟨n, rfl, ?_, by rw [if_neg zc]⟩
  rw [← xh]
  congr 1; omega
theorem aLG {k : Nat} {n d : Int} (hd : d ≠ 0) (h1 : Bd k n.natAbs) (h2 : Bd k d.natAbs) : BdQ k (Rat.divInt n d) := by
 obtain ⟨s, e1, e2, -⟩ := au8 n d hd
 obtain ⟨g, t, hg, g0, e0, f1, f2⟩ := ae6 s (d := d.natAbs) zc
 rw [e2]
 refine ⟨?_, ?_⟩
 ·rw [f1, ← adA e0 g0, e1]; exact aaS _ h1
 ·rw [f2]; exact aaS _ h2
theorem aiO {n d : Int} (h1 : Bd 6 n.natAbs) (h2 : Bd 6 d.natAbs) (h3 : d ≠ 0) : acX (pl n, pl d, ()) = some (ra (Rat.divInt n d), ()) := aaG (enc := fun x : Int × Int => (pl x.1, pl x.2, ())) (n, d) ⟨h1, h2, h3⟩ (fun b hb => ak0 hb)
theorem aHk {s : Int} {d : Nat} (hd : d ≠ 0) (h1 : Bd 6 s.natAbs) (h2 : Bd 6 d) : ∃ g : Nat, g = Nat.gcd s.natAbs d ∧ g ≠ 0 ∧ Bd 6 g ∧ s / (g : Int) = (mkRat s d).num ∧ (d : Int) / (g : Int) = ((mkRat s d).den : Int) := by
 obtain ⟨g, t, hg, g0, e0, f1, f2⟩ := ae6 s hd
 refine ⟨g, hg, g0, by rw [hg]; exact aaY h1 h2, ?_, ?_⟩
 ·rw [f1, e0, Int.mul_ediv_cancel_left _ zc]
 ·rw [f2]; simp
theorem aCm (x x' : PlT) (y) (h : acX (x, x', ()) = some y) : (apC x x').toO = some y := by
 obtain ⟨⟨n, d⟩, hp, hx, rfl⟩ := aaD h
 obtain ⟨rfl, hx2⟩ := Prod.mk.inj hx; obtain ⟨rfl, -⟩ := Prod.mk.inj hx2; dsimp only
 obtain ⟨l1, l2, l3⟩ := hp
 dsimp only at l1 l2 l3
 obtain ⟨s, e1, e2, e3⟩ := au8 n d l3
 obtain ⟨g, hg, g0, bg, q1, q2⟩ := aHk (s := s) (d := d.natAbs) zc (by rw [e1]; exact l1) l2
 rw [e2]
 unfold apC
 dsimp only
 have hgcd : Nat.gcd s.natAbs d.natAbs = g := hg.symm
 have g0' : (g : Int) ≠ 0 := zc
 by_cases c : d < 0
 ·rw [if_pos c] at e3
  subst e3
  refine uT (zo c) ?_
  refine uC _ (ar8 (aaF l1 zc)) (uC _ (ar8 (aaF l2 zc)) ?_)
  have hdv := anI (a := -n) (b := -d) (aaV (aaF l1 zc)) (aaV (aaF l2 zc))
  rw [xH d, hgcd] at hdv
  refine uC _ hdv ?_
  refine uC _ (aoO (b := (g : Int)) (aaV l1) bg g0') ?_
  refine uC _ (aoO (b := (g : Int)) (aaV l2) bg g0') ?_
  rw [q1, show -d = (d.natAbs : Int) by omega, q2]; rfl
 ·rw [if_neg c] at e3
  subst e3
  refine uF (zn c) ?_
  have hdv := anI (a := s) (b := d) (aaF l1 zc) (aaF l2 zc)
  rw [hgcd] at hdv
  refine uC _ hdv ?_
  refine uC _ (aoO (b := (g : Int)) l1 bg g0') ?_
  refine uC _ (aoO (b := (g : Int)) l2 bg g0') ?_
  rw [q1, show d = (d.natAbs : Int) by omega, zQ, q2]; rfl
theorem aE8 {n : Int} (h : abA n) : Bd 0 n.natAbs := aaH (by have := h.1; have := h.2; omega)
theorem aLX {n d : Int} (h1 : abA n) (h2 : abA d) (h3 : d ≠ 0) : aoD (n, d, ()) = some (ra (Rat.divInt n d), ()) := aaG (enc := fun x : Int × Int => (x.1, x.2, ())) (n, d) ⟨h1, h2, h3⟩ (fun b hb => by
 obtain ⟨e1, e2⟩ := Prod.mk.inj hb
 obtain ⟨e2, -⟩ := Prod.mk.inj e2
 exact Prod.ext e1 e2)
theorem aEe (n d : Int) (y) (h : aoD (n, d, ()) = some y) : (aAS n d).toO = some y := by
 obtain ⟨⟨n', d'⟩, hp, hx, rfl⟩ := aaD h
 obtain ⟨rfl, hx2⟩ := Prod.mk.inj hx; obtain ⟨rfl, -⟩ := Prod.mk.inj hx2; dsimp only
 obtain ⟨l1, l2, l3⟩ := hp
 exact uC _ (acA l1) (uC _ (acA l2) (uC _ (aiO (aaF (aE8 l1) zc) (aaF (aE8 l2) zc) l3) rfl))
theorem acO {s : FxT} (h : shF s) : aa9 (s, ()) = some ((rdF s).isSome, ()) := by unfold aa9; rw [if_pos h]
theorem aEd (a : FxT) (y) (h : aa9 (a, ()) = some y) : (asR a).toO = some y := by
 unfold aa9 at h
 split at h
 case isFalse => cases h
 case isTrue hl =>
 injection h with h
 subst h
 obtain ⟨s, t, u⟩ := a
 obtain ⟨l1, l2⟩ := hl
 dsimp only at l1 l2 ⊢
 have hs := aRK s t
 unfold asR
 refine uC _ (aBR l1) ?_
 cases hn : rdW s with
 | none =>
  rw [hn] at hs
  rw [show rdF (s, t, u) = none from hs]
  exact uT rfl rfl
 | some n =>
  refine uF rfl (uC _ (aBR l2) ?_)
  cases hd : rdW t with
  | none =>
   rw [hn, hd] at hs
   rw [show rdF (s, t, u) = none from hs]
   exact uT rfl rfl
  | some d =>
   rw [hn, hd] at hs
   dsimp only at hs
   obtain ⟨f1, rfl⟩ := ae2 hn
   obtain ⟨f2, rfl⟩ := ae2 hd
   have b1 := aiE f1
   have b2 := aiE f2
   refine uF rfl (uC _ (anH f1) (uC _ (anH f2) ?_))
   dsimp only
   by_cases hp : 0 < d
   case neg =>
    rw [dif_neg (fun h => hp h.1)] at hs
    rw [show rdF (dec n, dec d, u) = none from hs]
    by_cases c : d < 0
    ·exact uT (zo c) rfl
    ·have : d = 0 := zc
     subst this
     exact uF rfl (uT (by rw [wA, dig_zero]; rfl) rfl)
   refine uF sd (uF ?_ ?_)
   ·rw [beq_eq_false_iff_ne, aaC]
    intro h
    have := dig_nil_iff.1 (zW.1 (show (dig d.natAbs).length = 0 by omega))
    omega
   have hdv := anI (a := n) (b := d) (aaF b1 zc) (aaF b2 zc)
   refine uC _ hdv (uC _ (aF0 (aaF (aaY b1 b2) zc)) ?_)
   have h1 : aa2 1 = #[49].toList := by rw [abL zc]; rfl
   rw [aaJ, aeQ]
   by_cases hcop : n.natAbs.Coprime d.natAbs
   ·rw [dif_pos ⟨hp, hcop⟩] at hs
    rw [show rdF (dec n, dec d, u) = some _ from hs]
    have : Nat.gcd n.natAbs d.natAbs = 1 := hcop
    rw [this, h1]; rfl
   ·rw [dif_neg (fun h => hcop h.2)] at hs
    rw [show rdF (dec n, dec d, u) = none from hs]
    have : (aa2 (Nat.gcd n.natAbs d.natAbs) == #[49].toList) = false := by
     rw [beq_eq_false_iff_ne]
     exact fun h => hcop (ai3 (h.trans h1.symm))
    rw [this]; rfl
theorem aEk (a : FxT) (y) (h : akG (a, ()) = some y) : (aAW a).toO = some y := by
 unfold akG at h
 split at h
 case isFalse => cases h
 case isTrue hl =>
 unfold akQ at h
 dsimp only at h hl
 refine uC _ (acO hl) ?_
 cases ha : rdF a with
 | none => simp only [ha] at h; exact uT rfl h
 | some q => simp only [ha] at h; exact uF rfl h
theorem aeU {q : Rat} (h : ab6 q) : adH (fx q, ()) = some (ra q, ()) := aaG (enc := fun x : Rat => (fx x, ())) q h (fun b hb => af3 (Prod.mk.inj hb).1)
theorem aM4 (a : FxT) (y) (h : adH (a, ()) = some y) : (aM3 a).toO = some y := by
 obtain ⟨q, hp, hx, rfl⟩ := aaD h
 obtain ⟨rfl, -⟩ := Prod.mk.inj hx
 refine uC _ (anH hp.1) (uC (pl q.den, ()) ?_ rfl)
 have := anH hp.2
 rwa [aeQ] at this
theorem aoM {q : Rat} (h : BdQ 6 q) : afZ (ra q, ()) = some (wrF q) := aaG (enc := fun x : Rat => (ra x, ())) q h (fun b hb => aIA (Prod.mk.inj hb).1)
theorem aJ4 (x : RaT) (y) (h : afZ (x, ()) = some y) : (aIC x).toO = some y := by
 obtain ⟨q, hp, hx, rfl⟩ := aaD h
 obtain ⟨rfl, -⟩ := Prod.mk.inj hx
 refine uC _ (aDy hp.1) (uC _ (aDy (z := (q.den : Int)) hp.2) ?_)
 by_cases c1 : Fit q.num
 ·rw [ajH c1]
  by_cases c2 : Fit q.den
  ·rw [aGc ⟨c1, c2⟩, ajH c2]
   refine uF rfl (uF rfl ?_)
   rw [aaJ, aeQ]
  ·rw [aBX (fun h => c2 h.2), asF c2]
   exact uF rfl (uT rfl rfl)
 ·rw [asF c1, aBX (fun h => c1 h.1)]
  exact uT rfl rfl
theorem aPJ {q : Rat} (h : BdQ 6 q) : arP (ra q, ()) = some (ra (-q), ()) := aaG (enc := fun x : Rat => (ra x, ())) q h (fun b hb => aIA (Prod.mk.inj hb).1)
theorem aGH (x : RaT) (y) (h : arP (x, ()) = some y) : (aEb x).toO = some y := by
 obtain ⟨q, hp, hx, rfl⟩ := aaD h
 obtain ⟨rfl, -⟩ := Prod.mk.inj hx
 exact uC _ (ar8 (aaF hp.1 zc)) rfl
theorem aFZ {p q : Rat} (h1 : BdQ 3 p) (h2 : BdQ 3 q) : am6 (ra p, ra q, ()) = some (ra (p + q), ()) := aaG (enc := fun x : Rat × Rat => (ra x.1, ra x.2, ())) (p, q) ⟨h1, h2⟩ (fun b hb => aqB hb)
theorem aGI (x x' : RaT) (y) (h : am6 (x, x', ()) = some y) : (aEf x x').toO = some y := by
 obtain ⟨⟨p, q⟩, hp, hx, rfl⟩ := aaD h
 obtain ⟨rfl, hx2⟩ := Prod.mk.inj hx; obtain ⟨rfl, -⟩ := Prod.mk.inj hx2; dsimp only
 obtain ⟨⟨p1, p2⟩, q1, q2⟩ := hp
 dsimp only at p1 p2 q1 q2
 have t1 := aaB p1 (aaN q2)
 have t2 := aaB q1 (aaN p2)
 have t3 := aaB (aaN p2) (aaN q2)
 refine uC _ (acP (aaF p1 zc) (aaN (aaF q2 zc))) ?_
 refine uC _ (acP (aaF q1 zc) (aaN (aaF p2 zc))) ?_
 refine uC _ (anG (aaF t1 zc) (aaF t2 zc)) ?_
 refine uC _ (acP (a := (p.den : Int)) (b := (q.den : Int)) (aaN (aaF p2 zc)) (aaN (aaF q2 zc))) ?_
 have hd : (p.den : Int) * (q.den : Int) ≠ 0 := by
  have := xl p.den_nz q.den_nz
  rw [← yd]; omega
 refine uC _ (aiO (aaF (aaE t1 t2) zc) (aaF t3 zc) hd) ?_
 have : Rat.divInt (p.num * q.den + q.num * p.den) ((p.den : Int) * q.den) = p + q := by
  rw [← yd, xh, Rat.add_def']
 rw [this]; rfl
theorem aLY {p q : Rat} (h1 : BdQ 3 p) (h2 : BdQ 3 q) : aoE (ra p, ra q, ()) = some (ra (p - q), ()) := aaG (enc := fun x : Rat × Rat => (ra x.1, ra x.2, ())) (p, q) ⟨h1, h2⟩ (fun b hb => aqB hb)
theorem aEi (x x' : RaT) (y) (h : aoE (x, x', ()) = some y) : (aAU x x').toO = some y := by
 obtain ⟨⟨p, q⟩, hp, hx, rfl⟩ := aaD h
 obtain ⟨rfl, hx2⟩ := Prod.mk.inj hx; obtain ⟨rfl, -⟩ := Prod.mk.inj hx2; dsimp only
 obtain ⟨h1, h2⟩ := hp
 refine uC _ (aPJ (acE h2 zc)) (uC _ (aFZ h1 (aPk h2)) ?_)
 rw [vj]; rfl
theorem aLW {p q : Rat} (h1 : BdQ 3 p) (h2 : BdQ 3 q) : aoB (ra p, ra q, ()) = some (ra (p * q), ()) := aaG (enc := fun x : Rat × Rat => (ra x.1, ra x.2, ())) (p, q) ⟨h1, h2⟩ (fun b hb => aqB hb)
theorem aEc (x x' : RaT) (y) (h : aoB (x, x', ()) = some y) : (aAR x x').toO = some y := by
 obtain ⟨⟨p, q⟩, hp, hx, rfl⟩ := aaD h
 obtain ⟨rfl, hx2⟩ := Prod.mk.inj hx; obtain ⟨rfl, -⟩ := Prod.mk.inj hx2; dsimp only
 obtain ⟨⟨p1, p2⟩, q1, q2⟩ := hp
 dsimp only at p1 p2 q1 q2
 refine uC _ (acP (aaF p1 zc) (aaF q1 zc)) ?_
 refine uC _ (acP (a := (p.den : Int)) (b := (q.den : Int)) (aaN (aaF p2 zc)) (aaN (aaF q2 zc))) ?_
 have hd : (p.den : Int) * (q.den : Int) ≠ 0 := by
  have := xl p.den_nz q.den_nz
  rw [← yd]; omega
 refine uC _ (aiO (aaF (aaB p1 q1) zc) (aaF (aaB (aaN p2) (aaN q2)) zc) hd) ?_
 have : Rat.divInt (p.num * q.num) ((p.den : Int) * q.den) = p * q := by
  rw [← yd, xh, Rat.mul_def']
 rw [this]; rfl
theorem aPK {p q : Rat} (h1 : BdQ 3 p) (h2 : BdQ 3 q) (h3 : q ≠ 0) : arQ (ra p, ra q, ()) = some (ra (p / q), ()) := aaG (enc := fun x : Rat × Rat => (ra x.1, ra x.2, ())) (p, q) ⟨h1, h2, h3⟩ (fun b hb => aqB hb)
theorem aGJ (x x' : RaT) (y) (h : arQ (x, x', ()) = some y) : (aEg x x').toO = some y := by
 obtain ⟨⟨p, q⟩, hp, hx, rfl⟩ := aaD h
 obtain ⟨rfl, hx2⟩ := Prod.mk.inj hx; obtain ⟨rfl, -⟩ := Prod.mk.inj hx2; dsimp only
 obtain ⟨⟨p1, p2⟩, ⟨q1, q2⟩, q0⟩ := hp
 dsimp only at p1 p2 q1 q2 q0
 refine uC _ (acP (aaF p1 zc) (aaN (aaF q2 zc))) ?_
 refine uC _ (acP (a := (p.den : Int)) (b := q.num) (aaN (aaF p2 zc)) (aaF q1 zc)) ?_
 have hn := aI1 q0
 have hd : (p.den : Int) * q.num ≠ 0 := Int.mul_ne_zero (by have := p.den_nz; omega) hn
 refine uC _ (aiO (aaF (aaB p1 (aaN q2)) zc) (aaF (aaB (aaN p2) q1) zc) hd) ?_
 have : Rat.divInt (p.num * q.den) ((p.den : Int) * q.num) = p / q := by
  rw [Rat.div_def, ← Rat.divInt_mul_divInt, Rat.num_divInt_den, ← Rat.inv_divInt, Rat.num_divInt_den]
 rw [this]; rfl
theorem aoN {p q : Rat} (h1 : BdQ 3 p) (h2 : BdQ 3 q) : agE (ra p, ra q, ()) = some (avL p q, ()) := aaG (enc := fun x : Rat × Rat => (ra x.1, ra x.2, ())) (p, q) ⟨h1, h2⟩ (fun b hb => aqB hb)
theorem aEh (x x' : RaT) (y) (h : agE (x, x', ()) = some y) : (aAT x x').toO = some y := by
 obtain ⟨⟨p, q⟩, hp, hx, rfl⟩ := aaD h
 obtain ⟨rfl, hx2⟩ := Prod.mk.inj hx; obtain ⟨rfl, -⟩ := Prod.mk.inj hx2; dsimp only
 obtain ⟨⟨p1, p2⟩, q1, q2⟩ := hp
 dsimp only at p1 p2 q1 q2
 refine uC _ (acP (aaF p1 zc) (aaN (aaF q2 zc))) ?_
 refine uC _ (acP (aaF q1 zc) (aaN (aaF p2 zc))) ?_
 refine uC _ (aL1 (aaF (aaB p1 (aaN q2)) zc) (aaF (aaB q1 (aaN p2)) zc)) ?_
 rw [aNm, Int.sub_eq_add_neg]; rfl
theorem aM2 (n d : Int) (y) (h : ap0 (n, d, ()) = some y) : (aGK n d).toO = some y := by
 unfold ap0 alZ at h
 split at h
 case isFalse => cases h
 case isTrue hp =>
 obtain ⟨i1, i2⟩ := hp
 dsimp only at i1 i2 h
 unfold ofQ at h
 unfold aGK
 by_cases c : d = 0
 ·rw [if_pos c] at h
  exact uT (by rw [c]; rfl) h
 ·rw [if_neg c] at h
  refine uF (by simpa using c) (uC _ (aLX i1 i2 c) (uC _ (aoM (aLG c (aaF (aE8 i1) zc) (aaF (aE8 i2) zc))) h))
theorem aKc (a b : FxT) (y) (h : ai9 (a, b, ()) = some y) : (aIG a b).toO = some y := by
 unfold ai9 at h
 split at h
 case isFalse => cases h
 case isTrue hp =>
 obtain ⟨s1, s2⟩ := hp
 unfold aeD aMa at h
 dsimp only at h s1 s2
 refine uC _ (acO s1) ?_
 cases ha : rdF a with
 | none => simp only [ha] at h; exact uT rfl h
 | some p =>
  refine uF rfl (uC _ (acO s2) ?_)
  cases hb : rdF b with
  | none => simp only [ha, hb] at h; exact uT rfl h
  | some q =>
   simp only [ha, hb] at h
   refine uF rfl ?_
   have b1 := ad3 ha
   have b2 := ad3 hb
   obtain ⟨f1, rfl⟩ := ac0 ha
   obtain ⟨f2, rfl⟩ := ac0 hb
   refine uC _ (aeU f1) (uC _ (aeU f2) ?_)
   exact uC _ (aFZ (acE b1 zc) (acE b2 zc)) (uC _ (aoM (acE (aH7 b1 b2) zc)) h)
theorem aJ1 (a b : FxT) (y) (h : aoC (a, b, ()) = some y) : (aIB a b).toO = some y := by
 unfold aoC at h
 split at h
 case isFalse => cases h
 case isTrue hp =>
 obtain ⟨s1, s2⟩ := hp
 unfold afA aMa at h
 dsimp only at h s1 s2
 refine uC _ (acO s1) ?_
 cases ha : rdF a with
 | none => simp only [ha] at h; exact uT rfl h
 | some p =>
  refine uF rfl (uC _ (acO s2) ?_)
  cases hb : rdF b with
  | none => simp only [ha, hb] at h; exact uT rfl h
  | some q =>
   simp only [ha, hb] at h
   refine uF rfl ?_
   have b1 := ad3 ha
   have b2 := ad3 hb
   obtain ⟨f1, rfl⟩ := ac0 ha
   obtain ⟨f2, rfl⟩ := ac0 hb
   refine uC _ (aeU f1) (uC _ (aeU f2) ?_)
   exact uC _ (aLY (acE b1 zc) (acE b2 zc)) (uC _ (aoM (acE (aPj b1 b2) zc)) h)
theorem aJ6 (a b : FxT) (y) (h : ahJ (a, b, ()) = some y) : (aID a b).toO = some y := by
 unfold ahJ at h
 split at h
 case isFalse => cases h
 case isTrue hp =>
 obtain ⟨s1, s2⟩ := hp
 unfold adU aMa at h
 dsimp only at h s1 s2
 refine uC _ (acO s1) ?_
 cases ha : rdF a with
 | none => simp only [ha] at h; exact uT rfl h
 | some p =>
  refine uF rfl (uC _ (acO s2) ?_)
  cases hb : rdF b with
  | none => simp only [ha, hb] at h; exact uT rfl h
  | some q =>
   simp only [ha, hb] at h
   refine uF rfl ?_
   have b1 := ad3 ha
   have b2 := ad3 hb
   obtain ⟨f1, rfl⟩ := ac0 ha
   obtain ⟨f2, rfl⟩ := ac0 hb
   refine uC _ (aeU f1) (uC _ (aeU f2) ?_)
   exact uC _ (aLW (acE b1 zc) (acE b2 zc)) (uC _ (aoM (acE (aDq b1 b2) zc)) h)
theorem aJ9 (a b : FxT) (y) (h : arS (a, b, ()) = some y) : (aIF a b).toO = some y := by
 unfold arS at h
 split at h
 case isFalse => cases h
 case isTrue hp =>
 obtain ⟨s1, s2⟩ := hp
 unfold af1 at h
 dsimp only at h s1 s2
 refine uC _ (acO s1) ?_
 cases ha : rdF a with
 | none => simp only [ha] at h; exact uT rfl h
 | some p =>
  refine uF rfl (uC _ (acO s2) ?_)
  cases hb : rdF b with
  | none => simp only [ha, hb] at h; exact uT rfl h
  | some q =>
   simp only [ha, hb] at h
   refine uF rfl ?_
   have b1 := ad3 ha
   have b2 := ad3 hb
   obtain ⟨f1, rfl⟩ := ac0 ha
   obtain ⟨f2, rfl⟩ := ac0 hb
   exact uC _ (aeU f1) (uC _ (aeU f2) (uC _ (aoN (acE b1 zc) (acE b2 zc)) h))
theorem aJ8 (a b : FxT) (y) (h : alT (a, b, ()) = some y) : (aIE a b).toO = some y := by
 unfold alT at h
 split at h
 case isFalse => cases h
 case isTrue hp =>
 obtain ⟨s1, s2⟩ := hp
 unfold aeT at h
 dsimp only at h s1 s2
 refine uC _ (acO s1) ?_
 cases ha : rdF a with
 | none => simp only [ha] at h; exact uT rfl h
 | some p =>
  refine uF rfl (uC _ (acO s2) ?_)
  cases hb : rdF b with
  | none => simp only [ha, hb] at h; exact uT rfl h
  | some q =>
   simp only [ha, hb] at h
   refine uF rfl ?_
   have b1 := ad3 ha
   have b2 := ad3 hb
   obtain ⟨f1, rfl⟩ := ac0 ha
   obtain ⟨f2, rfl⟩ := ac0 hb
   have h0 : aa2 0 = #[48].toList := by rw [abL zc]; rfl
   by_cases c : q = 0
   ·rw [if_pos c] at h
    refine uT ?_ h
    rw [c]
    show (dec 0 == #[48].toList) = true
    rw [abZ zc, wA, h0]; rfl
   ·rw [if_neg c] at h
    refine uF ?_ ?_
    ·rw [beq_eq_false_iff_ne]
     intro h2
     have h3 : dec q.num = #[48].toList := h2
     have : dec q.num = dec 0 := by rw [h3, abZ (z := 0) zc, wA, h0]
     exact aI1 c (ajP this)
    refine uC _ (aeU f1) (uC _ (aeU f2) ?_)
    refine uC _ (aPK (acE b1 zc) (acE b2 zc) c) (uC _ (aoM ?_) h)
    rw [Rat.div_def]
    exact acE (aDq b1 (aH6 b2 c)) zc
theorem aOw {q : Rat} (h : ab6 q) : shF (fx q) := by
 have h1 : (aa2 q.num.natAbs).length ≤ 600 := h.1
 have h2 : (aa2 q.den).length ≤ 600 := h.2
 have h3 := alD q.num
 exact ⟨by show (dec q.num).length ≤ _; omega, by show (aa2 q.den).length ≤ _; omega⟩
theorem at4 {q : Rat} (h : ab6 q) : BdQ 3 q := ⟨aaF (aiE h.1) zc, aaF (aiE h.2) zc⟩
theorem aLZ {a l u : Rat} (h1 : ab6 a) (h2 : ab6 l) (h3 : ab6 u) (h4 : l ≤ u) : aoF (fx a, fx l, fx u, ()) = some (fx (if a < l then l else if a > u then u else a), 0, ()) := aaG (enc := fun x : Rat × Rat × Rat => (fx x.1, fx x.2.1, fx x.2.2, ())) (a, l, u) ⟨h1, h2, h3, h4⟩ (fun b hb => by
 obtain ⟨e1, e2⟩ := Prod.mk.inj hb
 obtain ⟨e2, e3⟩ := Prod.mk.inj e2
 obtain ⟨e3, -⟩ := Prod.mk.inj e3
 exact Prod.ext (af3 e1) (Prod.ext (af3 e2) (af3 e3)))
theorem aEj (a l u : FxT) (y) (h : aoF (a, l, u, ()) = some y) : (aAV a l u).toO = some y := by
 obtain ⟨⟨p, q, r⟩, hp, hx, rfl⟩ := aaD h
 obtain ⟨rfl, hx2⟩ := Prod.mk.inj hx
 obtain ⟨rfl, hx3⟩ := Prod.mk.inj hx2
 obtain ⟨rfl, -⟩ := Prod.mk.inj hx3
 obtain ⟨h1, h2, h3, h4⟩ := hp
 dsimp only at h1 h2 h3 h4 ⊢
 have r1 : ∀ {x : Rat}, ab6 x → aa9 (fx x, ()) = some (true, ()) := fun {x} hf => by rw [acO (aOw hf), afD hf]; rfl
 refine uC _ (r1 h1) (uF rfl (uC _ (r1 h2) (uF rfl (uC _ (r1 h3) (uF rfl ?_)))))
 refine uC _ (aeU h2) (uC _ (aeU h3) (uC _ (aoN (at4 h2) (at4 h3)) (uF (zn (fun h => by have := (anR _ _).1 h; exact absurd h4 (Rat.not_le.2 this))) ?_)))
 refine uC _ (aeU h1) (uC _ (aeU h2) (uC _ (aoN (at4 h1) (at4 h2)) ?_))
 by_cases c : p < q
 ·rw [if_pos c]
  exact uT (zo ((anS _ _).2 c)) rfl
 ·rw [if_neg c]
  refine uF (zn (fun h => c ((anS _ _).1 h))) ?_
  refine uC _ (aeU h1) (uC _ (aeU h3) (uC _ (aoN (at4 h1) (at4 h3)) ?_))
  by_cases c2 : p > r
  ·rw [if_pos c2]
   exact uT (zo ((anR _ _).2 c2)) rfl
  ·rw [if_neg c2]
   exact uF (zn (fun h => c2 ((anR _ _).1 h))) rfl
set_option maxRecDepth 100000
open Go Go.Vg Go.Proofs
noncomputable section
def aHy : LTab := [(177, 8186, 49153, ⟨0, (Int) × (List Int) × (List Int) × Unit, .dat (.s 12) ud <| .row 41 uj <| .row 26 uj <| .nil, [4, 11, 10, 9, 8, 5], [41, 26], 0⟩), (209, 63, 95232, ⟨1, (Int) × Unit, .dat (.s 8) uD <| .nil, [5, 4, 0, 1], [41, 26], 0⟩), (209, 252, 95232, ⟨2, (Int) × (Int) × Unit, .dat (.s 9) uD <| .dat (.s 8) uD <| .nil, [6, 5, 4, 0, 1], [41, 26], 0⟩), (209, 2042, 100352, ⟨3, (Int) × (Int) × (Int) × (List Int) × Unit, .dat (.s 77) ud <| .dat (.s 11) ud <| .dat (.s 10) uD <| .row 26 uj <| .nil, [76, 75, 8, 5, 4, 0, 1], [41, 26], 0⟩), (209, 65454, 118784, ⟨4, (Int) × (Int) × (List Int) × Unit, .dat (.s 125) ud <| .dat (.s 15) uj <| .row 26 uj <| .nil, [124, 123, 8, 5, 4, 0], [41, 26], 0⟩)]
def ah8 (i1 : (Int) × (Int) × Unit) (y3 : List Int × Unit) (i : Int × List Int × List Int × Unit) : TT (uz ⊕ (uG ⊕ un)) :=
 .ite (decide (abU (i1.1 + abU (gi y3.1 (w64 (len y3.1 - 1)) 0)) ≥ 1000000000))
 (.tt <| .lt (abU (i1.2.1 - 1) : Int) fun z5 => .vL (vW z5 (len y3.1) (0 : Int) <| (vQ 26 (0 + Int.toNat i.1) (Int.toNat (w64 (w64 (i.1 + len y3.1) + 1)) - Int.toNat i.1) true) ∧ vU y3.1) <| .vL (vK (vP 189 i.2.1) <| vK (vP 189 i.2.2.1) True) <| .ok (.inr (.inl ((z5, ())))))
 (.tt <| .lt (abU (i1.1 + abU (gi y3.1 (w64 (len y3.1 - 1)) 0)) : Int) fun z6 => .lt (abU (i1.2.1 - 1) : Int) fun z7 => .vL (vR z7 z6 (abU (gi y3.1 (w64 (len y3.1 - 1)) 0) : Int) (len y3.1) (0 : Int) <| (vQ 26 (0 + Int.toNat i.1) (Int.toNat (w64 (w64 (i.1 + len y3.1) + 1)) - Int.toNat i.1) true) ∧ vU y3.1) <| .vL (vK (vP 189 i.2.1) <| vK (vP 189 i.2.2.1) True) <| .ok (.inl ((z6, z7, ()))))
def ag6 (m : List Int) (o : List Int) (y : Int × Unit) (y3 : List Int × Unit) (y4 : List Int × Unit) (i : Int × List Int × List Int × Unit) (i1 : (Int) × (Int) × Unit) : TT (uz ⊕ (uG ⊕ un)) :=
 .ite (decide (i1.2.1 ≥ 1000000000))
 (ah8 i1 y3 i)
 (.need (inb (w64 (len y3.1 - 2)) (len y3.1)) <| .need (inb (w64 (len y3.1 - 2)) (↑(Int.toNat (w64 (w64 (i.1 + len y3.1) + 1)) - Int.toNat i.1) : Int)) <| .ite (decide (abU (i1.2.1 * abU (gi y3.1 (w64 (len y3.1 - 2)) 0)) > abU (abU (i1.1 * 1000000000) + abU (List.getD i.2.2.1 (0 + Int.toNat i.1 + Int.toNat (w64 (len y3.1 - 2))) 0))))
  (ah8 i1 y3 i)
  (.tt <| .lt (i1.2.1 : Int) fun z11 => .vL (vW z11 (len y3.1) (0 : Int) <| (vQ 26 (0 + Int.toNat i.1) (Int.toNat (w64 (w64 (i.1 + len y3.1) + 1)) - Int.toNat i.1) true) ∧ vU y3.1) <| .vL (vK (vP 189 i.2.1) <| vK (vP 189 i.2.2.1) True) <| .ok (.inr (.inl ((z11, ()))))))
def aiY (m : List Int) (o : List Int) (y : Int × Unit) (y3 : List Int × Unit) (y4 : List Int × Unit) (i : Int × List Int × List Int × Unit) (j : Int × Unit) (i2 : Int × Int × Int × List Int × Unit) (i3 : (Int) × (Int) × (List Int) × Unit) : TT (uH ⊕ tU) :=
 .ite (decide (i3.1 < len y3.1))
 (.need (inb i3.1 (len y3.1)) <| .need (inb i3.1 (↑(Int.toNat (w64 (w64 (i.1 + len y3.1) + 1)) - Int.toNat i.1) : Int)) <| .ite (decide (aeH (aeH (List.getD i3.2.2.1 (0 + Int.toNat i.1 + Int.toNat i3.1) 0 + gi y3.1 i3.1 0) + i3.2.1) ≥ 1000000000))
 (.need (inb i3.1 (↑(Int.toNat (w64 (w64 (i.1 + len y3.1) + 1)) - Int.toNat i.1) : Int)) <| .tt <| .lt (w64 (i3.1 + 1) : Int) fun z20 => .lt (List.set i3.2.2.1 (0 + Int.toNat i.1 + Int.toNat i3.1) (aeH (aeH (aeH (List.getD i3.2.2.1 (0 + Int.toNat i.1 + Int.toNat i3.1) 0 + gi y3.1 i3.1 0) + i3.2.1) - 1000000000)) : List Int) fun z21 => .vL (vY (1 : Int) z20 (len y3.1) y3.1 (abU (j.1 - 1)) (len y3.1) (0 : Int) <| (vQ 26 (0 + Int.toNat i.1) (Int.toNat (w64 (w64 (i.1 + len y3.1) + 1)) - Int.toNat i.1) true) ∧ True) <| .vL (vK (vP 189 i.2.1) <| vK (vP 189 z21) True) <| .ok (.inl ((z20, 1, z21, ()))))
 (.need (inb i3.1 (↑(Int.toNat (w64 (w64 (i.1 + len y3.1) + 1)) - Int.toNat i.1) : Int)) <| .tt <| .lt (w64 (i3.1 + 1) : Int) fun z22 => .lt (List.set i3.2.2.1 (0 + Int.toNat i.1 + Int.toNat i3.1) (aeH (aeH (List.getD i3.2.2.1 (0 + Int.toNat i.1 + Int.toNat i3.1) 0 + gi y3.1 i3.1 0) + i3.2.1)) : List Int) fun z23 => .vL (vY (0 : Int) z22 (len y3.1) y3.1 (abU (j.1 - 1)) (len y3.1) (0 : Int) <| (vQ 26 (0 + Int.toNat i.1) (Int.toNat (w64 (w64 (i.1 + len y3.1) + 1)) - Int.toNat i.1) true) ∧ True) <| .vL (vK (vP 189 i.2.1) <| vK (vP 189 z23) True) <| .ok (.inl ((z22, 0, z23, ())))))
 (.need (inb (len y3.1) (↑(Int.toNat (w64 (w64 (i.1 + len y3.1) + 1)) - Int.toNat i.1) : Int)) <| .need (inb i.1 (↑(Int.toNat (w64 (w64 (len m - len y3.1) + 1))) : Int)) <| .tt <| .lt (w64 (i.1 - 1) : Int) fun z24 => .lt (List.set i.2.1 (0 + Int.toNat i.1) (aeH (abU (j.1 - 1))) : List Int) fun z25 => .lt (List.set i3.2.2.1 (0 + Int.toNat i.1 + Int.toNat (len y3.1)) 0 : List Int) fun z26 => .vL (vM z24 <| (vQ 41 0 (Int.toNat (w64 (w64 (len m - len y3.1) + 1))) true) ∧ (vM (len y3.1) <| (vQ 26 0 (Int.toNat (w64 (len m + 1))) true) ∧ (vS y3.1 (aeH (Int.tdiv 1000000000 (aeH (gi o (w64 (len o - 1)) 0 + 1))) : Int) <| True ∧ True))) <| .vL (vK (vP 189 z25) <| vK (vP 189 z26) True) <| .ok (.inr (.inr (.inl ((z24, z25, z26, ()))))))
def ag5 (m : List Int) (o : List Int) (y : Int × Unit) (y3 : List Int × Unit) (y4 : List Int × Unit) (i : Int × List Int × List Int × Unit) (j : Int × Unit) (i2 : (Int) × (Int) × (Int) × (List Int) × Unit) : TT tU :=
 .ite (decide (i2.1 < len y3.1))
 (.need (inb i2.1 (len y3.1)) <| .need (inb i2.1 (↑(Int.toNat (w64 (w64 (i.1 + len y3.1) + 1)) - Int.toNat i.1) : Int)) <| .triv (asT Int 1000000000 ≠ 0) zf <| .triv (asT Int 1000000000 ≠ 0) zf <| .ite (decide (w64 (w64 (w64 (List.getD i2.2.2.2.1 (0 + Int.toNat i.1 + Int.toNat i2.1) 0) - i2.2.1) - w64 (Int.tmod (abU (i2.2.2.1 + abU (j.1 * abU (gi y3.1 i2.1 0)))) 1000000000)) < 0))
 (.need (inb i2.1 (↑(Int.toNat (w64 (w64 (i.1 + len y3.1) + 1)) - Int.toNat i.1) : Int)) <| .tt <| .lt (w64 (i2.1 + 1) : Int) fun z13 => .lt (abU (Int.tdiv (abU (i2.2.2.1 + abU (j.1 * abU (gi y3.1 i2.1 0)))) 1000000000) : Int) fun z14 => .lt (List.set i2.2.2.2.1 (0 + Int.toNat i.1 + Int.toNat i2.1) (aeH (w64 (w64 (w64 (w64 (List.getD i2.2.2.2.1 (0 + Int.toNat i.1 + Int.toNat i2.1) 0) - i2.2.1) - w64 (Int.tmod (abU (i2.2.2.1 + abU (j.1 * abU (gi y3.1 i2.1 0)))) 1000000000)) + 1000000000))) : List Int) fun z15 => .vL (vV z14 (1 : Int) z13 (len y3.1) y3.1 j.1 (len y3.1) (0 : Int) <| (vQ 26 (0 + Int.toNat i.1) (Int.toNat (w64 (w64 (i.1 + len y3.1) + 1)) - Int.toNat i.1) true) ∧ vU y3.1) <| .vL (vK (vP 189 i.2.1) <| vK (vP 189 z15) True) <| .ok (.inl ((z13, 1, z14, z15, ()))))
 (.need (inb i2.1 (↑(Int.toNat (w64 (w64 (i.1 + len y3.1) + 1)) - Int.toNat i.1) : Int)) <| .tt <| .lt (w64 (i2.1 + 1) : Int) fun z16 => .lt (abU (Int.tdiv (abU (i2.2.2.1 + abU (j.1 * abU (gi y3.1 i2.1 0)))) 1000000000) : Int) fun z17 => .lt (List.set i2.2.2.2.1 (0 + Int.toNat i.1 + Int.toNat i2.1) (aeH (w64 (w64 (w64 (List.getD i2.2.2.2.1 (0 + Int.toNat i.1 + Int.toNat i2.1) 0) - i2.2.1) - w64 (Int.tmod (abU (i2.2.2.1 + abU (j.1 * abU (gi y3.1 i2.1 0)))) 1000000000)))) : List Int) fun z18 => .vL (vV z17 (0 : Int) z16 (len y3.1) y3.1 j.1 (len y3.1) (0 : Int) <| (vQ 26 (0 + Int.toNat i.1) (Int.toNat (w64 (w64 (i.1 + len y3.1) + 1)) - Int.toNat i.1) true) ∧ vU y3.1) <| .vL (vK (vP 189 i.2.1) <| vK (vP 189 z18) True) <| .ok (.inl ((z16, 0, z17, z18, ())))))
 (.need (inb (len y3.1) (↑(Int.toNat (w64 (w64 (i.1 + len y3.1) + 1)) - Int.toNat i.1) : Int)) <| .ite (decide (w64 (w64 (List.getD i2.2.2.2.1 (0 + Int.toNat i.1 + Int.toNat (len y3.1)) 0) - i2.2.1) < w64 i2.2.2.1))
 (.loop 4 (.tt <| .lt (i2.2.2.2.1 : List Int) fun z19 => .vL (vY (0 : Int) (0 : Int) (len y3.1) y3.1 (abU (j.1 - 1)) (len y3.1) (0 : Int) <| (vQ 26 (0 + Int.toNat i.1) (Int.toNat (w64 (w64 (i.1 + len y3.1) + 1)) - Int.toNat i.1) true) ∧ True) <| .vL (vK (vP 189 i.2.1) <| vK (vP 189 z19) True) <| .ok ((0, 0, z19, ()))) (aiY m o y y3 y4 i j i2))
 (.need (inb (len y3.1) (↑(Int.toNat (w64 (w64 (i.1 + len y3.1) + 1)) - Int.toNat i.1) : Int)) <| .need (inb i.1 (↑(Int.toNat (w64 (w64 (len m - len y3.1) + 1))) : Int)) <| .tt <| .lt (w64 (i.1 - 1) : Int) fun z27 => .lt (List.set i.2.1 (0 + Int.toNat i.1) (aeH j.1) : List Int) fun z28 => .lt (List.set i2.2.2.2.1 (0 + Int.toNat i.1 + Int.toNat (len y3.1)) 0 : List Int) fun z29 => .vL (vM z27 <| (vQ 41 0 (Int.toNat (w64 (w64 (len m - len y3.1) + 1))) true) ∧ (vM (len y3.1) <| (vQ 26 0 (Int.toNat (w64 (len m + 1))) true) ∧ (vS y3.1 (aeH (Int.tdiv 1000000000 (aeH (gi o (w64 (len o - 1)) 0 + 1))) : Int) <| True ∧ True))) <| .vL (vK (vP 189 z28) <| vK (vP 189 z29) True) <| .ok (.inr (.inl ((z27, z28, z29, ()))))))
def au4 (m : List Int) (o : List Int) (y : Int × Unit) (y3 : List Int × Unit) (y4 : List Int × Unit) (i : Int × List Int × List Int × Unit) (j : (Int) × Unit) : TT un :=
 .loop 3 (.tt <| .lt (i.2.2.1 : List Int) fun z12 => .vL (vV (0 : Int) (0 : Int) (0 : Int) (len y3.1) y3.1 j.1 (len y3.1) (0 : Int) <| (vQ 26 (0 + Int.toNat i.1) (Int.toNat (w64 (w64 (i.1 + len y3.1) + 1)) - Int.toNat i.1) true) ∧ vU y3.1) <| .vL (vK (vP 189 i.2.1) <| vK (vP 189 z12) True) <| .ok ((0, 0, 0, z12, ()))) (ag5 m o y y3 y4 i j)
def aiZ (m : List Int) (o : List Int) (y : Int × Unit) (y3 : List Int × Unit) (y4 : List Int × Unit) (i : (Int) × (List Int) × (List Int) × Unit) : TT un :=
 .ite (decide (i.1 ≥ 0))
 (.need (inc (w64 (w64 (i.1 + len y3.1) + 1)) (↑(Int.toNat (w64 (len m + 1))) : Int)) <| .need (inc i.1 (↑(Int.toNat (w64 (w64 (i.1 + len y3.1) + 1))) : Int)) <| .tt <| .tt <| .need (inb (w64 (len y3.1 - 1)) (len y3.1)) <| .need (inb (len y3.1) (↑(Int.toNat (w64 (w64 (i.1 + len y3.1) + 1)) - Int.toNat i.1) : Int)) <| .need (inb (w64 (len y3.1 - 1)) (↑(Int.toNat (w64 (w64 (i.1 + len y3.1) + 1)) - Int.toNat i.1) : Int)) <| .need (abU (gi y3.1 (w64 (len y3.1 - 1)) 0) ≠ 0) <| .need (abU (gi y3.1 (w64 (len y3.1 - 1)) 0) ≠ 0) <| .join 1 (ι := (Int) × Unit) (.loop 2 (.tt <| .lt (Int.tmod (abU (abU (abU (List.getD i.2.2.1 (0 + Int.toNat i.1 + Int.toNat (len y3.1)) 0) * 1000000000) + abU (List.getD i.2.2.1 (0 + Int.toNat i.1 + Int.toNat (w64 (len y3.1 - 1))) 0))) (abU (gi y3.1 (w64 (len y3.1 - 1)) 0)) : Int) fun z3 => .lt (abU (Int.tdiv (abU (abU (abU (List.getD i.2.2.1 (0 + Int.toNat i.1 + Int.toNat (len y3.1)) 0) * 1000000000) + abU (List.getD i.2.2.1 (0 + Int.toNat i.1 + Int.toNat (w64 (len y3.1 - 1))) 0))) (abU (gi y3.1 (w64 (len y3.1 - 1)) 0))) : Int) fun z4 => .vL (vR z4 z3 (abU (gi y3.1 (w64 (len y3.1 - 1)) 0) : Int) (len y3.1) (0 : Int) <| (vQ 26 (0 + Int.toNat i.1) (Int.toNat (w64 (w64 (i.1 + len y3.1) + 1)) - Int.toNat i.1) true) ∧ vU y3.1) <| .vL (vK (vP 189 i.2.1) <| vK (vP 189 i.2.2.1) True) <| .ok ((z3, z4, ()))) (ag6 m o y y3 y4 i)) (au4 m o y y3 y4 i))
 (.need (inc (len y3.1) (↑(Int.toNat (w64 (len m + 1))) : Int)) <| .call (acU (List.take (Int.toNat (len y3.1)) i.2.2.1, ())) Dd0 fun y5 =>
 .call (akK (y5.1, aeH (Int.tdiv 1000000000 (aeH (gi o (w64 (len o - 1)) 0 + 1))), ())) aT7 fun y6 =>
 .call (acU (List.take (Int.toNat (w64 (w64 (len m - len y3.1) + 1))) i.2.1, ())) Dd0 fun y7 =>
 .ok (.inr ((y7.1, y6.1, ()))))
def ak8 (m : List Int) (o : List Int) : TT (List Int × List Int × Unit) :=
 .call (aeB (m, o, ())) Dd6 fun y =>
 .ite (decide (y.1 < 0))
 (.ok (([], m, ())))
 (.ite (len o == 1)
 (.need (asT Int 0 ≤ 0 ∧ 0 < len o) <| .call (akK (m, gi o 0 0, ())) aT7 fun y1 =>
 .call (abT (abU y1.2.1, ())) Dd0 fun y2 =>
 .ok ((y1.1, y2.1, ())))
 (.need (inb (w64 (len o - 1)) (len o)) <| .need (aeH (gi o (w64 (len o - 1)) 0 + 1) ≠ 0) <| .call (acM (o, [aeH (Int.tdiv 1000000000 (aeH (gi o (w64 (len o - 1)) 0 + 1)))], ())) Dd0 fun y3 =>
 .need (0 ≤ w64 (len m + 1) ∧ w64 (len m + 1) ≤ w64 (len m + 1) ∧ w64 (len m + 1) * (↑4 : Int) ≤ 140737488355328) <| .call (acM (m, [aeH (Int.tdiv 1000000000 (aeH (gi o (w64 (len o - 1)) 0 + 1)))], ())) Dd0 fun y4 =>
 .need (0 ≤ w64 (w64 (len m - len y3.1) + 1) ∧ w64 (w64 (len m - len y3.1) + 1) ≤ w64 (w64 (len m - len y3.1) + 1) ∧ w64 (w64 (len m - len y3.1) + 1) * (↑4 : Int) ≤ 140737488355328) <| .loop 0 (.tt <| .lt (w64 (len m - len y3.1) : Int) fun z => .lt (List.replicate (Int.toNat (w64 (z + 1))) 0 : List Int) fun z1 => .lt (over (List.replicate (Int.toNat (w64 (len m + 1))) 0) 0 (List.take (Int.toNat (w64 (len m + 1))) y4.1) : List Int) fun z2 => .vL (vM z <| (vQ 41 0 (Int.toNat (w64 (z + 1))) true) ∧ (vM (len y3.1) <| (vQ 26 0 (Int.toNat (w64 (len m + 1))) true) ∧ (vS y3.1 (aeH (Int.tdiv 1000000000 (aeH (gi o (w64 (len o - 1)) 0 + 1))) : Int) <| True ∧ True))) <| .vL (vK (vP 189 z1) <| vK (vP 189 z2) True) <| .ok ((z, z1, z2, ()))) (aiZ m o y y3 y4)))
def aGf : LTab := [(247, 8186, 49153, ⟨0, (Int) × (List Int) × (List Int) × Unit, .dat (.s 12) ud <| .row 41 uj <| .row 26 uj <| .nil, [4, 11, 10, 9, 8, 5], [41, 26], 0⟩), (269, 63, 95232, ⟨1, (Int) × Unit, .dat (.s 8) uD <| .nil, [5, 4, 0, 1], [41, 26], 0⟩), (269, 252, 95232, ⟨2, (Int) × (Int) × Unit, .dat (.s 9) uD <| .dat (.s 8) uD <| .nil, [6, 5, 4, 0, 1], [41, 26], 0⟩), (269, 2042, 100352, ⟨3, (Int) × (Int) × (Int) × (List Int) × Unit, .dat (.s 77) ud <| .dat (.s 11) ud <| .dat (.s 10) uD <| .row 26 uj <| .nil, [76, 75, 8, 5, 4, 0, 1], [41, 26], 0⟩), (269, 65454, 118784, ⟨4, (Int) × (Int) × (List Int) × Unit, .dat (.s 125) ud <| .dat (.s 15) uj <| .row 26 uj <| .nil, [124, 123, 8, 5, 4, 0], [41, 26], 0⟩)]
end
end Go.Vs
