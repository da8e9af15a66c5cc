/-
  Trees of what the functions compute, and their laws. Own work; no condition.
-/
import Derived.Test.YtlmjbmgabddkiaaGreatDoorClL4
import Derived.Test.YtlmjbmgabddkiaaGreatDoorProg
set_option linter.unusedVariables false
set_option linter.unusedSimpArgs false
namespace Go.Vs
open Go Go.Vg
theorem aBn {α : Type} (l : List α) : inc (if 20 < len l then 20 else len l) (len l) ∧ List.take (Int.toNat (if 20 < len l then 20 else len l)) l = l.take 20 := by
 rw [aaI]
 by_cases c : (20 : Int) < (l.length : Int)
 ·rw [if_pos c]; exact ⟨⟨by omega, by omega⟩, rfl⟩
 ·rw [if_neg c]; exact ⟨⟨by omega, by omega⟩, by rw [zm, zr zb, zr zb]⟩
theorem aD4 (x : FxT) (y) (h : agM (x, ()) = some y) : (atF x).toO = some y := by
 rw [← h]
 unfold atF agM aIG
 obtain ⟨a1, a2⟩ := aBn x.1
 obtain ⟨b1, b2⟩ := aBn x.2.1
 refine uN a1 (uN b1 ?_)
 rw [a2, b2]; rfl
theorem azZ (l : List FxT) (y) (h : ae3 (l, ()) = some y) : (amI l).toO = some y := by
 unfold ae3 at h
 split at h
 case isFalse => cases h
 case isTrue hl =>
 obtain ⟨hl, hs⟩ := hl
 injection h with h
 subst h
 dsimp only at hl hs ⊢
 unfold amI
 refine uO (0, ()) rfl ?_
 refine aaS (fun i : Int × Unit => ∃ k : Nat, k ≤ l.length ∧ i = ((k : Int), ()) ∧ aIu (l.take k) = true) (fun i => ((l.length : Int) - i.1).toNat) (fun _ => ((if aIu l then 0 else 20), ())) ?_ _ ⟨0, by omega, rfl, by unfold aIu; simp⟩
 rintro i ⟨k, h2, rfl, h3⟩
 unfold aqY
 dsimp only
 simp only [aaP]
 rcases zv k l.length with hk | hk
 ·have e1 : l.getD k ([], [], ()) = l[k] := by simp [hk]
  rw [e1]
  have hk' := hs l[k] (yl hk)
  by_cases c : (rdF l[k]).isSome = true
  ·left
   refine ⟨(((k + 1 : Nat) : Int), ()), ?_, ⟨k + 1, by omega, rfl, ?_⟩, by dsimp only; omega, zd⟩
   ·refine uT sd (uN sd (uC (0, ()) ?_ (uF rfl ?_)))
    ·unfold ag5 adS; dsimp only; rw [if_pos hk', if_pos c]
    ·repeat refine za ?_
     rw [aaA (x := (k : Int) + 1) zb]; rfl
   ·unfold aIu at h3 ⊢
    rw [zN hk, vu, h3]
    simp [c]
  ·right
   have e2 : aIu l = false := by unfold aIu; exact List.all_eq_false.2 ⟨l[k], yl hk, c⟩
   rw [e2]
   refine uT sd (uN sd (uC (20, ()) ?_ (uT rfl rfl)))
   unfold ag5 adS; dsimp only; rw [if_pos hk', if_neg c]
 ·right
  rw [zr hk] at h3
  rw [h3]
  exact uF sd rfl
theorem azV (a b : FxT) (y) (h : aeA (a, b, ()) = some y) : (amE a b).toO = some y := by
 unfold aeA at h
 split at h
 case isFalse => cases h
 case isTrue hl =>
 unfold amE
 have hc : aoM (a, b, ()) = ae4 (a, b, ()) := if_pos hl
 dsimp only at h
 cases ha : rdF a with
 | none => rw [ha] at h; exact uC (0, 20, ()) (hc.trans (by unfold ae4; simp only [ha])) h
 | some p =>
  cases hb : rdF b with
  | none => rw [ha, hb] at h; exact uC (0, 20, ()) (hc.trans (by unfold ae4; simp only [ha, hb])) h
  | some q => rw [ha, hb] at h; exact uC (aDu p q, 0, ()) (hc.trans (by unfold ae4; simp only [ha, hb])) h
theorem aMW {x : FxT} (h : shR x) : shF x := ⟨by have := h.1; omega, by have := h.2; omega⟩
theorem av6 {l : List FxT} (h : l.length ≤ 1000000000000) (hs : ∀ a ∈ l, shF a) : ae3 (l, ()) = some (if aIu l then 0 else 20, ()) := if_pos ⟨h, hs⟩
theorem aqO {a : FxT} {q : Rat} (hs : shF a) (h : rdF a = some q) : agL (a, ()) = some (q.num.sign, 0, ()) := by unfold agL; rw [if_pos hs]; simp only [h]
theorem av4 {a b : FxT} {p q : Rat} (h1 : shF a) (h2 : shF b) (ha : rdF a = some p) (hb : rdF b = some q) : aeA (a, b, ()) = some (aDu p q, ()) := by unfold aeA; rw [if_pos ⟨h1, h2⟩]; simp only [ha, hb]
theorem azW (t : TrT) (y) (h : acA (t, ()) = some y) : (amF t).toO = some y := by
 unfold acA at h
 split at h
 case isFalse => cases h
 case isTrue hs =>
 injection h with h
 subst h
 dsimp only at hs ⊢
 obtain ⟨s1, s2, s3, s4⟩ := hs
 have f1 := aMW s1
 have f2 := aMW s2
 unfold amF
 by_cases c1 : t.1 < 0
 ·rw [akT t zb]; exact uT (zl c1) rfl
 refine uF (zk c1) ?_
 by_cases c2 : t.1 > 1000000
 ·rw [akT t zb]; exact uT (zl c2) rfl
 refine uF (zk c2) ?_
 by_cases c3 : t.2.1 < 0
 ·rw [akT t zb]; exact uT (zl c3) rfl
 refine uF (zk c3) ?_
 by_cases c4 : t.2.1 > t.1
 ·rw [akT t zb]; exact uT (zl c4) rfl
 refine uF (zk c4) ?_
 rw [aAN t zb]
 have e1 : ae3 ([t.2.2.1, t.2.2.2.1], ()) = some (if aIu [t.2.2.1, t.2.2.2.1] then 0 else 20, ()) := av6 (by show 2 ≤ 1000000000000; omega) (by simp [f1, f2])
 cases hg : rdF t.2.2.1 with
 | none => exact uC (20, ()) (e1.trans (by unfold aIu; simp [hg])) (uT rfl rfl)
 | some g =>
 cases hm : rdF t.2.2.2.1 with
 | none => exact uC (20, ()) (e1.trans (by unfold aIu; simp [hm])) (uT rfl rfl)
 | some m =>
 refine uC (0, ()) (e1.trans (by unfold aIu; simp [hg, hm])) (uF rfl (uV (uV (uC _ (aqO f1 hg) ?_))))
 dsimp only
 show _ = some ((if (decide (0 ≤ g ∧ 0 ≤ m ∧ m ≤ g) && (if t.2.1 = t.1 then decide (t.2.2.2.2.1 = [] ∧ g = 0) else decide (1 ≤ t.2.2.2.2.1.length ∧ t.2.2.2.2.1.length ≤ 4) && aDw t.2.2.2.2.1)) = true then 0 else 410), ())
 by_cases g0 : g < 0
 ·have e2 : decide (0 ≤ g ∧ 0 ≤ m ∧ m ≤ g) = false := zk (fun h => xx.2 h.1 g0)
  simp only [e2, xv, yi, if_false]
  exact uT (zl ((ad1 g).2 g0)) rfl
 refine uF (zk (fun h => g0 ((ad1 g).1 h))) (uV (uV (uC _ (aqO f2 hm) ?_)))
 by_cases m0 : m < 0
 ·have e2 : decide (0 ≤ g ∧ 0 ≤ m ∧ m ≤ g) = false := zk (fun h => xx.2 h.2.1 m0)
  simp only [e2, xv, yi, if_false]
  exact uT (zl ((ad1 m).2 m0)) rfl
 refine uF (zk (fun h => m0 ((ad1 m).1 h))) (uC _ (av4 f2 f1 hm hg) ?_)
 have e2 : decide (0 ≤ g ∧ 0 ≤ m ∧ m ≤ g) = decide (m ≤ g) := decide_eq_decide.2 ⟨fun h => h.2.2, fun h => ⟨xx.1 g0, xx.1 m0, h⟩⟩
 rw [e2]
 by_cases k1 : m ≤ g
 case neg =>
  rw [zk k1]
  exact uT (zl ((af4 m g).2 (Rat.not_le.1 k1))) rfl
 rw [zl k1]
 refine uF (zk (fun h => xx.2 k1 ((af4 m g).1 h))) ?_
 by_cases k2 : t.2.1 = t.1
 ·rw [if_pos k2]
  refine uT (yA.2 k2) ?_
  by_cases k3 : t.2.2.2.2.1 = []
  ·refine uF (by rw [k3]; rfl) (uV (uV (uC _ (aqO f1 hg) ?_)))
   by_cases k4 : g = 0
   ·rw [zl (show t.2.2.2.2.1 = [] ∧ g = 0 from ⟨k3, k4⟩)]
    refine uF ?_ rfl
    subst k4; rfl
   ·rw [zk (fun h : t.2.2.2.2.1 = [] ∧ g = 0 => k4 h.2)]
    refine uT ?_ rfl
    have h1 : g.num.sign ≠ 0 := fun h => k4 ((ajG g).1 h)
    have h2 : ¬ g.num.sign < 0 := fun h => g0 ((ad1 g).1 h)
    exact zl (by dsimp only; omega)
  ·rw [zk (fun h : t.2.2.2.2.1 = [] ∧ g = 0 => k3 h.1)]
   refine uT (zl ?_) rfl
   rw [aaI]
   have := zM.2 k3
   omega
 ·rw [if_neg k2]
  refine uF (beq_eq_false_iff_ne.2 k2) ?_
  by_cases k3 : 1 ≤ t.2.2.2.2.1.length
  case neg =>
   rw [zk (fun h : 1 ≤ t.2.2.2.2.1.length ∧ t.2.2.2.2.1.length ≤ 4 => k3 h.1)]
   exact uT sd rfl
  refine uF sd ?_
  by_cases k4 : t.2.2.2.2.1.length ≤ 4
  case neg =>
   rw [zk (fun h : 1 ≤ t.2.2.2.2.1.length ∧ t.2.2.2.2.1.length ≤ 4 => k4 h.2)]
   exact uT sd rfl
  refine uF sd ?_
  rw [zl (show 1 ≤ t.2.2.2.2.1.length ∧ t.2.2.2.2.1.length ≤ 4 from ⟨k3, k4⟩)]
  refine uC _ (av6 zb (fun a ha => aMW (s3 a ha))) ?_
  have e3 : aIu t.2.2.2.2.1 = aDw t.2.2.2.2.1 := rfl
  rw [e3]
  cases aDw t.2.2.2.2.1
  ·exact uT rfl rfl
  ·exact uF rfl rfl
theorem aBC (a b : TrT) (y) (h : aeM (a, b, ()) = some y) : (apF a b).toO = some y := by
 unfold aeM at h
 split at h
 case isFalse => cases h
 case isTrue hl =>
 injection h with h
 subst h
 dsimp only at hl ⊢
 unfold apF
 obtain ⟨p, f, g, m, s, u⟩ := a
 obtain ⟨p', f', g', m', t, u'⟩ := b
 dsimp only at hl ⊢
 by_cases c1 : p = p'
 case neg => rw [agI (fun h => c1 (Prod.mk.inj h).1)]; exact uT (xn.2 c1) rfl
 subst c1
 refine uF zh ?_
 by_cases c2 : f = f'
 case neg => rw [agI (fun h => c2 (Prod.mk.inj (Prod.mk.inj h).2).1)]; exact uT (xn.2 c2) rfl
 subst c2
 refine uF zh ?_
 by_cases c3 : g = g'
 case neg => rw [agI (fun h => c3 (Prod.mk.inj (Prod.mk.inj (Prod.mk.inj h).2).2).1)]; exact uT (congrArg (fun b : Bool => !b) (aKU c3)) rfl
 subst c3
 refine uF (congrArg (fun b : Bool => !b) (aGg g)) ?_
 by_cases c4 : m = m'
 case neg => rw [agI (fun h => c4 (Prod.mk.inj (Prod.mk.inj (Prod.mk.inj (Prod.mk.inj h).2).2).2).1)]; exact uT (congrArg (fun b : Bool => !b) (aKU c4)) rfl
 subst c4
 refine uF (congrArg (fun b : Bool => !b) (aGg m)) ?_
 have fin : ∀ s t : List FxT, eqb ((p, f, g, m, s, u) : TrT) (p, f, g, m, t, u') = eqb s t := fun s t => by
  by_cases c5 : s = t
  ·subst c5; rw [asD rfl, asD rfl]
  ·rw [agI c5, agI (fun h => c5 (Prod.mk.inj (Prod.mk.inj (Prod.mk.inj (Prod.mk.inj (Prod.mk.inj h).2).2).2).2).1)]
 rw [fin]
 by_cases h1 : s.length = t.length
 case neg =>
  rw [agI (fun h => h1 (by rw [h]))]
  exact uT sd rfl
 refine uF sd (uO (0, ()) rfl ?_)
 refine aaS (fun i : Int × Unit => ∃ k : Nat, k ≤ s.length ∧ i = ((k : Int), ()) ∧ s.take k = t.take k) (fun i => ((s.length : Int) - i.1).toNat) (fun _ => (eqb s t, ())) ?_ _ ⟨0, by omega, rfl, by simp⟩
 rintro i ⟨k, h2, rfl, h3⟩
 simp only [atB, aaP]
 rcases zv k s.length with hk | hk
 ·have e1 : s.getD k ([], [], ()) = s[k] := by simp [hk]
  have e2 : t.getD k ([], [], ()) = t[k] := by simp [show k < t.length by omega]
  rw [e1, e2]
  by_cases c : s[k] = t[k]
  ·left
   refine ⟨(((k + 1 : Nat) : Int), ()), ?_, ⟨k + 1, by omega, rfl, aBm hk zb h3 c⟩, by dsimp only; omega, zd⟩
   refine uT sd (uN sd (uN sd (uF ?_ ?_)))
   ·rw [c]; simp
   ·repeat refine za ?_
    rw [aaA (x := (k : Int) + 1) zb]; rfl
  ·right
   rw [agI (fun h : s = t => c (by subst h; rfl))]
   refine uT sd (uN sd (uN sd (uT ?_ rfl)))
   exact congrArg (fun b : Bool => !b) (aKU c)
 ·right
  rw [zr hk, zr zb] at h3
  rw [asD h3]
  exact uF sd rfl
theorem aBE (b : BnT) (t : TrT) (y) (h : abQ (b, t, ()) = some y) : (apH b t).toO = some y := by
 unfold abQ at h
 split at h
 case isFalse => cases h
 case isTrue hl =>
 injection h with h
 subst h
 dsimp only at hl ⊢
 obtain ⟨h1, h2, h3⟩ := hl
 unfold apH aAR
 refine uV ?_
 generalize b.1.tmod 6 = w
 have ho : agM (b.2.2.1, ()) = some (aIG b.2.2.1, ()) := rfl
 by_cases c0 : w = 0
 ·rw [if_pos c0]; exact uT (yA.2 c0) rfl
 rw [if_neg c0]
 refine uF (beq_eq_false_iff_ne.2 c0) ?_
 by_cases c1 : w = 1
 ·rw [if_pos c1]; exact uT (yA.2 c1) rfl
 rw [if_neg c1]
 refine uF (beq_eq_false_iff_ne.2 c1) ?_
 by_cases c2 : w = 2
 ·rw [if_pos c2]; exact uT (yA.2 c2) (uC _ ho rfl)
 rw [if_neg c2]
 refine uF (beq_eq_false_iff_ne.2 c2) ?_
 by_cases c3 : w = 3
 ·rw [if_pos c3]; exact uT (yA.2 c3) (uC _ ho rfl)
 rw [if_neg c3]
 refine uF (beq_eq_false_iff_ne.2 c3) ?_
 by_cases c4 : w = 4
 ·rw [if_pos c4]; exact uT (yA.2 c4) rfl
 rw [if_neg c4]
 refine uF (beq_eq_false_iff_ne.2 c4) (uN zb ?_)
 obtain ⟨p, f, g, m, l, u⟩ := t
 dsimp only at h3 ⊢
 cases l with
 | nil => exact uT rfl (uC _ ho (uN zb rfl))
 | cons x l =>
  refine uF rfl (uC _ ho (uN zb ?_))
  have e : List.take ((x :: l).length + 1) (List.take (x :: l).length (x :: l) ++ [aIG b.2.2.1]) = (x :: l) ++ [aIG b.2.2.1] := by rw [zu, zr zh]
  show some ((p, f, (g.1, g.2.1, ()), (m.1, m.2.1, ()), List.take ((x :: l).length + 1) (List.take (x :: l).length (x :: l) ++ [aIG b.2.2.1]), ()), ()) = _
  rw [e]
theorem aG3 (n : Int) (y) (h : aoJ (n, ()) = some y) : (aFH n).toO = some y := by
 obtain ⟨k, hk, e, rfl⟩ := aaH h
 have hk : k ≤ 40 := hk
 obtain ⟨rfl, -⟩ := Prod.mk.inj e
 exact uC _ (aeE ⟨by omega, by omega⟩) (uC _ (aFk (Or.inr ⟨by omega, rfl⟩)) rfl)
theorem aGA {n : Nat} (h : n ≤ 40) : aoJ ((n : Int), ()) = some (pl ((10 : Int) ^ n), ()) := aaN (enc := fun n : Nat => ((n : Int), ())) n h (fun b hb => Int.ofNat.inj (Prod.mk.inj hb).1)
theorem aQv : Rat.divInt 1 2 = mkRat 1 2 := rfl
theorem aGx : BdQ 0 (mkRat 1 2) := ⟨aaD zf, aaD zf⟩
theorem awO (a : RaT) (y) (h : ah8 (a, ()) = some y) : (aqX a).toO = some y := by
 obtain ⟨q, hq, e, rfl⟩ := aaH h
 have hq : BdQ 2 q := hq
 obtain ⟨rfl, -⟩ := Prod.mk.inj e
 refine uC _ (aqP ⟨by omega, by omega⟩ ⟨by omega, by omega⟩ zb) ?_
 rw [aQv]
 exact uC _ (aDn (acR hq zb) (acR aGx zb)) (uC _ (aMg (acR (aFe hq (acR aGx zb)) zb)) rfl)
theorem aDo {q : Rat} (h : BdQ 2 q) : ah8 (ra q, ()) = some (pl (fl (q + mkRat 1 2)), ()) := aaN (enc := fun x : Rat => (ra x, ())) q h (fun b hb => aBz (Prod.mk.inj hb).1)
theorem aJE (q : Rat) : aDu q (Rat.divInt 0 1) = q.num.sign := by
 rw [aEj]
 show (q.num * ((1 : Nat) : Int) + -(0 * (q.den : Int))).sign = _
 rw [Int.zero_mul, Int.neg_zero, wT, Int.natCast_one, Int.mul_one]
theorem aDX (a : FxT) (y) (h : agL (a, ()) = some y) : (atE a).toO = some y := by
 unfold agL at h
 split at h
 case isFalse => cases h
 case isTrue hl =>
 unfold atE
 refine uC _ (adL hl) ?_
 cases ha : rdF a with
 | none => rw [ha] at h; exact uT rfl h
 | some q =>
  rw [ha] at h
  obtain ⟨f1, rfl⟩ := ac1 ha
  refine uF rfl (uC _ (aiK f1) (uC _ (aqP ⟨by omega, by omega⟩ ⟨by omega, by omega⟩ zb) (uC _ (ay2 (aQ1 f1) ?_) ?_)))
  ·have b0 : BdQ 0 (Rat.divInt 0 1) := ⟨aaD zf, aaD zf⟩
   exact acR b0 zb
  ·rw [aJE]; exact h
theorem aP0 {q : Rat} (h : shR (fx q)) : Sm 100 q := by
 obtain ⟨h1, h2⟩ := h
 have h3 : (dec q.num).length ≤ 100 := h1
 have h4 : (aa3 q.den).length ≤ 100 := h2
 have h5 : (aa3 q.num.natAbs).length ≤ 100 := by
  unfold dec at h3
  split at h3
  ·rw [zH] at h3; omega
  ·exact h3
 exact ⟨(aaZ zb).1 h5, (aaZ zb).1 h4⟩
theorem aQp {q : Rat} (h : Sm 100 q) (n : Nat) : Fit (((aj6 q (10 ^ n)).natAbs / 10 ^ n : Nat) : Int) := by
 refine ap9 (k := 101) ?_ zb
 rw [aEs]
 have hs : 0 < 10 ^ n := wZ zb
 generalize 10 ^ n = s at hs ⊢
 have a1 : (q.num * ((s * 2 : Nat) : Int) + (q.den : Int)).natAbs ≤ q.num.natAbs * (s * 2) + q.den := by
  have := wW (q.num * ((s * 2 : Nat) : Int)) (q.den : Int)
  rw [yp, yc, yc] at this
  exact this
 generalize q.num * ((s * 2 : Nat) : Int) + (q.den : Int) = z at a1 ⊢
 have hd := q.den_pos
 have a2 : (z / ((q.den * 2 : Nat) : Int)).natAbs ≤ z.natAbs := Int.natAbs_ediv_le_natAbs z _
 have a3 : z.natAbs ≤ (q.num.natAbs * 2 + q.den) * s := by
  refine zw a1 ?_
  rw [ym]
  have e : q.num.natAbs * (s * 2) = q.num.natAbs * 2 * s := by rw [wI, yW s 2]
  rw [e]
  exact Nat.add_le_add_left (Nat.le_mul_of_pos_right _ hs) _
 have a4 : (z / ((q.den * 2 : Nat) : Int)).natAbs / s ≤ q.num.natAbs * 2 + q.den := by
  refine zw (Nat.div_le_div_right (zw a2 a3)) ?_
  rw [Nat.mul_div_cancel _ hs]; exact zj _
 have h1 := h.1
 have h2 := h.2
 have e : (10 : Nat) ^ 101 = 10 ^ 100 * 10 := rfl
 omega
theorem aId (z : Int) : Rat.divInt z 1 = (z : Rat) := by
 show mkRat z 1 = _
 rw [akK]
theorem aRW (n : Nat) : pl (n : Int) = (false, dig n, ()) := by
 show (decide ((n : Int) < 0), dig n, ()) = _
 rw [zk zb]
theorem aNm {n r j : Nat} (h : j + (aa3 r).length = n) : atV n r = List.replicate j 48 ++ aa3 r := by
 unfold atV
 rw [show n - (aa3 r).length = j by omega]
theorem aP5 (a : FxT) (n : Nat) (y : Bool × Unit) (j : List UInt8 × Int × Unit) (y1 : RaT × Unit) (y2 y3 : PlT × Unit) (y4 y5 : RaT × Unit) (y6 : PlT × Unit) (j1 : List UInt8 × Unit) (y7 : PlT × Unit) (y8 : PlT × PlT × Unit) (y9 : List UInt8 × Int × Unit) (y10 : List UInt8 × Unit) (r : Nat)
  (h1 : j1.1.length ≤ 10) (h2 : y9.1.length ≤ 1000) (hn : n ≤ 20) (hr : (aa3 r).length ≤ n) : abX (fun i => (apI a (n : Int) y j y1 y2 y3 y4 y5 y6 j1 y7 y8 y9 y10 i).toO) (aa3 r, ()) = some (j1.1 ++ y9.1 ++ 46 :: atV n r, 0, ()) := by
 refine aaS (fun i : List UInt8 × Unit => ∃ k : Nat, k + (aa3 r).length ≤ n ∧ i = (List.replicate k 48 ++ aa3 r, ())) (fun i => n - i.1.length) (fun _ => (j1.1 ++ y9.1 ++ 46 :: atV n r, 0, ())) ?_ _ ⟨0, by omega, rfl⟩
 rintro i ⟨k, h3, rfl⟩
 have hl : (List.replicate k (48 : UInt8) ++ aa3 r).length = k + (aa3 r).length := by rw [zo, ya]
 unfold apI
 dsimp only
 have g46 : ([(46 : UInt8)] : List UInt8).length = 1 := rfl
 have g48 : ([(48 : UInt8)] : List UInt8).length = 1 := rfl
 by_cases c : k + (aa3 r).length < n
 ·left
  refine ⟨(List.replicate (k + 1) 48 ++ aa3 r, ()), ?_, ⟨k + 1, by omega, rfl⟩, ?_, zd⟩
  ·refine uT (zl (by rw [aaI, hl]; omega)) (uN (by unfold lim; omega) (uV (uB (uV (uV ?_)))))
   show some (Sum.inl (48 :: (List.replicate k 48 ++ aa3 r), ())) = _
   rw [xe]; rfl
  ·show n - (List.replicate (k + 1) (48 : UInt8) ++ aa3 r).length < n - (List.replicate k (48 : UInt8) ++ aa3 r).length
   rw [zo, zo, ya, ya]; omega
 ·right
  rw [aNm (n := n) (r := r) (j := k) zb]
  refine uF (zk (by rw [aaI, hl]; omega)) (uN (by unfold lim; omega) (uN (by rw [zo]; unfold lim; omega) (uN (by rw [zo, zo]; unfold lim; omega) ?_)))
  show some (Sum.inr (j1.1 ++ y9.1 ++ [46] ++ (List.replicate k 48 ++ aa3 r), 0, ())) = _
  rw [zY (j1.1 ++ y9.1) [46]]; rfl
theorem aDW (a : FxT) (p : Int) (y) (h : afN (a, p, ()) = some y) : (atC a p).toO = some y := by
 unfold afN at h
 split at h
 case isFalse => cases h
 case isTrue hl =>
 dsimp only at h hl
 unfold atC
 refine uC _ (adL (aMW hl)) ?_
 cases ha : rdF a with
 | none => rw [ha] at h; exact uT rfl h
 | some q =>
 rw [ha] at h
 dsimp only at h
 obtain ⟨f1, rfl⟩ := ac1 ha
 have hb := afG ha
 have hs := aP0 hl
 refine uF rfl ?_
 by_cases c1 : p < 0
 ·rw [if_pos (Or.inl c1)] at h
  injection h with h
  subst h
  exact uR _ (uT (zl c1) rfl)
 by_cases c2 : p > 20
 ·rw [if_pos (Or.inr c2)] at h
  injection h with h
  subst h
  exact uR _ (uF (zk c1) (uT (zl c2) rfl))
 rw [if_neg zb] at h
 obtain ⟨n, rfl⟩ := zE (show 0 ≤ p by omega)
 rw [zm] at h
 injection h with h
 subst h
 have hn : n ≤ 20 := zb
 have h10 : 10 ^ n ≤ 10 ^ 20 := zO zb hn
 have h10' : 10 ^ n ≤ 100000000000000000000 := h10
 have e10 : ((10 : Int) ^ n) = ((10 ^ n : Nat) : Int) := by rw [Int.natCast_pow]; rfl
 have b10 : Bd 0 ((10 : Int) ^ n).natAbs := by rw [e10, yc]; exact aaD zb
 refine uL ([], 0, ()) (uF (zk c1) (uF (zk c2) rfl)) ?_
 unfold axI
 refine uC _ (aiK f1) (uC _ (aGA zb) (uC _ (aeE ⟨by omega, by omega⟩) (uC _ (ahU (aaG b10 zb) (aaD zf |> fun h => aaG h zb) zb) ?_)))
 have bt : BdQ 0 (Rat.divInt ((10 : Int) ^ n) 1) := ayW zb b10 (aaD zf)
 refine uC _ (ay1 (acR hb zb) (acR bt zb)) (uC _ (aDo (avT hb bt)) ?_)
 have en : fl (q * Rat.divInt ((10 : Int) ^ n) 1 + mkRat 1 2) = aj6 q (10 ^ n) := by
  unfold aj6; rw [aId, e10]; rfl
 rw [en]
 have hi := aQp hs n
 have hbn : Bd 6 (aj6 q (10 ^ n)).natAbs := by
  have := at5 f1 (s := 10 ^ n) zb
  show _ ≤ 1000000 * 4 ^ 6
  omega
 unfold amC
 generalize aj6 q (10 ^ n) = z at hi hbn ⊢
 refine uL (aMv z, ()) ?_ ?_
 ·unfold aMv
  by_cases c : z < 0
  ·rw [if_pos c]; exact uT (zl c) rfl
  ·rw [if_neg c]; exact uF (zk c) rfl
 have hp : 0 < 10 ^ n := wZ zb
 have sg : (aMv z).length ≤ 10 := by unfold aMv; split <;> simp
 have e1 : ((z.natAbs : Int) / (10 : Int) ^ n) = ((z.natAbs / 10 ^ n : Nat) : Int) := by rw [e10]; rfl
 have e2 : ((z.natAbs : Int) % (10 : Int) ^ n) = ((z.natAbs % 10 ^ n : Nat) : Int) := by rw [e10]; rfl
 unfold axH
 refine uC _ (aGA zb) (uC (pl ((z.natAbs / 10 ^ n : Nat) : Int), pl ((z.natAbs % 10 ^ n : Nat) : Int), ()) ?_ ?_)
 ·have := ag6 (a := (z.natAbs : Int)) (b := (10 : Int) ^ n) hbn (aaG b10 zb) (by rw [e10]; omega)
  rw [e1, e2, aRW z.natAbs] at this
  exact this
 have ho : aj1 (pl ((z.natAbs / 10 ^ n : Nat) : Int), ()) = some (aa3 (z.natAbs / 10 ^ n), 0, ()) := by
  rw [aA3 (aaL _ hbn), asO hi, ajR]
 have lo : (aa3 (z.natAbs / 10 ^ n)).length ≤ 600 := hi
 refine uC _ ho (uF rfl ?_)
 unfold aPp
 by_cases c3 : n = 0
 ·subst c3
  rw [if_pos rfl]
  refine uT rfl (uN (by dsimp only; unfold lim; omega) ?_)
  show some (aMv z ++ aa3 (z.natAbs / 10 ^ 0), 0, ()) = _
  rw [Nat.pow_zero, Nat.div_one]
 rw [if_neg c3]
 refine uF (beq_eq_false_iff_ne.2 zb) (uC (aa3 (z.natAbs % 10 ^ n), ()) ?_ ?_)
 ·have := av9 (z := ((z.natAbs % 10 ^ n : Nat) : Int)) (aa0 _ hbn)
  rw [ajR] at this
  exact this
 refine uO (aa3 (z.natAbs % 10 ^ n), ()) rfl ?_
 rw [aP5 _ n _ _ _ _ _ _ _ _ (aMv z, ()) _ _ (aa3 (z.natAbs / 10 ^ n), 0, ()) _ (z.natAbs % 10 ^ n) sg (by dsimp only; omega) hn ((aaZ zb).2 (yy _ hp))]
 dsimp only
 rw [zY]
theorem aMe {a : FxT} {q : Rat} (hs : shR a) (h : rdF a = some q) : afN (a, 6, ()) = some (amC (rdQ a) 6, 0, ()) := by
 unfold afN rdQ
 rw [if_pos hs]
 dsimp only
 rw [h]
 rfl
theorem anF {t : TrT} (h : shT t) : acA (t, ()) = some (if aoY t then 0 else 410, ()) := if_pos h
noncomputable def ao6 (l : List FxT) : List UInt8 := (l.map fun x => [32] ++ amC (rdQ x) 6).flatten
theorem aGO {l : List FxT} {n : Nat} (h : n < l.length) : ao6 (l.take (n + 1)) = ao6 (l.take n) ++ [32] ++ amC (rdQ l[n]) 6 := by
 unfold ao6
 rw [zN h, xI, List.flatten_append, List.map_singleton, List.flatten_singleton, zY]
theorem aFD (t : TrT) (s0 : List UInt8) (y : Int × Unit) (y1 y2 : List UInt8 × Unit) (y3 y4 : List UInt8 × Int × Unit) (h0 : s0.length ≤ 100000) (hl : t.2.2.2.2.1.length ≤ 4) (hs : ∀ x ∈ t.2.2.2.2.1, shR x) (ha : ∀ a ∈ t.2.2.2.2.1, ∃ q, rdF a = some q) :
  abX (fun i => (ai7 t y y1 y2 y3 y4 i).toO) (0, s0, ()) = some (s0 ++ ao6 t.2.2.2.2.1 ++ [10], 0, ()) := by
 refine aaS (f := fun _ => (s0 ++ ao6 t.2.2.2.2.1 ++ [10], 0, ())) (fun (i : Int × List UInt8 × Unit) => ∃ n : Nat, i.1 = (n : Int) ∧ n ≤ t.2.2.2.2.1.length ∧ i.2.1 = s0 ++ ao6 (t.2.2.2.2.1.take n) ∧ (ao6 (t.2.2.2.2.1.take n)).length ≤ 6000 * n) (fun i => t.2.2.2.2.1.length - i.1.toNat) ?_ _ ⟨0, rfl, zL _, by unfold ao6; simp, by unfold ao6; simp⟩
 rintro ⟨k, ws, ⟨⟩⟩ ⟨n, hk, hn, hw, hb⟩
 dsimp only at hk hw
 subst hk hw
 have g10 : ([(10 : UInt8)] : List UInt8).length = 1 := rfl
 have g32 : ([(32 : UInt8)] : List UInt8).length = 1 := rfl
 unfold ai7
 dsimp only
 rcases zv n t.2.2.2.2.1.length with hlt | hge
 ·left
  have hmem : t.2.2.2.2.1[n] ∈ t.2.2.2.2.1 := yl hlt
  obtain ⟨q, hq⟩ := ha _ hmem
  have hx := apC hq
  have hsu := aGO hlt
  refine ⟨((n + 1 : Nat), s0 ++ ao6 (t.2.2.2.2.1.take (n + 1)), ()), ?_, ⟨n + 1, rfl, hlt, rfl, ?_⟩, by show t.2.2.2.2.1.length - ((n + 1 : Nat) : Int).toNat < t.2.2.2.2.1.length - (n : Int).toNat; omega, rfl⟩
  ·refine uT (zl (by rw [aaI]; omega)) (uN (aPx zb (by rw [aaI]; omega)) ?_)
   rw [aQy (k := n) rfl hlt]
   have e1 : w64 ((n : Int) + 1) = ((n + 1 : Nat) : Int) := by rw [aaA zb]; omega
   refine uC _ (aMe (hs _ hmem) hq) (uF rfl (uN (by rw [zo]; unfold lim; omega) (uN (by dsimp only; rw [zo, zo]; unfold lim; omega) (uV (uB (uB (uV (uV ?_))))))))
   rw [e1, hsu]
   show some (Sum.inl (((n + 1 : Nat) : Int), s0 ++ ao6 (t.2.2.2.2.1.take n) ++ [32] ++ amC (rdQ t.2.2.2.2.1[n]) 6, ())) = _
   rw [zY s0, zY s0]
  ·rw [hsu, zo, zo]; omega
 ·right
  have he : n = t.2.2.2.2.1.length := zb
  subst he
  rw [zu] at hb ⊢
  refine uF (zk (by rw [aaI]; omega)) (uN (by rw [zo]; unfold lim; omega) rfl)
theorem aTq (t : TrT) (y : Int × Unit) (y1 y2 : List UInt8 × Unit) (y3 y4 : List UInt8 × Int × Unit) (i) : atA t y y1 y2 y3 y4 i = ai7 t y y1 y2 y3 y4 i := rfl
theorem aBB (t : TrT) (y) (h : afC (t, ()) = some y) : (apE t).toO = some y := by
 unfold afC at h
 split at h
 case isFalse => cases h
 case isTrue hs =>
 unfold aeW at h
 dsimp only at h hs
 injection h with h
 subst h
 unfold apE
 have hck := anF hs
 by_cases hc : aoY t = true
 case neg =>
  rw [if_neg hc] at hck ⊢
  exact uC _ hck (uT rfl rfl)
 rw [if_pos hc] at hck ⊢
 obtain ⟨s1, s2, s3, s4⟩ := hs
 obtain ⟨p0, p1, f0, f1, ⟨g, hg⟩, ⟨m, hm⟩, hl, ha⟩ := aGt hc
 have I1 := aA5 p0 p1
 have I2 := aA5 f0 (by omega : t.2.1 ≤ 1000000)
 have I3 := apC hg
 have I4 := apC hm
 have b1 := I1.2
 have b2 := I2.2
 have fin : ∀ l : List FxT, (if l = [] then [[45]] else l.map fun x => amC (rdQ x) 6) = atT l := fun l => rfl
 refine uC _ hck (uF rfl (uC _ I1.1 ?_))
 have J2 := I2.1
 have J3 := aMe s1 hg
 have J4 := aMe s2 hm
 unfold aRo
 generalize dec t.1 = d1 at *
 generalize dec t.2.1 = d2 at *
 generalize amC (rdQ t.2.2.1) 6 = d3 at *
 generalize amC (rdQ t.2.2.2.1) 6 = d4 at *
 refine uN (by dsimp only; simp only [zo, zH, yI]; unfold lim; omega) (uN (by dsimp only; simp only [zo, zH, yI]; unfold lim; omega) (uC _ J2 ?_))
 refine uN (by dsimp only; simp only [zo, zH, yI]; unfold lim; omega) (uN (by dsimp only; simp only [zo, zH, yI]; unfold lim; omega) (uC _ J3 (uF rfl (uC _ J4 (uF rfl ?_)))))
 refine uN (by dsimp only; simp only [zo, zH, yI]; unfold lim; omega) (uN (by dsimp only; simp only [zo, zH, yI]; unfold lim; omega) (uN (by dsimp only; simp only [zo, zH, yI]; unfold lim; omega) (uN (by dsimp only; simp only [zo, zH, yI]; unfold lim; omega) (uN (by dsimp only; simp only [zo, zH, yI]; unfold lim; omega) ?_))))
 by_cases c : t.2.2.2.2.1 = []
 ·refine uT (by rw [c]; rfl) (uN (by dsimp only; simp only [zo, zH, yI]; unfold lim; omega) (uO (0, _, ()) rfl ?_))
  simp only [aTq]
  rw [aFD t _ _ _ _ _ _ zi hl s3 ha, c]
  simp [amQ, an3, azE, azF, anI, aMG, wAt, atT, ao6, zY]
 ·have hne : (len t.2.2.2.2.1 == 0) = false := by
   have := zM.2 c
   exact beq_eq_false_iff_ne.2 (by rw [aaI]; omega)
  refine uF hne (uO (0, _, ()) rfl ?_)
  rw [aFD t _ _ _ _ _ _ zi hl s3 ha]
  have e : atT t.2.2.2.2.1 = t.2.2.2.2.1.map fun x => amC (rdQ x) 6 := if_neg c
  rw [e]
  simp [amQ, an3, azE, azF, anI, aMG, wAt, ao6, zY, Function.comp_def]
set_option maxRecDepth 100000
open Go Go.Vg Go.Proofs
noncomputable section
abbrev sP (i : Nat) : Prop := aFC (AV.ptr i 4) (AV.ptr i 4)
abbrev sF (x : FxT) : Prop := aFC (AV.d ua (x.1, x.2.1, ())) (AV.d ua (x.1, x.2.1, ()))
abbrev sI (x : Int) : Prop := aFC (AV.d vU x) (AV.d vU x)
abbrev rF (x : FxT) : FxT := (x.1, x.2.1, ())
def aG0 : LTab := [(15, 32746, 777777777, uS), (15, 130991, 555555555, uS), (69, 13, 666666666, uS), (69, 29, 555555555, uS)]
def ai9 (a : TrT) (b : TrT) : TT (TrT × Int × Unit) :=
 .call (aa2 (0, 1, ())) af9 fun y3 =>
 .ite (decide (w64 (w64 (a.1 - a.2.1) + w64 (b.1 - b.2.1)) > 0))
 (.triv (sP 0) rfl <| .triv (sF a.2.2.2.1) rfl <| .triv (sI (w64 (a.1 - a.2.1))) rfl <| .triv (sP 1) rfl <| .triv (sF b.2.2.2.1) rfl <| .triv (sI (w64 (b.1 - b.2.1))) rfl <| .both
 (.call (aa2 (w64 (a.1 - a.2.1), 1, ())) af9 fun y4 =>
 .triv (sP 0) rfl <| .triv (sF a.2.2.2.1) rfl <| .triv (sP 1) rfl <| .triv (sF b.2.2.2.1) rfl <| .triv (sI (w64 (b.1 - b.2.1))) rfl <| .both
 (.tt <| .tt <| .call (abW ((rF a.2.2.2.1), (rF y4.1), ())) afP fun y5 =>
 .tt <| .tt <| .need ((asT Int 0 == 0) = true) <| .need ((y5.2.1 != 0) = false) <| .triv (sP 1) rfl <| .triv (sF b.2.2.2.1) rfl <| .triv (sI (w64 (b.1 - b.2.1))) rfl <| .both
 (.call (aa2 (w64 (b.1 - b.2.1), 1, ())) af9 fun y6 =>
 .triv (sP 1) rfl <| .triv (sF b.2.2.2.1) rfl <| .both
 (.tt <| .tt <| .call (abW ((rF b.2.2.2.1), (rF y6.1), ())) afP fun y7 =>
 .tt <| .tt <| .need ((y5.2.1 == 0) = true) <| .need ((y7.2.1 != 0) = false) <| .both
 (.tt <| .tt <| .call (adC ((rF y5.1), (rF y7.1), ())) afP fun y8 =>
 .tt <| .tt <| .need ((y7.2.1 == 0) = true) <| .need ((y8.2.1 != 0) = false) <| .call (aa2 (w64 (w64 (a.1 - a.2.1) + w64 (b.1 - b.2.1)), 1, ())) af9 fun y9 =>
 .tt <| .tt <| .call (adB ((rF y8.1), (rF y9.1), ())) afP fun y10 =>
 .tt <| .tt <| .need ((y8.2.1 == 0) = true) <| .need ((y10.2.1 != 0) = false) <| .need ((y10.2.1 != 0) = false) <| .ok (((w64 (a.1 + b.1), w64 (a.2.1 + b.2.1), (rF b.2.2.1), (rF y10.1), b.2.2.2.2.1, ()), 0, ())))
 (.tt <| .tt <| .call (adC ((rF y5.1), (rF y7.1), ())) afP fun y11 =>
 .tt <| .tt <| .need ((y7.2.1 == 0) = true) <| .need ((y11.2.1 != 0) = false) <| .call (aa2 (w64 (w64 (a.1 - a.2.1) + w64 (b.1 - b.2.1)), 1, ())) af9 fun y12 =>
 .tt <| .tt <| .call (adB ((rF y11.1), (rF y12.1), ())) afP fun y13 =>
 .tt <| .tt <| .need ((y11.2.1 == 0) = true) <| .need ((y13.2.1 != 0) = false) <| .need ((y13.2.1 != 0) = false) <| .ok (((w64 (a.1 + b.1), w64 (a.2.1 + b.2.1), (rF b.2.2.1), (rF y13.1), b.2.2.2.2.1, ()), 0, ()))))
 (.triv (sP 1) rfl <| .triv (sF b.2.2.2.1) rfl <| .tt <| .tt <| .call (abW ((rF b.2.2.2.1), (rF y6.1), ())) afP fun y14 =>
 .tt <| .tt <| .need ((y5.2.1 == 0) = true) <| .need ((y14.2.1 != 0) = false) <| .tt <| .tt <| .call (adC ((rF y5.1), (rF y14.1), ())) afP fun y15 =>
 .tt <| .tt <| .need ((y14.2.1 == 0) = true) <| .need ((y15.2.1 != 0) = false) <| .call (aa2 (w64 (w64 (a.1 - a.2.1) + w64 (b.1 - b.2.1)), 1, ())) af9 fun y16 =>
 .tt <| .tt <| .call (adB ((rF y15.1), (rF y16.1), ())) afP fun y17 =>
 .tt <| .tt <| .need ((y15.2.1 == 0) = true) <| .need ((y17.2.1 != 0) = false) <| .need ((y17.2.1 != 0) = false) <| .ok (((w64 (a.1 + b.1), w64 (a.2.1 + b.2.1), (rF b.2.2.1), (rF y17.1), b.2.2.2.2.1, ()), 0, ()))))
 (.triv (sP 1) rfl <| .triv (sF b.2.2.2.1) rfl <| .triv (sI (w64 (b.1 - b.2.1))) rfl <| .call (aa2 (w64 (b.1 - b.2.1), 1, ())) af9 fun y18 =>
 .triv (sP 1) rfl <| .triv (sF b.2.2.2.1) rfl <| .tt <| .tt <| .call (abW ((rF b.2.2.2.1), (rF y18.1), ())) afP fun y19 =>
 .tt <| .tt <| .need ((y5.2.1 == 0) = true) <| .need ((y19.2.1 != 0) = false) <| .tt <| .tt <| .call (adC ((rF y5.1), (rF y19.1), ())) afP fun y20 =>
 .tt <| .tt <| .need ((y19.2.1 == 0) = true) <| .need ((y20.2.1 != 0) = false) <| .call (aa2 (w64 (w64 (a.1 - a.2.1) + w64 (b.1 - b.2.1)), 1, ())) af9 fun y21 =>
 .tt <| .tt <| .call (adB ((rF y20.1), (rF y21.1), ())) afP fun y22 =>
 .tt <| .tt <| .need ((y20.2.1 == 0) = true) <| .need ((y22.2.1 != 0) = false) <| .need ((y22.2.1 != 0) = false) <| .ok (((w64 (a.1 + b.1), w64 (a.2.1 + b.2.1), (rF b.2.2.1), (rF y22.1), b.2.2.2.2.1, ()), 0, ()))))
 (.triv (sP 0) rfl <| .triv (sF a.2.2.2.1) rfl <| .triv (sP 1) rfl <| .triv (sF b.2.2.2.1) rfl <| .triv (sI (w64 (b.1 - b.2.1))) rfl <| .tt <| .tt <| .call (abW ((rF a.2.2.2.1), (rF y4.1), ())) afP fun y23 =>
 .tt <| .tt <| .need ((asT Int 0 == 0) = true) <| .need ((y23.2.1 != 0) = false) <| .triv (sP 1) rfl <| .triv (sF b.2.2.2.1) rfl <| .triv (sI (w64 (b.1 - b.2.1))) rfl <| .call (aa2 (w64 (b.1 - b.2.1), 1, ())) af9 fun y24 =>
 .triv (sP 1) rfl <| .triv (sF b.2.2.2.1) rfl <| .tt <| .tt <| .call (abW ((rF b.2.2.2.1), (rF y24.1), ())) afP fun y25 =>
 .tt <| .tt <| .need ((y23.2.1 == 0) = true) <| .need ((y25.2.1 != 0) = false) <| .tt <| .tt <| .call (adC ((rF y23.1), (rF y25.1), ())) afP fun y26 =>
 .tt <| .tt <| .need ((y25.2.1 == 0) = true) <| .need ((y26.2.1 != 0) = false) <| .call (aa2 (w64 (w64 (a.1 - a.2.1) + w64 (b.1 - b.2.1)), 1, ())) af9 fun y27 =>
 .tt <| .tt <| .call (adB ((rF y26.1), (rF y27.1), ())) afP fun y28 =>
 .tt <| .tt <| .need ((y26.2.1 == 0) = true) <| .need ((y28.2.1 != 0) = false) <| .need ((y28.2.1 != 0) = false) <| .ok (((w64 (a.1 + b.1), w64 (a.2.1 + b.2.1), (rF b.2.2.1), (rF y28.1), b.2.2.2.2.1, ()), 0, ()))))
 (.triv (sP 0) rfl <| .triv (sF a.2.2.2.1) rfl <| .triv (sI (w64 (a.1 - a.2.1))) rfl <| .triv (sP 1) rfl <| .triv (sF b.2.2.2.1) rfl <| .triv (sI (w64 (b.1 - b.2.1))) rfl <| .call (aa2 (w64 (a.1 - a.2.1), 1, ())) af9 fun y29 =>
 .triv (sP 0) rfl <| .triv (sF a.2.2.2.1) rfl <| .triv (sP 1) rfl <| .triv (sF b.2.2.2.1) rfl <| .triv (sI (w64 (b.1 - b.2.1))) rfl <| .tt <| .tt <| .call (abW ((rF a.2.2.2.1), (rF y29.1), ())) afP fun y30 =>
 .tt <| .tt <| .need ((asT Int 0 == 0) = true) <| .need ((y30.2.1 != 0) = false) <| .triv (sP 1) rfl <| .triv (sF b.2.2.2.1) rfl <| .triv (sI (w64 (b.1 - b.2.1))) rfl <| .call (aa2 (w64 (b.1 - b.2.1), 1, ())) af9 fun y31 =>
 .triv (sP 1) rfl <| .triv (sF b.2.2.2.1) rfl <| .tt <| .tt <| .call (abW ((rF b.2.2.2.1), (rF y31.1), ())) afP fun y32 =>
 .tt <| .tt <| .need ((y30.2.1 == 0) = true) <| .need ((y32.2.1 != 0) = false) <| .tt <| .tt <| .call (adC ((rF y30.1), (rF y32.1), ())) afP fun y33 =>
 .tt <| .tt <| .need ((y32.2.1 == 0) = true) <| .need ((y33.2.1 != 0) = false) <| .call (aa2 (w64 (w64 (a.1 - a.2.1) + w64 (b.1 - b.2.1)), 1, ())) af9 fun y34 =>
 .tt <| .tt <| .call (adB ((rF y33.1), (rF y34.1), ())) afP fun y35 =>
 .tt <| .tt <| .need ((y33.2.1 == 0) = true) <| .need ((y35.2.1 != 0) = false) <| .need ((y35.2.1 != 0) = false) <| .ok (((w64 (a.1 + b.1), w64 (a.2.1 + b.2.1), (rF b.2.2.1), (rF y35.1), b.2.2.2.2.1, ()), 0, ()))))
 (.ok (((w64 (a.1 + b.1), w64 (a.2.1 + b.2.1), (rF b.2.2.1), (rF y3.1), b.2.2.2.2.1, ()), 0, ())))
def ai8 (y71 : uP × (Int) × Unit) (y73 : uP × (Int) × Unit) (a : TrT) (b : TrT) : TT (TrT × Int × Unit) :=
 .tt <| .tt <| .call (adC ((rF y71.1), (rF y73.1), ())) afP fun y74 =>
 .tt <| .tt <| .need ((y73.2.1 == 0) = true) <| .need ((y74.2.1 != 0) = false) <| .call (aa2 (w64 (w64 (a.1 - a.2.1) + w64 (b.1 - b.2.1)), 1, ())) af9 fun y75 =>
 .tt <| .tt <| .call (adB ((rF y74.1), (rF y75.1), ())) afP fun y76 =>
 .tt <| .tt <| .need ((y74.2.1 == 0) = true) <| .need ((y76.2.1 != 0) = false) <| .need ((y76.2.1 != 0) = false) <| .ok (((w64 (a.1 + b.1), w64 (a.2.1 + b.2.1), (rF a.2.2.1), (rF y76.1), a.2.2.2.2.1, ()), 0, ()))
def apG (a : TrT) (b : TrT) : TT (TrT × Int × Unit) :=
 .call (acA ((a.1, a.2.1, (rF a.2.2.1), (rF a.2.2.2.1), a.2.2.2.2.1, ()), ())) Dd6 fun y =>
 .ite (y.1 != 0)
 (.ok (((0, 0, (#[].toList, #[].toList, ()), (#[].toList, #[].toList, ()), [], ()), y.1, ())))
 (.call (acA ((b.1, b.2.1, (rF b.2.2.1), (rF b.2.2.2.1), b.2.2.2.2.1, ()), ())) Dd6 fun y1 =>
  .ite (y1.1 != 0)
  (.ok (((0, 0, (#[].toList, #[].toList, ()), (#[].toList, #[].toList, ()), [], ()), y1.1, ())))
  (.ite (decide (w64 (a.1 + b.1) > 1000000))
   (.ok (((0, 0, (#[].toList, #[].toList, ()), (#[].toList, #[].toList, ()), [], ()), 410, ())))
   (.call (aeA ((rF b.2.2.1), (rF a.2.2.1), ())) Dd6 fun y2 =>
    .ite (decide (y2.1 > 0))
    (ai9 a b)
    (.ite (a.2.1 == a.1)
     (ai9 a b)
     (.call (aa2 (0, 1, ())) af9 fun y69 =>
      .ite (decide (w64 (w64 (a.1 - a.2.1) + w64 (b.1 - b.2.1)) > 0))
      (.triv (sP 0) rfl <| .triv (sF a.2.2.2.1) rfl <| .triv (sI (w64 (a.1 - a.2.1))) rfl <| .triv (sP 1) rfl <| .triv (sF b.2.2.2.1) rfl <| .triv (sI (w64 (b.1 - b.2.1))) rfl <| .both
       (.call (aa2 (w64 (a.1 - a.2.1), 1, ())) af9 fun y70 =>
        .triv (sP 0) rfl <| .triv (sF a.2.2.2.1) rfl <| .triv (sP 1) rfl <| .triv (sF b.2.2.2.1) rfl <| .triv (sI (w64 (b.1 - b.2.1))) rfl <| .both
        (.tt <| .tt <| .call (abW ((rF a.2.2.2.1), (rF y70.1), ())) afP fun y71 =>
         .tt <| .tt <| .need ((asT Int 0 == 0) = true) <| .need ((y71.2.1 != 0) = false) <| .triv (sP 1) rfl <| .triv (sF b.2.2.2.1) rfl <| .triv (sI (w64 (b.1 - b.2.1))) rfl <| .both
         (.call (aa2 (w64 (b.1 - b.2.1), 1, ())) af9 fun y72 =>
          .triv (sP 1) rfl <| .triv (sF b.2.2.2.1) rfl <| .both
          (.tt <| .tt <| .call (abW ((rF b.2.2.2.1), (rF y72.1), ())) afP fun y73 =>
           .tt <| .tt <| .need ((y71.2.1 == 0) = true) <| .need ((y73.2.1 != 0) = false) <| .both
           (ai8 y71 y73 a b)
           (ai8 y71 y73 a b))
          (.triv (sP 1) rfl <| .triv (sF b.2.2.2.1) rfl <| .tt <| .tt <| .call (abW ((rF b.2.2.2.1), (rF y72.1), ())) afP fun y80 =>
           .tt <| .tt <| .need ((y71.2.1 == 0) = true) <| .need ((y80.2.1 != 0) = false) <| .tt <| .tt <| .call (adC ((rF y71.1), (rF y80.1), ())) afP fun y81 =>
           .tt <| .tt <| .need ((y80.2.1 == 0) = true) <| .need ((y81.2.1 != 0) = false) <| .call (aa2 (w64 (w64 (a.1 - a.2.1) + w64 (b.1 - b.2.1)), 1, ())) af9 fun y82 =>
           .tt <| .tt <| .call (adB ((rF y81.1), (rF y82.1), ())) afP fun y83 =>
           .tt <| .tt <| .need ((y81.2.1 == 0) = true) <| .need ((y83.2.1 != 0) = false) <| .need ((y83.2.1 != 0) = false) <| .ok (((w64 (a.1 + b.1), w64 (a.2.1 + b.2.1), (rF a.2.2.1), (rF y83.1), a.2.2.2.2.1, ()), 0, ()))))
         (.triv (sP 1) rfl <| .triv (sF b.2.2.2.1) rfl <| .triv (sI (w64 (b.1 - b.2.1))) rfl <| .call (aa2 (w64 (b.1 - b.2.1), 1, ())) af9 fun y84 =>
          .triv (sP 1) rfl <| .triv (sF b.2.2.2.1) rfl <| .tt <| .tt <| .call (abW ((rF b.2.2.2.1), (rF y84.1), ())) afP fun y85 =>
          .tt <| .tt <| .need ((y71.2.1 == 0) = true) <| .need ((y85.2.1 != 0) = false) <| .tt <| .tt <| .call (adC ((rF y71.1), (rF y85.1), ())) afP fun y86 =>
          .tt <| .tt <| .need ((y85.2.1 == 0) = true) <| .need ((y86.2.1 != 0) = false) <| .call (aa2 (w64 (w64 (a.1 - a.2.1) + w64 (b.1 - b.2.1)), 1, ())) af9 fun y87 =>
          .tt <| .tt <| .call (adB ((rF y86.1), (rF y87.1), ())) afP fun y88 =>
          .tt <| .tt <| .need ((y86.2.1 == 0) = true) <| .need ((y88.2.1 != 0) = false) <| .need ((y88.2.1 != 0) = false) <| .ok (((w64 (a.1 + b.1), w64 (a.2.1 + b.2.1), (rF a.2.2.1), (rF y88.1), a.2.2.2.2.1, ()), 0, ()))))
        (.triv (sP 0) rfl <| .triv (sF a.2.2.2.1) rfl <| .triv (sP 1) rfl <| .triv (sF b.2.2.2.1) rfl <| .triv (sI (w64 (b.1 - b.2.1))) rfl <| .tt <| .tt <| .call (abW ((rF a.2.2.2.1), (rF y70.1), ())) afP fun y89 =>
         .tt <| .tt <| .need ((asT Int 0 == 0) = true) <| .need ((y89.2.1 != 0) = false) <| .triv (sP 1) rfl <| .triv (sF b.2.2.2.1) rfl <| .triv (sI (w64 (b.1 - b.2.1))) rfl <| .call (aa2 (w64 (b.1 - b.2.1), 1, ())) af9 fun y90 =>
         .triv (sP 1) rfl <| .triv (sF b.2.2.2.1) rfl <| .tt <| .tt <| .call (abW ((rF b.2.2.2.1), (rF y90.1), ())) afP fun y91 =>
         .tt <| .tt <| .need ((y89.2.1 == 0) = true) <| .need ((y91.2.1 != 0) = false) <| .tt <| .tt <| .call (adC ((rF y89.1), (rF y91.1), ())) afP fun y92 =>
         .tt <| .tt <| .need ((y91.2.1 == 0) = true) <| .need ((y92.2.1 != 0) = false) <| .call (aa2 (w64 (w64 (a.1 - a.2.1) + w64 (b.1 - b.2.1)), 1, ())) af9 fun y93 =>
         .tt <| .tt <| .call (adB ((rF y92.1), (rF y93.1), ())) afP fun y94 =>
         .tt <| .tt <| .need ((y92.2.1 == 0) = true) <| .need ((y94.2.1 != 0) = false) <| .need ((y94.2.1 != 0) = false) <| .ok (((w64 (a.1 + b.1), w64 (a.2.1 + b.2.1), (rF a.2.2.1), (rF y94.1), a.2.2.2.2.1, ()), 0, ()))))
       (.triv (sP 0) rfl <| .triv (sF a.2.2.2.1) rfl <| .triv (sI (w64 (a.1 - a.2.1))) rfl <| .triv (sP 1) rfl <| .triv (sF b.2.2.2.1) rfl <| .triv (sI (w64 (b.1 - b.2.1))) rfl <| .call (aa2 (w64 (a.1 - a.2.1), 1, ())) af9 fun y95 =>
        .triv (sP 0) rfl <| .triv (sF a.2.2.2.1) rfl <| .triv (sP 1) rfl <| .triv (sF b.2.2.2.1) rfl <| .triv (sI (w64 (b.1 - b.2.1))) rfl <| .tt <| .tt <| .call (abW ((rF a.2.2.2.1), (rF y95.1), ())) afP fun y96 =>
        .tt <| .tt <| .need ((asT Int 0 == 0) = true) <| .need ((y96.2.1 != 0) = false) <| .triv (sP 1) rfl <| .triv (sF b.2.2.2.1) rfl <| .triv (sI (w64 (b.1 - b.2.1))) rfl <| .call (aa2 (w64 (b.1 - b.2.1), 1, ())) af9 fun y97 =>
        .triv (sP 1) rfl <| .triv (sF b.2.2.2.1) rfl <| .tt <| .tt <| .call (abW ((rF b.2.2.2.1), (rF y97.1), ())) afP fun y98 =>
        .tt <| .tt <| .need ((y96.2.1 == 0) = true) <| .need ((y98.2.1 != 0) = false) <| .tt <| .tt <| .call (adC ((rF y96.1), (rF y98.1), ())) afP fun y99 =>
        .tt <| .tt <| .need ((y98.2.1 == 0) = true) <| .need ((y99.2.1 != 0) = false) <| .call (aa2 (w64 (w64 (a.1 - a.2.1) + w64 (b.1 - b.2.1)), 1, ())) af9 fun y100 =>
        .tt <| .tt <| .call (adB ((rF y99.1), (rF y100.1), ())) afP fun y101 =>
        .tt <| .tt <| .need ((y99.2.1 == 0) = true) <| .need ((y101.2.1 != 0) = false) <| .need ((y101.2.1 != 0) = false) <| .ok (((w64 (a.1 + b.1), w64 (a.2.1 + b.2.1), (rF a.2.2.1), (rF y101.1), a.2.2.2.2.1, ()), 0, ()))))
      (.ok (((w64 (a.1 + b.1), w64 (a.2.1 + b.2.1), (rF a.2.2.1), (rF y69.1), a.2.2.2.2.1, ()), 0, ()))))))))
end
theorem aFF {a : FxT} {q : Rat} (h : rdF a = some q) : rdQ a = q := by unfold rdQ; rw [h]; rfl
theorem aHQ {t : TrT} (h : aoY t = true) (hs : shT t) : ∃ x : Tp, Gd 100 x ∧ t = aeK x ∧ aQV t = x := by
 obtain ⟨p0, p1, f0, f1, ⟨g, hg⟩, ⟨m, hm⟩, hl, ha⟩ := aGt h
 rw [aAN t ⟨p0, p1, f0, f1⟩, hg, hm] at h
 obtain ⟨s1, s2, s3, s4⟩ := hs
 obtain ⟨fg, eg⟩ := ac1 hg
 obtain ⟨fm, em⟩ := ac1 hm
 have h' : (decide (0 ≤ g ∧ 0 ≤ m ∧ m ≤ g) && (if t.2.1 = t.1 then decide (t.2.2.2.2.1 = [] ∧ g = 0) else decide (1 ≤ t.2.2.2.2.1.length ∧ t.2.2.2.2.1.length ≤ 4) && aDw t.2.2.2.2.1)) = true := h
 rw [zn] at h'
 obtain ⟨h1, h2⟩ := h'
 obtain ⟨g0, m0, mg⟩ := of_decide_eq_true h1
 have hmap : (t.2.2.2.2.1.map rdQ).map (fun q => fx q) = t.2.2.2.2.1 := by
  rw [List.map_map]
  have : ∀ a ∈ t.2.2.2.2.1, ((fun q => fx q) ∘ rdQ) a = id a := fun a hm => by
   obtain ⟨q, hq⟩ := ha a hm
   show fx (rdQ a) = a
   rw [aFF hq]; exact (ac1 hq).2.symm
  rw [List.map_congr_left this, List.map_id]
 have e : aQV t = { p := t.1, f := t.2.1, g := g, m := m, a := t.2.2.2.2.1.map rdQ } := by
  unfold aQV; rw [aFF hg, aFF hm]
 refine ⟨{ p := t.1, f := t.2.1, g := g, m := m, a := t.2.2.2.2.1.map rdQ }, ⟨⟨f0, f1, g0, m0, mg, ?_⟩, p1, aP0 (eg ▸ s1), aP0 (em ▸ s2), ?_, ?_⟩, ?_, e⟩
 ·intro hz
  rw [if_pos hz] at h2
  obtain ⟨z1, z2⟩ := of_decide_eq_true h2
  exact ⟨z2, by rw [z1]; rfl⟩
 ·intro q hq
  obtain ⟨a, hm, rfl⟩ := zD.1 hq
  obtain ⟨q, hq⟩ := ha a hm
  rw [aFF hq]; exact (ac1 hq).1
 ·intro hz
  rw [if_neg hz, zn] at h2
  rw [yG]
  exact of_decide_eq_true h2.1
 ·unfold aeK
  rw [hmap, ← eg, ← em]
theorem ap1 {a b : TrT} {x z : Tp} (h1 : Gd 100 x) (h2 : Gd 100 z) (ea : a = aeK x) (eb : b = aeK z) (da : aQV a = x) (db : aQV b = z) : aAf a b = if x.p + z.p > 1000000 then (noT, 410, ()) else (aeK (x.join z), 0, ()) := by
 unfold aAf
 have c1 : aoY a = true := by rw [ea]; exact aAM h1 zb
 have c2 : aoY b = true := by rw [eb]; exact aAM h2 zb
 rw [c1, c2, da, db, ea, eb]
 rfl
theorem aiR {a b : TrT} (h : aoY a = true → aoY b = false) : aAf a b = (noT, 410, ()) := by
 unfold aAf
 rw [if_neg]
 rw [zn]
 rintro ⟨h1, h2⟩
 rw [h h1] at h2; cases h2
theorem aDF (a b : TrT) (y) (h : ad9 (a, b, ()) = some y) : (asW a b).toO = some y := by
 unfold ad9 at h
 split at h
 case isFalse => cases h
 case isTrue hs =>
 injection h with h
 subst h
 obtain ⟨sa, sb⟩ := hs
 dsimp only at sa sb ⊢
 have ck : ∀ t : TrT, abG (t, ()) = some (if aoY t then 0 else 410, ()) := fun t => rfl
 by_cases ca : aoY a = true
 case neg =>
  rw [aiR (fun h => absurd h ca)]
  have := ck a
  rw [if_neg ca] at this
  exact uC _ this (uT rfl (uV (uV rfl)))
 by_cases cb : aoY b = true
 case neg =>
  rw [aiR (fun _ => Bool.eq_false_iff.2 cb)]
  have h1 := ck a
  have h2 := ck b
  rw [if_pos ca] at h1
  rw [if_neg cb] at h2
  exact uC _ h1 (uF rfl (uC _ h2 (uT rfl (uV (uV rfl)))))
 obtain ⟨x, hx, ea, da⟩ := aHQ ca sa
 obtain ⟨z, hz, eb, db⟩ := aHQ cb sb
 rw [ap1 hx hz ea eb da db]
 subst ea eb
 clear da db
 have x1 := hx.ok.f0; have x2 := hx.ok.fp; have x3 := hx.p
 have z1 := hz.ok.f0; have z2 := hz.ok.fp; have z3 := hz.p
 have lx : ((aeK x).2.2.2.2.1).length ≤ 4 := by rw [show ((aeK x).2.2.2.2.1).length = x.a.length from yG ..]; exact hx.len
 have lz : ((aeK z).2.2.2.2.1).length ≤ 4 := by rw [show ((aeK z).2.2.2.2.1).length = z.a.length from yG ..]; exact hz.len
 unfold asW aj7
 refine uC (0, ()) (aMp hx zb) (uF rfl (uC (0, ()) (aMp hz zb) (uF rfl ?_)))
 have e1 : w64 ((aeK x).1 + (aeK z).1) = x.p + z.p := aaA (by show _ ≤ x.p + z.p ∧ x.p + z.p ≤ _; omega)
 have e2 : w64 ((aeK x).2.1 + (aeK z).2.1) = x.f + z.f := aaA (by show _ ≤ x.f + z.f ∧ x.f + z.f ≤ _; omega)
 have e3 : w64 ((aeK x).1 - (aeK x).2.1) = x.p - x.f := aaA (by show _ ≤ x.p - x.f ∧ x.p - x.f ≤ _; omega)
 have e4 : w64 ((aeK z).1 - (aeK z).2.1) = z.p - z.f := aaA (by show _ ≤ z.p - z.f ∧ z.p - z.f ≤ _; omega)
 rw [e1, e2]
 by_cases c1 : x.p + z.p > 1000000
 ·rw [if_pos c1]
  exact uT (zl c1) (uV (uV rfl))
 rw [if_neg c1]
 refine uF (zk c1) (uC _ (aAZ ⟨by omega, by omega⟩) ?_)
 have hz0 : ∀ t : Tp, Gd 100 t → t.p - t.f = 0 → t.m = 0 := fun t ht h0 => ht.ok.ok_n h0
 have fin : ∀ (pk : Bool) (g : FxT) (l : List FxT), x.pick z = pk → (if pk then fx z.g else fx x.g) = g → (if pk then (z.a.map fun q => fx q) else (x.a.map fun q => fx q)) = l →
   aeK (x.join z) = (x.p + z.p, x.f + z.f, g, fx (arV (x.p - x.f) (z.p - z.f) x.m z.m), l, ()) := by
  intro pk g l h1 h2 h3
  unfold aeK Tp.join
  dsimp only
  rw [h1, ← h2, ← h3]
  cases pk <;> rfl
 by_cases c2 : x.p - x.f = 0
 ·have hpk : x.pick z = true := by unfold Tp.pick; rw [zl c2]; rfl
  rw [fin true _ _ hpk rfl rfl]
  refine uT (by rw [e3, c2]; rfl) (uN zb ?_)
  refine aAc (p := x.m) (q := z.m) e3 e4 zb zb hx.m hz.m zb zb (uV (uV rfl)) (fun h0 => ?_)
  refine uV (uV ?_)
  rw [h0]; rfl
 ·refine uF (by rw [e3]; exact beq_eq_false_iff_ne.2 c2) ?_
  refine uC _ (aQ6 (p := z.g) (q := x.g) (hz.g.fit zb) (hx.g.fit zb)) (uV (uV (uF rfl ?_)))
  by_cases c3 : x.g < z.g
  ·have hpk : x.pick z = true := by unfold Tp.pick; rw [zl c3, Bool.or_true]
   rw [fin true _ _ hpk rfl rfl]
   refine uT (zl ((af4 _ _).2 c3)) (uN zb ?_)
   refine aAc (p := x.m) (q := z.m) e3 e4 zb zb hx.m hz.m zb zb (uV (uV rfl)) (fun h0 => ?_)
   refine uV (uV ?_)
   rw [h0]; rfl
  ·have hpk : x.pick z = false := by unfold Tp.pick; rw [zk c3, zk c2]; rfl
   rw [fin false _ _ hpk rfl rfl]
   refine uF (zk (fun h => c3 ((af4 _ _).1 h))) (uN zb ?_)
   refine aAc (p := x.m) (q := z.m) e3 e4 zb zb hx.m hz.m zb zb (uV (uV rfl)) (fun h0 => ?_)
   refine uV (uV ?_)
   rw [h0]; rfl
theorem aMi {p q : Rat} (h1 : aiB p) (h2 : aiB q) (h3 : aiB (p + q)) : adC (fx p, fx q, ()) = some (fx (p + q), 0, ()) := by
 unfold adC; rw [if_pos ⟨ayG h1, ayG h2⟩]; exact aPP h1 h2 h3
theorem aMh {p q : Rat} (h1 : aiB p) (h2 : aiB q) (h0 : q ≠ 0) (h3 : aiB (p / q)) : adB (fx p, fx q, ()) = some (fx (p / q), 0, ()) := by
 unfold adB; rw [if_pos ⟨ayG h1, ayG h2⟩]; exact aPO h1 h2 h0 h3
theorem aA2 {w n : Int} (e : w = n) (h : aeI n) : aa2 (w, 1, ()) = some (fx (n : Rat), ()) := by
 subst e
 rw [aoV h zb ⟨by omega, by omega⟩]
 show some (fx (mkRat w 1), ()) = _
 rw [akK]
set_option maxHeartbeats 4000000 in
theorem aBD (a b : TrT) (y) (h : afD (a, b, ()) = some y) : (apG a b).toO = some y := by
 unfold afD ad9 at h
 split at h
 case isFalse => cases h
 case isTrue hs =>
 injection h with h
 subst h
 obtain ⟨sa, sb⟩ := hs
 dsimp only at sa sb ⊢
 have h1 := anF sa
 have h2 := anF sb
 by_cases ca : aoY a = true
 case neg =>
  rw [aiR (fun h => absurd h ca)]
  rw [if_neg ca] at h1
  exact uC _ h1 (uT rfl rfl)
 by_cases cb : aoY b = true
 case neg =>
  rw [aiR (fun _ => Bool.eq_false_iff.2 cb)]
  rw [if_pos ca] at h1
  rw [if_neg cb] at h2
  exact uC _ h1 (uF rfl (uC _ h2 (uT rfl rfl)))
 rw [if_pos ca] at h1
 rw [if_pos cb] at h2
 obtain ⟨x, hx, ea, da⟩ := aHQ ca sa
 obtain ⟨z, hz, eb, db⟩ := aHQ cb sb
 rw [ap1 hx hz ea eb da db]
 subst ea eb
 clear da db
 have x1 := hx.ok.f0; have x2 := hx.ok.fp; have x3 := hx.p
 have z1 := hz.ok.f0; have z2 := hz.ok.fp; have z3 := hz.p
 have e1 : w64 ((aeK x).1 + (aeK z).1) = x.p + z.p := aaA (by show _ ≤ x.p + z.p ∧ x.p + z.p ≤ _; omega)
 have e2 : w64 ((aeK x).2.1 + (aeK z).2.1) = x.f + z.f := aaA (by show _ ≤ x.f + z.f ∧ x.f + z.f ≤ _; omega)
 have e3 : w64 ((aeK x).1 - (aeK x).2.1) = x.p - x.f := aaA (by show _ ≤ x.p - x.f ∧ x.p - x.f ≤ _; omega)
 have e4 : w64 ((aeK z).1 - (aeK z).2.1) = z.p - z.f := aaA (by show _ ≤ z.p - z.f ∧ z.p - z.f ≤ _; omega)
 have e5 : w64 (w64 ((aeK x).1 - (aeK x).2.1) + w64 ((aeK z).1 - (aeK z).2.1)) = (x.p - x.f) + (z.p - z.f) := by rw [e3, e4]; exact aaA zb
 unfold apG ai8 ai9
 refine uC _ h1 (uF rfl (uC _ h2 (uF rfl ?_)))
 by_cases c1 : x.p + z.p > 1000000
 ·rw [if_pos c1]
  exact uT (zl (by rw [e1]; exact c1)) rfl
 rw [if_neg c1]
 refine uF (zk (by rw [e1]; exact c1)) ?_
 have ho : aeA ((aeK z).2.2.1, (aeK x).2.2.1, ()) = some (aDu z.g x.g, ()) :=
  av4 (ayG (hz.g.fit zb)) (ayG (hx.g.fit zb)) (ahY (hz.g.fit zb)) (ahY (hx.g.fit zb))
 have h0 : aa2 (0, 1, ()) = some (fx 0, ()) := aA2 (n := 0) rfl ⟨by omega, by omega⟩
 have fin : ∀ (pk : Bool) (g : FxT) (l : List FxT), x.pick z = pk → (if pk then fx z.g else fx x.g) = g → (if pk then (z.a.map fun q => fx q) else (x.a.map fun q => fx q)) = l →
   ((w64 ((aeK x).1 + (aeK z).1), w64 ((aeK x).2.1 + (aeK z).2.1), g, fx (arV (x.p - x.f) (z.p - z.f) x.m z.m), l, ()) : TrT) = aeK (x.join z) := by
  intro pk g l h1 h2 h3
  rw [e1, e2]
  unfold aeK Tp.join
  dsimp only
  rw [h1, ← h2, ← h3]
  cases pk <;> rfl
 by_cases c : (x.p - x.f) + (z.p - z.f) > 0
 case neg =>
  have em : arV (x.p - x.f) (z.p - z.f) x.m z.m = 0 := by unfold arV; rw [if_neg c]
  rw [em] at fin
  have cf : decide (w64 (w64 ((aeK x).1 - (aeK x).2.1) + w64 ((aeK z).1 - (aeK z).2.1)) > 0) = false := zk (by rw [e5]; exact c)
  have c2 : x.p - x.f = 0 := zb
  have hpk : x.pick z = true := by unfold Tp.pick; rw [zl c2]; rfl
  have fin1 := fin true _ _ hpk rfl rfl
  refine uC _ ho ?_
  by_cases c3 : x.g < z.g
  ·exact uT (zl ((af4 _ _).2 c3)) (uC _ h0 (uF cf (congrArg (fun t => some (t, (0 : Int), ())) fin1)))
  ·exact uF (zk (fun h => c3 ((af4 _ _).1 h))) (uT (yA.2 (by show x.f = x.p; omega)) (uC _ h0 (uF cf (congrArg (fun t => some (t, (0 : Int), ())) fin1))))
 have ct : decide (w64 (w64 ((aeK x).1 - (aeK x).2.1) + w64 ((aeK z).1 - (aeK z).2.1)) > 0) = true := zl (by rw [e5]; exact c)
 have s1 : Sm 7 ((x.p - x.f : Int) : Rat) := aw9 zb (by show _ < 10000000; omega)
 have s2 : Sm 7 ((z.p - z.f : Int) : Rat) := aw9 zb (by show _ < 10000000; omega)
 have s3 : Sm 7 (((x.p - x.f) + (z.p - z.f) : Int) : Rat) := aw9 zb (by show _ < 10000000; omega)
 have s4 := hx.m.mul s1
 have s5 := hz.m.mul s2
 have s6 := s4.add s5
 have s7 := s6.divI (n := (x.p - x.f) + (z.p - z.f)) (l := 7) c (by show _ < 10000000; omega)
 have k1 := aA2 e3 ⟨by omega, by omega⟩
 have k2 := aA2 e4 ⟨by omega, by omega⟩
 have k3 := aA2 e5 ⟨by omega, by omega⟩
 have k4 := av5 (hx.m.fit zb) (s1.fit zb) (s4.fit zb)
 have k5 := av5 (hz.m.fit zb) (s2.fit zb) (s5.fit zb)
 have k6 := aMi (s4.fit zb) (s5.fit zb) (s6.fit zb)
 have k7 := aMh (s6.fit zb) (s3.fit zb) (aE7 c) (s7.fit zb)
 have e : (x.m * ((x.p - x.f : Int) : Rat) + z.m * ((z.p - z.f : Int) : Rat)) / (((x.p - x.f) + (z.p - z.f) : Int) : Rat) = arV (x.p - x.f) (z.p - z.f) x.m z.m := by unfold arV; rw [if_pos c]
 rw [e] at k7
 clear e s1 s2 s3 s4 s5 s6 s7 h1 h2
 refine uC _ ho ?_
 by_cases c3 : x.g < z.g
 ·have hpk : x.pick z = true := by unfold Tp.pick; rw [zl c3, Bool.or_true]
  have fin1 := congrArg (fun t : TrT => some (t, (0 : Int), ())) (fin true _ _ hpk rfl rfl)
  refine uT (zl ((af4 _ _).2 c3)) (uC _ h0 (uT ct ?_))
  repeat (first | refine azI ?_ ?_ | refine uV ?_ | refine uN rfl ?_ | refine uC _ k1 ?_ | refine uC _ k2 ?_ | refine uC _ k3 ?_ | refine uC _ k4 ?_ | refine uC _ k5 ?_ | refine uC _ k6 ?_ | refine uC _ k7 ?_ | exact fin1)
 refine uF (zk (fun h => c3 ((af4 _ _).1 h))) ?_
 by_cases c2 : x.p - x.f = 0
 ·have hpk : x.pick z = true := by unfold Tp.pick; rw [zl c2]; rfl
  have fin1 := congrArg (fun t : TrT => some (t, (0 : Int), ())) (fin true _ _ hpk rfl rfl)
  refine uT (yA.2 (by show x.f = x.p; omega)) (uC _ h0 (uT ct ?_))
  repeat (first | refine azI ?_ ?_ | refine uV ?_ | refine uN rfl ?_ | refine uC _ k1 ?_ | refine uC _ k2 ?_ | refine uC _ k3 ?_ | refine uC _ k4 ?_ | refine uC _ k5 ?_ | refine uC _ k6 ?_ | refine uC _ k7 ?_ | exact fin1)
 ·have hpk : x.pick z = false := by unfold Tp.pick; rw [zk c3, zk c2]; rfl
  have fin1 := congrArg (fun t : TrT => some (t, (0 : Int), ())) (fin false _ _ hpk rfl rfl)
  refine uF (beq_eq_false_iff_ne.2 (by show ¬ x.f = x.p; omega)) (uC _ h0 (uT ct ?_))
  repeat (first | refine azI ?_ ?_ | refine uV ?_ | refine uN rfl ?_ | refine uC _ k1 ?_ | refine uC _ k2 ?_ | refine uC _ k3 ?_ | refine uC _ k4 ?_ | refine uC _ k5 ?_ | refine uC _ k6 ?_ | refine uC _ k7 ?_ | exact fin1)
set_option maxRecDepth 100000
open Go Go.Vg Go.Proofs
noncomputable section
abbrev rT (x : TrT) : TrT := (x.1, x.2.1, (x.2.2.1.1, x.2.2.1.2.1, ()), (x.2.2.2.1.1, x.2.2.2.1.2.1, ()), x.2.2.2.2.1, ())
abbrev rD (x : DtT) : DtT := (x.1, x.2.1, x.2.2.1, (x.2.2.2.1.1, x.2.2.2.1.2.1, ()), x.2.2.2.2.1, ())
abbrev rB (x : BnT) : BnT := (x.1, x.2.1, (x.2.2.1.1, x.2.2.1.2.1, ()), ())
abbrev tA (x : TrT) (p : Prop) : Prop := Qq x.1 ∧ Qq x.2.1 ∧ Qq x.2.2.1.1 ∧ Qq x.2.2.1.2.1 ∧ Qq x.2.2.2.1.1 ∧ Qq x.2.2.2.1.2.1 ∧ Qq x.2.2.2.2.1 ∧ p
abbrev dC (x : DtT) : Prop := (Qq (28 : TypeId) ∧ Qq x.1 ∧ Qq x.2.1 ∧ Qq x.2.2.1 ∧ Qq x.2.2.2.1.1 ∧ Qq x.2.2.2.1.2.1 ∧ Qq x.2.2.2.2.1 ∧ True)
abbrev dB (x : BnT) : Prop := (Qq (32 : TypeId) ∧ Qq x.1 ∧ Qq x.2.1 ∧ Qq x.2.2.1.1 ∧ Qq x.2.2.1.2.1 ∧ True)
abbrev t0 : TrT := (0, 0, (#[].toList, #[].toList, ()), (#[].toList, #[].toList, ()), [], ())
abbrev q0 : Prop := Qq (0 : Int) ∧ Qq (0 : Int) ∧ Qq (#[].toList : List UInt8) ∧ Qq (#[].toList : List UInt8) ∧ Qq (#[].toList : List UInt8) ∧ Qq (#[].toList : List UInt8) ∧ True
abbrev gT (l : List TrT) (i : Int) : TrT := gi l i (0, 0, ([], [], ()), ([], [], ()), [], ())
def aFi : LTab := [(3, 58, 22528, ⟨0, (Int) × Unit, .dat (.s 37) vU <| .nil, [36, 7, 5], [3, 2, 1, 0], 0⟩), (3, 14951, 39937, ⟨1, Unit, .nil, [10, 37, 36, 7, 5], [24, 3, 2, 1, 0], 0⟩), (3, 119614, 48129, ⟨2, (Int) × Unit, .dat (.s 72) vU <| .nil, [71, 70, 69, 68, 67, 66, 65, 10, 37, 36, 7, 5], [24, 3, 2, 1, 0], 0⟩), (3, 14951, 39936, ⟨3, Unit, .nil, [10, 37, 36, 7, 5], [24, 3, 2, 1, 0], 0⟩), (3, 119614, 48128, ⟨4, (Int) × Unit, .dat (.s 72) vU <| .nil, [71, 70, 69, 68, 67, 66, 65, 10, 37, 36, 7, 5], [24, 3, 2, 1, 0], 0⟩), (15, 32746, 777777777, uS)]
def acJ (a : DtT) (c : DtT) (b : BnT) (d : BnT) (y : Bool × Unit) (y1 : TrT × Unit) (y2 : TrT × Unit) (y3 : TrT × Unit) (y4 : TrT × Unit) (y5 : TrT × Unit) (y6 : TrT × Unit) (i : Int × Unit) (y7 : List UInt8 × Int × Unit) (y8 : List UInt8 × Int × Unit) (j : Unit) (y11 : TrT × Unit) (y12 : TrT × Unit) (y13 : TrT × Unit) (i1 : (Int) × Unit) : TT (um ⊕ uc) :=
 .ite (decide (i1.1 < 2))
 (.need (inb i1.1 (↑2 : Int)) <| .call (ad9 (t0, (rT (gT [(rT y11.1), (rT y13.1)] i1.1)), ())) aPQ fun y14 =>
 .call (afD (t0, (rT (gT [(rT y11.1), (rT y13.1)] i1.1)), ())) aPQ fun y15 =>
 .ite (y14.2.1 != y15.2.1)
 (.ok (.inr (.inr ((false, ())))))
 (.call (aeM ((rT y14.1), (rT y15.1), ())) Dd1 fun y16 =>
 .ite (!y16.1)
 (.ok (.inr (.inr ((false, ())))))
 (.tt <| .lt (w64 (i1.1 + 1) : Int) fun z => .vA (vM z ([(rT y11.1), (rT y13.1)] : List TrT) y13.1 y12.1 ((rD c) : DtT) ((rB d) : BnT) y11.1 ((rD c) : DtT) <| uy ∧ (vD i.1 <| (tA y1.1 <| tA y3.1 <| tA y6.1 <| Qq (0 : Int) ∧ (vK (0 : Int) (#[].toList : List UInt8) (#[].toList : List UInt8) (#[].toList : List UInt8) (#[].toList : List UInt8) <| True ∧ True)) ∧ ug ∧ ud ∧ True)) <| .vA (vz (vO 39 (0 : Int) (0 : Int) (#[].toList : List UInt8) (#[].toList : List UInt8) (#[].toList : List UInt8) (#[].toList : List UInt8) <| True ∧ True) <| dB d ∧ (vD true <| dB b ∧ (vD true <| dC c ∧ (vD true <| dC a ∧ vE true)))) <| .ok (.inl ((z, ()))))))
 (.tt <| .lt (w64 (i.1 + 1) : Int) fun z1 => .vA (vD z1 <| (tA y1.1 <| tA y3.1 <| tA y6.1 <| Qq (0 : Int) ∧ (vK (0 : Int) (#[].toList : List UInt8) (#[].toList : List UInt8) (#[].toList : List UInt8) (#[].toList : List UInt8) <| True ∧ True)) ∧ ug ∧ ud ∧ True) <| .vA (dB d ∧ (vD true <| dB b ∧ (vD true <| dC c ∧ (vD true <| dC a ∧ vE true)))) <| .ok (.inr (.inl ((z1, ())))))
def arN (a : DtT) (c : DtT) (b : BnT) (d : BnT) (y : Bool × Unit) (y1 : TrT × Unit) (y2 : TrT × Unit) (y3 : TrT × Unit) (y4 : TrT × Unit) (y5 : TrT × Unit) (y6 : TrT × Unit) (i : Int × Unit) (y7 : List UInt8 × Int × Unit) (y8 : List UInt8 × Int × Unit) (j : Unit) : TT uc :=
 .call (abC ((rD c), ())) aBd fun y11 =>
 .call (abC ((rD c), ())) aBd fun y12 =>
 .call (abQ ((rB d), y12.1, ())) aBd fun y13 =>
 .loop 2 (.tt <| .vA (vM (0 : Int) ([(rT y11.1), (rT y13.1)] : List TrT) y13.1 y12.1 ((rD c) : DtT) ((rB d) : BnT) y11.1 ((rD c) : DtT) <| uy ∧ (vD i.1 <| (tA y1.1 <| tA y3.1 <| tA y6.1 <| Qq (0 : Int) ∧ (vK (0 : Int) (#[].toList : List UInt8) (#[].toList : List UInt8) (#[].toList : List UInt8) (#[].toList : List UInt8) <| True ∧ True)) ∧ ug ∧ ud ∧ True)) <| .vA (vz (vO 39 (0 : Int) (0 : Int) (#[].toList : List UInt8) (#[].toList : List UInt8) (#[].toList : List UInt8) (#[].toList : List UInt8) <| True ∧ True) <| dB d ∧ (vD true <| dB b ∧ (vD true <| dC c ∧ (vD true <| dC a ∧ vE true)))) <| .ok ((0, ()))) (acJ a c b d y y1 y2 y3 y4 y5 y6 i y7 y8 j y11 y12 y13)
def acI (a : DtT) (c : DtT) (b : BnT) (d : BnT) (y : Bool × Unit) (y1 : TrT × Unit) (y2 : TrT × Unit) (y3 : TrT × Unit) (y4 : TrT × Unit) (y5 : TrT × Unit) (y6 : TrT × Unit) (i : Int × Unit) (y17 : List UInt8 × Int × Unit) (y18 : List UInt8 × Int × Unit) (j1 : Unit) (y21 : TrT × Unit) (y22 : TrT × Unit) (y23 : TrT × Unit) (i2 : (Int) × Unit) : TT (um ⊕ uc) :=
 .ite (decide (i2.1 < 2))
 (.need (inb i2.1 (↑2 : Int)) <| .call (ad9 ((rT y6.1), (rT (gT [(rT y21.1), (rT y23.1)] i2.1)), ())) aPQ fun y24 =>
 .call (afD ((rT y6.1), (rT (gT [(rT y21.1), (rT y23.1)] i2.1)), ())) aPQ fun y25 =>
 .ite (y24.2.1 != y25.2.1)
 (.ok (.inr (.inr ((false, ())))))
 (.call (aeM ((rT y24.1), (rT y25.1), ())) Dd1 fun y26 =>
 .ite (!y26.1)
 (.ok (.inr (.inr ((false, ())))))
 (.tt <| .lt (w64 (i2.1 + 1) : Int) fun z2 => .vA (vM z2 ([(rT y21.1), (rT y23.1)] : List TrT) y23.1 y22.1 ((rD c) : DtT) ((rB d) : BnT) y21.1 ((rD c) : DtT) <| uy ∧ (vD i.1 <| (tA y1.1 <| tA y3.1 <| tA y6.1 <| Qq (0 : Int) ∧ (vK (0 : Int) (#[].toList : List UInt8) (#[].toList : List UInt8) (#[].toList : List UInt8) (#[].toList : List UInt8) <| True ∧ True)) ∧ ug ∧ ud ∧ True)) <| .vA (vz (vQ 39 y6.1.1 y6.1.2.1 y6.1.2.2.1.1 y6.1.2.2.1.2.1 y6.1.2.2.2.1.1 y6.1.2.2.2.1.2.1 y6.1.2.2.2.2.1) <| dB d ∧ (vD true <| dB b ∧ (vD true <| dC c ∧ (vD true <| dC a ∧ vE true)))) <| .ok (.inl ((z2, ()))))))
 (.tt <| .lt (w64 (i.1 + 1) : Int) fun z3 => .vA (vD z3 <| (tA y1.1 <| tA y3.1 <| tA y6.1 <| Qq (0 : Int) ∧ (vK (0 : Int) (#[].toList : List UInt8) (#[].toList : List UInt8) (#[].toList : List UInt8) (#[].toList : List UInt8) <| True ∧ True)) ∧ ug ∧ ud ∧ True) <| .vA (dB d ∧ (vD true <| dB b ∧ (vD true <| dC c ∧ (vD true <| dC a ∧ vE true)))) <| .ok (.inr (.inl ((z3, ())))))
def arM (a : DtT) (c : DtT) (b : BnT) (d : BnT) (y : Bool × Unit) (y1 : TrT × Unit) (y2 : TrT × Unit) (y3 : TrT × Unit) (y4 : TrT × Unit) (y5 : TrT × Unit) (y6 : TrT × Unit) (i : Int × Unit) (y17 : List UInt8 × Int × Unit) (y18 : List UInt8 × Int × Unit) (j1 : Unit) : TT uc :=
 .call (abC ((rD c), ())) aBd fun y21 =>
 .call (abC ((rD c), ())) aBd fun y22 =>
 .call (abQ ((rB d), y22.1, ())) aBd fun y23 =>
 .loop 4 (.tt <| .vA (vM (0 : Int) ([(rT y21.1), (rT y23.1)] : List TrT) y23.1 y22.1 ((rD c) : DtT) ((rB d) : BnT) y21.1 ((rD c) : DtT) <| uy ∧ (vD i.1 <| (tA y1.1 <| tA y3.1 <| tA y6.1 <| Qq (0 : Int) ∧ (vK (0 : Int) (#[].toList : List UInt8) (#[].toList : List UInt8) (#[].toList : List UInt8) (#[].toList : List UInt8) <| True ∧ True)) ∧ ug ∧ ud ∧ True)) <| .vA (vz (vQ 39 y6.1.1 y6.1.2.1 y6.1.2.2.1.1 y6.1.2.2.1.2.1 y6.1.2.2.2.1.1 y6.1.2.2.2.1.2.1 y6.1.2.2.2.2.1) <| dB d ∧ (vD true <| dB b ∧ (vD true <| dC c ∧ (vD true <| dC a ∧ vE true)))) <| .ok ((0, ()))) (acI a c b d y y1 y2 y3 y4 y5 y6 i y17 y18 j1 y21 y22 y23)
def acH (a : DtT) (c : DtT) (b : BnT) (d : BnT) (y : Bool × Unit) (y1 : TrT × Unit) (y2 : TrT × Unit) (y3 : TrT × Unit) (y4 : TrT × Unit) (y5 : TrT × Unit) (y6 : TrT × Unit) (i : Int × Unit) (y27 : List UInt8 × Int × Unit) (y28 : List UInt8 × Int × Unit) (j2 : Unit) (y31 : TrT × Unit) (y32 : TrT × Unit) (y33 : TrT × Unit) (i3 : (Int) × Unit) : TT (um ⊕ uc) :=
 .ite (decide (i3.1 < 2))
 (.need (inb i3.1 (↑2 : Int)) <| .call (ad9 ((rT y3.1), (rT (gT [(rT y31.1), (rT y33.1)] i3.1)), ())) aPQ fun y34 =>
 .call (afD ((rT y3.1), (rT (gT [(rT y31.1), (rT y33.1)] i3.1)), ())) aPQ fun y35 =>
 .ite (y34.2.1 != y35.2.1)
 (.ok (.inr (.inr ((false, ())))))
 (.call (aeM ((rT y34.1), (rT y35.1), ())) Dd1 fun y36 =>
 .ite (!y36.1)
 (.ok (.inr (.inr ((false, ())))))
 (.tt <| .lt (w64 (i3.1 + 1) : Int) fun z4 => .vA (vM z4 ([(rT y31.1), (rT y33.1)] : List TrT) y33.1 y32.1 ((rD c) : DtT) ((rB d) : BnT) y31.1 ((rD c) : DtT) <| uy ∧ (vD i.1 <| (tA y1.1 <| tA y3.1 <| tA y6.1 <| Qq (0 : Int) ∧ (vK (0 : Int) (#[].toList : List UInt8) (#[].toList : List UInt8) (#[].toList : List UInt8) (#[].toList : List UInt8) <| True ∧ True)) ∧ ug ∧ ud ∧ True)) <| .vA (vz (vQ 39 y3.1.1 y3.1.2.1 y3.1.2.2.1.1 y3.1.2.2.1.2.1 y3.1.2.2.2.1.1 y3.1.2.2.2.1.2.1 y3.1.2.2.2.2.1) <| dB d ∧ (vD true <| dB b ∧ (vD true <| dC c ∧ (vD true <| dC a ∧ vE true)))) <| .ok (.inl ((z4, ()))))))
 (.tt <| .lt (w64 (i.1 + 1) : Int) fun z5 => .vA (vD z5 <| (tA y1.1 <| tA y3.1 <| tA y6.1 <| Qq (0 : Int) ∧ (vK (0 : Int) (#[].toList : List UInt8) (#[].toList : List UInt8) (#[].toList : List UInt8) (#[].toList : List UInt8) <| True ∧ True)) ∧ ug ∧ ud ∧ True) <| .vA (dB d ∧ (vD true <| dB b ∧ (vD true <| dC c ∧ (vD true <| dC a ∧ vE true)))) <| .ok (.inr (.inl ((z5, ())))))
def arL (a : DtT) (c : DtT) (b : BnT) (d : BnT) (y : Bool × Unit) (y1 : TrT × Unit) (y2 : TrT × Unit) (y3 : TrT × Unit) (y4 : TrT × Unit) (y5 : TrT × Unit) (y6 : TrT × Unit) (i : Int × Unit) (y27 : List UInt8 × Int × Unit) (y28 : List UInt8 × Int × Unit) (j2 : Unit) : TT uc :=
 .call (abC ((rD c), ())) aBd fun y31 =>
 .call (abC ((rD c), ())) aBd fun y32 =>
 .call (abQ ((rB d), y32.1, ())) aBd fun y33 =>
 .loop 4 (.tt <| .vA (vM (0 : Int) ([(rT y31.1), (rT y33.1)] : List TrT) y33.1 y32.1 ((rD c) : DtT) ((rB d) : BnT) y31.1 ((rD c) : DtT) <| uy ∧ (vD i.1 <| (tA y1.1 <| tA y3.1 <| tA y6.1 <| Qq (0 : Int) ∧ (vK (0 : Int) (#[].toList : List UInt8) (#[].toList : List UInt8) (#[].toList : List UInt8) (#[].toList : List UInt8) <| True ∧ True)) ∧ ug ∧ ud ∧ True)) <| .vA (vz (vQ 39 y3.1.1 y3.1.2.1 y3.1.2.2.1.1 y3.1.2.2.1.2.1 y3.1.2.2.2.1.1 y3.1.2.2.2.1.2.1 y3.1.2.2.2.2.1) <| dB d ∧ (vD true <| dB b ∧ (vD true <| dC c ∧ (vD true <| dC a ∧ vE true)))) <| .ok ((0, ()))) (acH a c b d y y1 y2 y3 y4 y5 y6 i y27 y28 j2 y31 y32 y33)
def acG (a : DtT) (c : DtT) (b : BnT) (d : BnT) (y : Bool × Unit) (y1 : TrT × Unit) (y2 : TrT × Unit) (y3 : TrT × Unit) (y4 : TrT × Unit) (y5 : TrT × Unit) (y6 : TrT × Unit) (i : Int × Unit) (y37 : List UInt8 × Int × Unit) (y38 : List UInt8 × Int × Unit) (j3 : Unit) (y41 : TrT × Unit) (y42 : TrT × Unit) (y43 : TrT × Unit) (i4 : (Int) × Unit) : TT (um ⊕ uc) :=
 .ite (decide (i4.1 < 2))
 (.need (inb i4.1 (↑2 : Int)) <| .call (ad9 ((rT y1.1), (rT (gT [(rT y41.1), (rT y43.1)] i4.1)), ())) aPQ fun y44 =>
 .call (afD ((rT y1.1), (rT (gT [(rT y41.1), (rT y43.1)] i4.1)), ())) aPQ fun y45 =>
 .ite (y44.2.1 != y45.2.1)
 (.ok (.inr (.inr ((false, ())))))
 (.call (aeM ((rT y44.1), (rT y45.1), ())) Dd1 fun y46 =>
 .ite (!y46.1)
 (.ok (.inr (.inr ((false, ())))))
 (.tt <| .lt (w64 (i4.1 + 1) : Int) fun z6 => .vA (vM z6 ([(rT y41.1), (rT y43.1)] : List TrT) y43.1 y42.1 ((rD c) : DtT) ((rB d) : BnT) y41.1 ((rD c) : DtT) <| uy ∧ (vD i.1 <| (tA y1.1 <| tA y3.1 <| tA y6.1 <| Qq (0 : Int) ∧ (vK (0 : Int) (#[].toList : List UInt8) (#[].toList : List UInt8) (#[].toList : List UInt8) (#[].toList : List UInt8) <| True ∧ True)) ∧ ug ∧ ud ∧ True)) <| .vA (vz (vQ 39 y1.1.1 y1.1.2.1 y1.1.2.2.1.1 y1.1.2.2.1.2.1 y1.1.2.2.2.1.1 y1.1.2.2.2.1.2.1 y1.1.2.2.2.2.1) <| dB d ∧ (vD true <| dB b ∧ (vD true <| dC c ∧ (vD true <| dC a ∧ vE true)))) <| .ok (.inl ((z6, ()))))))
 (.tt <| .lt (w64 (i.1 + 1) : Int) fun z7 => .vA (vD z7 <| (tA y1.1 <| tA y3.1 <| tA y6.1 <| Qq (0 : Int) ∧ (vK (0 : Int) (#[].toList : List UInt8) (#[].toList : List UInt8) (#[].toList : List UInt8) (#[].toList : List UInt8) <| True ∧ True)) ∧ ug ∧ ud ∧ True) <| .vA (dB d ∧ (vD true <| dB b ∧ (vD true <| dC c ∧ (vD true <| dC a ∧ vE true)))) <| .ok (.inr (.inl ((z7, ())))))
def arK (a : DtT) (c : DtT) (b : BnT) (d : BnT) (y : Bool × Unit) (y1 : TrT × Unit) (y2 : TrT × Unit) (y3 : TrT × Unit) (y4 : TrT × Unit) (y5 : TrT × Unit) (y6 : TrT × Unit) (i : Int × Unit) (y37 : List UInt8 × Int × Unit) (y38 : List UInt8 × Int × Unit) (j3 : Unit) : TT uc :=
 .call (abC ((rD c), ())) aBd fun y41 =>
 .call (abC ((rD c), ())) aBd fun y42 =>
 .call (abQ ((rB d), y42.1, ())) aBd fun y43 =>
 .loop 4 (.tt <| .vA (vM (0 : Int) ([(rT y41.1), (rT y43.1)] : List TrT) y43.1 y42.1 ((rD c) : DtT) ((rB d) : BnT) y41.1 ((rD c) : DtT) <| uy ∧ (vD i.1 <| (tA y1.1 <| tA y3.1 <| tA y6.1 <| Qq (0 : Int) ∧ (vK (0 : Int) (#[].toList : List UInt8) (#[].toList : List UInt8) (#[].toList : List UInt8) (#[].toList : List UInt8) <| True ∧ True)) ∧ ug ∧ ud ∧ True)) <| .vA (vz (vQ 39 y1.1.1 y1.1.2.1 y1.1.2.2.1.1 y1.1.2.2.1.2.1 y1.1.2.2.2.1.1 y1.1.2.2.2.1.2.1 y1.1.2.2.2.2.1) <| dB d ∧ (vD true <| dB b ∧ (vD true <| dC c ∧ (vD true <| dC a ∧ vE true)))) <| .ok ((0, ()))) (acG a c b d y y1 y2 y3 y4 y5 y6 i y37 y38 j3 y41 y42 y43)
def akZ (a : DtT) (c : DtT) (b : BnT) (d : BnT) (y : Bool × Unit) (y1 : TrT × Unit) (y2 : TrT × Unit) (y3 : TrT × Unit) (y4 : TrT × Unit) (y5 : TrT × Unit) (y6 : TrT × Unit) (i : (Int) × Unit) : TT uc :=
 .ite (decide (i.1 < 4))
 (.need (inb i.1 (↑4 : Int)) <| .ite (i.1 == (↑3 : Int))
 (.call (aeW (t0, ())) aA9 fun y7 =>
 .call (afC (t0, ())) aA9 fun y8 =>
 .join 1 (ι := Unit) (.call (abG (t0, ())) Dd6 fun y9 =>
 .call (acA (t0, ())) Dd6 fun y10 =>
 .ite (y9.1 != y10.1)
 (.ok (.inr (.inr ((false, ())))))
 (.ite (!y7.1 == y8.1)
 (.ok (.inr (.inr ((false, ())))))
 (.ite (y7.2.1 != y8.2.1)
 (.ok (.inr (.inr ((false, ())))))
 (.tt <| .vA (uy ∧ (vD i.1 <| (tA y1.1 <| tA y3.1 <| tA y6.1 <| Qq (0 : Int) ∧ (vK (0 : Int) (#[].toList : List UInt8) (#[].toList : List UInt8) (#[].toList : List UInt8) (#[].toList : List UInt8) <| True ∧ True)) ∧ ug ∧ ud ∧ True)) <| .vA (vz (vO 39 (0 : Int) (0 : Int) (#[].toList : List UInt8) (#[].toList : List UInt8) (#[].toList : List UInt8) (#[].toList : List UInt8) <| True ∧ True) <| dB d ∧ (vD true <| dB b ∧ (vD true <| dC c ∧ (vD true <| dC a ∧ vE true)))) <| .ok (.inl (())))))) (arN a c b d y y1 y2 y3 y4 y5 y6 i y7 y8))
 (.ite (i.1 == (↑2 : Int))
 (.call (aeW ((rT y6.1), ())) aA9 fun y17 =>
 .call (afC ((rT y6.1), ())) aA9 fun y18 =>
 .join 3 (ι := Unit) (.call (abG ((rT y6.1), ())) Dd6 fun y19 =>
 .call (acA ((rT y6.1), ())) Dd6 fun y20 =>
 .ite (y19.1 != y20.1)
 (.ok (.inr (.inr ((false, ())))))
 (.ite (!y17.1 == y18.1)
 (.ok (.inr (.inr ((false, ())))))
 (.ite (y17.2.1 != y18.2.1)
 (.ok (.inr (.inr ((false, ())))))
 (.tt <| .vA (uy ∧ (vD i.1 <| (tA y1.1 <| tA y3.1 <| tA y6.1 <| Qq (0 : Int) ∧ (vK (0 : Int) (#[].toList : List UInt8) (#[].toList : List UInt8) (#[].toList : List UInt8) (#[].toList : List UInt8) <| True ∧ True)) ∧ ug ∧ ud ∧ True)) <| .vA (vz (vQ 39 y6.1.1 y6.1.2.1 y6.1.2.2.1.1 y6.1.2.2.1.2.1 y6.1.2.2.2.1.1 y6.1.2.2.2.1.2.1 y6.1.2.2.2.2.1) <| dB d ∧ (vD true <| dB b ∧ (vD true <| dC c ∧ (vD true <| dC a ∧ vE true)))) <| .ok (.inl (())))))) (arM a c b d y y1 y2 y3 y4 y5 y6 i y17 y18))
 (.ite (i.1 == (↑1 : Int))
 (.call (aeW ((rT y3.1), ())) aA9 fun y27 =>
 .call (afC ((rT y3.1), ())) aA9 fun y28 =>
 .join 3 (ι := Unit) (.call (abG ((rT y3.1), ())) Dd6 fun y29 =>
 .call (acA ((rT y3.1), ())) Dd6 fun y30 =>
 .ite (y29.1 != y30.1)
 (.ok (.inr (.inr ((false, ())))))
 (.ite (!y27.1 == y28.1)
 (.ok (.inr (.inr ((false, ())))))
 (.ite (y27.2.1 != y28.2.1)
 (.ok (.inr (.inr ((false, ())))))
 (.tt <| .vA (uy ∧ (vD i.1 <| (tA y1.1 <| tA y3.1 <| tA y6.1 <| Qq (0 : Int) ∧ (vK (0 : Int) (#[].toList : List UInt8) (#[].toList : List UInt8) (#[].toList : List UInt8) (#[].toList : List UInt8) <| True ∧ True)) ∧ ug ∧ ud ∧ True)) <| .vA (vz (vQ 39 y3.1.1 y3.1.2.1 y3.1.2.2.1.1 y3.1.2.2.1.2.1 y3.1.2.2.2.1.1 y3.1.2.2.2.1.2.1 y3.1.2.2.2.2.1) <| dB d ∧ (vD true <| dB b ∧ (vD true <| dC c ∧ (vD true <| dC a ∧ vE true)))) <| .ok (.inl (())))))) (arL a c b d y y1 y2 y3 y4 y5 y6 i y27 y28))
 (.ite (i.1 == (↑0 : Int))
 (.call (aeW ((rT y1.1), ())) aA9 fun y37 =>
 .call (afC ((rT y1.1), ())) aA9 fun y38 =>
 .join 3 (ι := Unit) (.call (abG ((rT y1.1), ())) Dd6 fun y39 =>
 .call (acA ((rT y1.1), ())) Dd6 fun y40 =>
 .ite (y39.1 != y40.1)
 (.ok (.inr (.inr ((false, ())))))
 (.ite (!y37.1 == y38.1)
 (.ok (.inr (.inr ((false, ())))))
 (.ite (y37.2.1 != y38.2.1)
 (.ok (.inr (.inr ((false, ())))))
 (.tt <| .vA (uy ∧ (vD i.1 <| (tA y1.1 <| tA y3.1 <| tA y6.1 <| Qq (0 : Int) ∧ (vK (0 : Int) (#[].toList : List UInt8) (#[].toList : List UInt8) (#[].toList : List UInt8) (#[].toList : List UInt8) <| True ∧ True)) ∧ ug ∧ ud ∧ True)) <| .vA (vz (vQ 39 y1.1.1 y1.1.2.1 y1.1.2.2.1.1 y1.1.2.2.1.2.1 y1.1.2.2.2.1.1 y1.1.2.2.2.1.2.1 y1.1.2.2.2.2.1) <| dB d ∧ (vD true <| dB b ∧ (vD true <| dC c ∧ (vD true <| dC a ∧ vE true)))) <| .ok (.inl (())))))) (arK a c b d y y1 y2 y3 y4 y5 y6 i y37 y38))
 (.bad)))))
 (.ok (.inr ((true, ()))))
def anB (a : DtT) (c : DtT) (b : BnT) (d : BnT) : TT uG :=
 .call (aDk ()) Dd1 fun y =>
 .ite (!y.1)
 (.ok ((false, ())))
 (.call (abC ((rD a), ())) aBd fun y1 =>
 .call (abC ((rD a), ())) aBd fun y2 =>
 .call (abQ ((rB b), y2.1, ())) aBd fun y3 =>
 .call (abC ((rD a), ())) aBd fun y4 =>
 .call (abQ ((rB b), y4.1, ())) aBd fun y5 =>
 .call (abQ ((rB d), y5.1, ())) aBd fun y6 =>
 .loop 0 (.tt <| .vA (vD (0 : Int) <| (tA y1.1 <| tA y3.1 <| tA y6.1 <| Qq (0 : Int) ∧ (vK (0 : Int) (#[].toList : List UInt8) (#[].toList : List UInt8) (#[].toList : List UInt8) (#[].toList : List UInt8) <| True ∧ True)) ∧ ug ∧ ud ∧ True) <| .vA (dB d ∧ (vD true <| dB b ∧ (vD true <| dC c ∧ (vD true <| dC a ∧ vE true)))) <| .ok ((0, ()))) (akZ a c b d y y1 y2 y3 y4 y5 y6))
end
theorem aPY {k : Nat} {q : Rat} (h : Sm k q) (h1 : 1 ≤ k) (hk : k ≤ 99) : shR (fx q) := by
 have a := (aaZ h1).2 h.1
 have b := (aaZ h1).2 h.2
 have c := afJ q.num
 exact ⟨by show (dec q.num).length ≤ _; omega, by show (aa3 q.den).length ≤ _; omega⟩
theorem aSD {d : DtT} (h : aIJ d) : ∀ q ∈ atD d, Sm 3 q := by
 intro q hq
 unfold atD at hq
 split at hq
 ·rw [yj] at hq; subst hq; exact aDK zb
 ·obtain ⟨x, hx, rfl⟩ := zD.1 hq
  exact aFt (h.2.2.2.2 x (yC hx))
theorem aFx {d : DtT} (h : aIJ d) : shT (aeK (tpD d)) ∧ (aeK (tpD d)).2.2.2.2.1.length ≤ 4 := by
 have g := aSd h
 have hl : (aeK (tpD d)).2.2.2.2.1.length ≤ 4 := by
  rw [show ((aeK (tpD d)).2.2.2.2.1).length = (tpD d).a.length from yG ..]; exact g.len
 have ha : ∀ q ∈ (tpD d).a, Sm 3 q := by
  unfold tpD
  split
  ·intro q hq; cases hq
  ·exact aSD h
 refine ⟨⟨aPY g.g zb zb, aPY g.m zb zb, ?_, by omega⟩, hl⟩
 intro x hx
 obtain ⟨q, hq, rfl⟩ := zD.1 hx
 exact aPY (ha q hq) zb zb
theorem aDN : shT noT := ⟨⟨by decide, by decide⟩, ⟨by decide, by decide⟩, (fun x hx => by cases hx), by decide⟩
theorem aIZ (x : FxT) : shR (aIG x) := by
 refine ⟨?_, ?_⟩
 ·show (x.1.take 20).length ≤ 100; rw [zT]; omega
 ·show (x.2.1.take 20).length ≤ 100; rw [zT]; omega
theorem aDO {t : TrT} (w n : Int) (x : FxT) (h : shT t) (hl : t.2.2.2.2.1.length ≤ 50) : shT (aAR w n x t) ∧ (aAR w n x t).2.2.2.2.1.length ≤ t.2.2.2.2.1.length + 1 := by
 obtain ⟨h1, h2, h3, h4⟩ := h
 unfold aAR
 repeat' split
 ·exact ⟨⟨h1, h2, h3, h4⟩, by dsimp only; omega⟩
 ·exact ⟨⟨h1, h2, h3, h4⟩, by dsimp only; omega⟩
 ·exact ⟨⟨aIZ x, h2, h3, h4⟩, by dsimp only; omega⟩
 ·exact ⟨⟨h1, aIZ x, h3, h4⟩, by dsimp only; omega⟩
 ·exact ⟨⟨h1, h2, (fun x hx => by cases hx), zL _⟩, zL _⟩
 ·refine ⟨⟨h1, h2, ?_, ?_⟩, ?_⟩
  ·intro y hy
   rcases zG.1 hy with hy | hy
   ·exact h3 y hy
   ·rw [yj] at hy; rw [hy]; exact aIZ x
  ·show (t.2.2.2.2.1 ++ [aIG x]).length ≤ 100
   rw [zo]; simp; omega
  ·show (t.2.2.2.2.1 ++ [aIG x]).length ≤ _
   rw [zo]; simp
theorem aqN {b : BnT} {t : TrT} (h1 : 0 ≤ b.1 ∧ b.1 ≤ 255) (h2 : t.2.2.2.2.1.length ≤ 50) : abQ (b, t, ()) = some (aAR (b.1.tmod 6) b.2.1 b.2.2.1 t, ()) := if_pos ⟨h1.1, h1.2, by show t.2.2.2.2.1.length ≤ 1000000; omega⟩
theorem aKI {a b : TrT} (h1 : shT a) (h2 : shT b) : (aAf a b).1.2.2.2.2.1.length ≤ 1000000000000 := by
 by_cases ca : aoY a = true
 case neg => rw [aiR (fun h => absurd h ca)]; exact zL _
 by_cases cb : aoY b = true
 case neg => rw [aiR (fun _ => Bool.eq_false_iff.2 cb)]; exact zL _
 obtain ⟨x, hx, ea, da⟩ := aHQ ca h1
 obtain ⟨z, hz, eb, db⟩ := aHQ cb h2
 rw [ap1 hx hz ea eb da db]
 split
 ·exact zL _
 ·show ((x.join z).a.map _).length ≤ _
  rw [yG]
  have := hx.len
  have := hz.len
  unfold Tp.join
  dsimp only
  split <;> omega
theorem aj9 {t x : TrT} (h1 : shT t) (h2 : shT x) : ∃ (j : TrT) (e : Int), ad9 (t, x, ()) = some (j, e, ()) ∧ afD (t, x, ()) = some (j, e, ()) ∧ aeM (j, j, ()) = some (true, ()) := by
 have hj : ad9 (t, x, ()) = some (aAf t x) := if_pos ⟨h1, h2⟩
 refine ⟨(aAf t x).1, (aAf t x).2.1, hj, hj, ?_⟩
 unfold aeM
 rw [if_pos (aKI h1 h2)]
 rw [asD rfl]
theorem aTM (a c : DtT) (b d : BnT) (y : Bool × Unit) (y1 y2 y3 y4 y5 y6 : TrT × Unit) (k : Nat) (hk : k < 4) (w1 w2 : List UInt8 × Int × Unit) (j : Unit) (v1 v2 v3 : TrT × Unit) (ht : shT t0) (h1 : shT v1.1) (h3 : shT v3.1) : abX (fun i1 => (acJ a c b d y y1 y2 y3 y4 y5 y6 ((k : Int), ()) w1 w2 j v1 v2 v3 i1).toO) (0, ()) = some (.inl (((k + 1 : Nat) : Int), ())) := by
 obtain ⟨j1, e1, a1, a2, a3⟩ := aj9 ht h1
 obtain ⟨j2, e2, b1, b2, b3⟩ := aj9 ht h3
 have r0 : (acJ a c b d y y1 y2 y3 y4 y5 y6 ((k : Int), ()) w1 w2 j v1 v2 v3 (0, ())).toO = some (.inl (1, ())) :=
  uT rfl (uN ⟨by decide, by decide⟩ (uC _ a1 (uC _ a2 (uF (bne_self_eq_false e1) (uC _ a3 (uF rfl (uV (uB (uV (uV rfl))))))))))
 have r1 : (acJ a c b d y y1 y2 y3 y4 y5 y6 ((k : Int), ()) w1 w2 j v1 v2 v3 (1, ())).toO = some (.inl (2, ())) :=
  uT rfl (uN ⟨by decide, by decide⟩ (uC _ b1 (uC _ b2 (uF (bne_self_eq_false e2) (uC _ b3 (uF rfl (uV (uB (uV (uV rfl))))))))))
 have r2 : (acJ a c b d y y1 y2 y3 y4 y5 y6 ((k : Int), ()) w1 w2 j v1 v2 v3 (2, ())).toO = some (.inr (.inl (((k + 1 : Nat) : Int), ()))) := by
  refine uF rfl (uV (uB (uV (uV ?_))))
  show some (Sum.inr (Sum.inl (w64 ((k : Int) + 1), ()))) = _
  rw [aaA (x := (k : Int) + 1) zb]; rfl
 have s0 : abX (fun i1 => (acJ a c b d y y1 y2 y3 y4 y5 y6 ((k : Int), ()) w1 w2 j v1 v2 v3 i1).toO) (0, ()) = abX (fun i1 => (acJ a c b d y y1 y2 y3 y4 y5 y6 ((k : Int), ()) w1 w2 j v1 v2 v3 i1).toO) (1, ()) := ab0 r0
 have s1 : abX (fun i1 => (acJ a c b d y y1 y2 y3 y4 y5 y6 ((k : Int), ()) w1 w2 j v1 v2 v3 i1).toO) (1, ()) = abX (fun i1 => (acJ a c b d y y1 y2 y3 y4 y5 y6 ((k : Int), ()) w1 w2 j v1 v2 v3 i1).toO) (2, ()) := ab0 r1
 rw [s0, s1]
 exact acY (R := fun i1 => (acJ a c b d y y1 y2 y3 y4 y5 y6 ((k : Int), ()) w1 w2 j v1 v2 v3 i1).toO) (i := (2, ())) r2
theorem aTN (a c : DtT) (b d : BnT) (y : Bool × Unit) (y1 y2 y3 y4 y5 y6 : TrT × Unit) (k : Nat) (hk : k < 4) (w1 w2 : List UInt8 × Int × Unit) (j : Unit) (tc tb : TrT) (hc : abC (c, ()) = some (tc, ())) (hb : abQ (d, tc, ()) = some (tb, ())) (ht : shT t0) (h1 : shT tc) (h3 : shT tb) : (arN a c b d y y1 y2 y3 y4 y5 y6 ((k : Int), ()) w1 w2 j).toO = some (.inl (((k + 1 : Nat) : Int), ())) :=
 uC _ hc (uC _ hc (uC _ hb (uO (0, ()) rfl (aTM a c b d y y1 y2 y3 y4 y5 y6 k hk w1 w2 j (tc, ()) (tc, ()) (tb, ()) ht h1 h3))))
theorem aTK (a c : DtT) (b d : BnT) (y : Bool × Unit) (y1 y2 y3 y4 y5 y6 : TrT × Unit) (k : Nat) (hk : k < 4) (w1 w2 : List UInt8 × Int × Unit) (j : Unit) (v1 v2 v3 : TrT × Unit) (ht : shT y6.1) (h1 : shT v1.1) (h3 : shT v3.1) : abX (fun i1 => (acI a c b d y y1 y2 y3 y4 y5 y6 ((k : Int), ()) w1 w2 j v1 v2 v3 i1).toO) (0, ()) = some (.inl (((k + 1 : Nat) : Int), ())) := by
 obtain ⟨j1, e1, a1, a2, a3⟩ := aj9 ht h1
 obtain ⟨j2, e2, b1, b2, b3⟩ := aj9 ht h3
 have r0 : (acI a c b d y y1 y2 y3 y4 y5 y6 ((k : Int), ()) w1 w2 j v1 v2 v3 (0, ())).toO = some (.inl (1, ())) :=
  uT rfl (uN ⟨by decide, by decide⟩ (uC _ a1 (uC _ a2 (uF (bne_self_eq_false e1) (uC _ a3 (uF rfl (uV (uB (uV (uV rfl))))))))))
 have r1 : (acI a c b d y y1 y2 y3 y4 y5 y6 ((k : Int), ()) w1 w2 j v1 v2 v3 (1, ())).toO = some (.inl (2, ())) :=
  uT rfl (uN ⟨by decide, by decide⟩ (uC _ b1 (uC _ b2 (uF (bne_self_eq_false e2) (uC _ b3 (uF rfl (uV (uB (uV (uV rfl))))))))))
 have r2 : (acI a c b d y y1 y2 y3 y4 y5 y6 ((k : Int), ()) w1 w2 j v1 v2 v3 (2, ())).toO = some (.inr (.inl (((k + 1 : Nat) : Int), ()))) := by
  refine uF rfl (uV (uB (uV (uV ?_))))
  show some (Sum.inr (Sum.inl (w64 ((k : Int) + 1), ()))) = _
  rw [aaA (x := (k : Int) + 1) zb]; rfl
 have s0 : abX (fun i1 => (acI a c b d y y1 y2 y3 y4 y5 y6 ((k : Int), ()) w1 w2 j v1 v2 v3 i1).toO) (0, ()) = abX (fun i1 => (acI a c b d y y1 y2 y3 y4 y5 y6 ((k : Int), ()) w1 w2 j v1 v2 v3 i1).toO) (1, ()) := ab0 r0
 have s1 : abX (fun i1 => (acI a c b d y y1 y2 y3 y4 y5 y6 ((k : Int), ()) w1 w2 j v1 v2 v3 i1).toO) (1, ()) = abX (fun i1 => (acI a c b d y y1 y2 y3 y4 y5 y6 ((k : Int), ()) w1 w2 j v1 v2 v3 i1).toO) (2, ()) := ab0 r1
 rw [s0, s1]
 exact acY (R := fun i1 => (acI a c b d y y1 y2 y3 y4 y5 y6 ((k : Int), ()) w1 w2 j v1 v2 v3 i1).toO) (i := (2, ())) r2
theorem aTL (a c : DtT) (b d : BnT) (y : Bool × Unit) (y1 y2 y3 y4 y5 y6 : TrT × Unit) (k : Nat) (hk : k < 4) (w1 w2 : List UInt8 × Int × Unit) (j : Unit) (tc tb : TrT) (hc : abC (c, ()) = some (tc, ())) (hb : abQ (d, tc, ()) = some (tb, ())) (ht : shT y6.1) (h1 : shT tc) (h3 : shT tb) : (arM a c b d y y1 y2 y3 y4 y5 y6 ((k : Int), ()) w1 w2 j).toO = some (.inl (((k + 1 : Nat) : Int), ())) :=
 uC _ hc (uC _ hc (uC _ hb (uO (0, ()) rfl (aTK a c b d y y1 y2 y3 y4 y5 y6 k hk w1 w2 j (tc, ()) (tc, ()) (tb, ()) ht h1 h3))))
theorem aTI (a c : DtT) (b d : BnT) (y : Bool × Unit) (y1 y2 y3 y4 y5 y6 : TrT × Unit) (k : Nat) (hk : k < 4) (w1 w2 : List UInt8 × Int × Unit) (j : Unit) (v1 v2 v3 : TrT × Unit) (ht : shT y3.1) (h1 : shT v1.1) (h3 : shT v3.1) : abX (fun i1 => (acH a c b d y y1 y2 y3 y4 y5 y6 ((k : Int), ()) w1 w2 j v1 v2 v3 i1).toO) (0, ()) = some (.inl (((k + 1 : Nat) : Int), ())) := by
 obtain ⟨j1, e1, a1, a2, a3⟩ := aj9 ht h1
 obtain ⟨j2, e2, b1, b2, b3⟩ := aj9 ht h3
 have r0 : (acH a c b d y y1 y2 y3 y4 y5 y6 ((k : Int), ()) w1 w2 j v1 v2 v3 (0, ())).toO = some (.inl (1, ())) :=
  uT rfl (uN ⟨by decide, by decide⟩ (uC _ a1 (uC _ a2 (uF (bne_self_eq_false e1) (uC _ a3 (uF rfl (uV (uB (uV (uV rfl))))))))))
 have r1 : (acH a c b d y y1 y2 y3 y4 y5 y6 ((k : Int), ()) w1 w2 j v1 v2 v3 (1, ())).toO = some (.inl (2, ())) :=
  uT rfl (uN ⟨by decide, by decide⟩ (uC _ b1 (uC _ b2 (uF (bne_self_eq_false e2) (uC _ b3 (uF rfl (uV (uB (uV (uV rfl))))))))))
 have r2 : (acH a c b d y y1 y2 y3 y4 y5 y6 ((k : Int), ()) w1 w2 j v1 v2 v3 (2, ())).toO = some (.inr (.inl (((k + 1 : Nat) : Int), ()))) := by
  refine uF rfl (uV (uB (uV (uV ?_))))
  show some (Sum.inr (Sum.inl (w64 ((k : Int) + 1), ()))) = _
  rw [aaA (x := (k : Int) + 1) zb]; rfl
 have s0 : abX (fun i1 => (acH a c b d y y1 y2 y3 y4 y5 y6 ((k : Int), ()) w1 w2 j v1 v2 v3 i1).toO) (0, ()) = abX (fun i1 => (acH a c b d y y1 y2 y3 y4 y5 y6 ((k : Int), ()) w1 w2 j v1 v2 v3 i1).toO) (1, ()) := ab0 r0
 have s1 : abX (fun i1 => (acH a c b d y y1 y2 y3 y4 y5 y6 ((k : Int), ()) w1 w2 j v1 v2 v3 i1).toO) (1, ()) = abX (fun i1 => (acH a c b d y y1 y2 y3 y4 y5 y6 ((k : Int), ()) w1 w2 j v1 v2 v3 i1).toO) (2, ()) := ab0 r1
 rw [s0, s1]
 exact acY (R := fun i1 => (acH a c b d y y1 y2 y3 y4 y5 y6 ((k : Int), ()) w1 w2 j v1 v2 v3 i1).toO) (i := (2, ())) r2
theorem aTJ (a c : DtT) (b d : BnT) (y : Bool × Unit) (y1 y2 y3 y4 y5 y6 : TrT × Unit) (k : Nat) (hk : k < 4) (w1 w2 : List UInt8 × Int × Unit) (j : Unit) (tc tb : TrT) (hc : abC (c, ()) = some (tc, ())) (hb : abQ (d, tc, ()) = some (tb, ())) (ht : shT y3.1) (h1 : shT tc) (h3 : shT tb) : (arL a c b d y y1 y2 y3 y4 y5 y6 ((k : Int), ()) w1 w2 j).toO = some (.inl (((k + 1 : Nat) : Int), ())) :=
 uC _ hc (uC _ hc (uC _ hb (uO (0, ()) rfl (aTI a c b d y y1 y2 y3 y4 y5 y6 k hk w1 w2 j (tc, ()) (tc, ()) (tb, ()) ht h1 h3))))
theorem aTG (a c : DtT) (b d : BnT) (y : Bool × Unit) (y1 y2 y3 y4 y5 y6 : TrT × Unit) (k : Nat) (hk : k < 4) (w1 w2 : List UInt8 × Int × Unit) (j : Unit) (v1 v2 v3 : TrT × Unit) (ht : shT y1.1) (h1 : shT v1.1) (h3 : shT v3.1) : abX (fun i1 => (acG a c b d y y1 y2 y3 y4 y5 y6 ((k : Int), ()) w1 w2 j v1 v2 v3 i1).toO) (0, ()) = some (.inl (((k + 1 : Nat) : Int), ())) := by
 obtain ⟨j1, e1, a1, a2, a3⟩ := aj9 ht h1
 obtain ⟨j2, e2, b1, b2, b3⟩ := aj9 ht h3
 have r0 : (acG a c b d y y1 y2 y3 y4 y5 y6 ((k : Int), ()) w1 w2 j v1 v2 v3 (0, ())).toO = some (.inl (1, ())) :=
  uT rfl (uN ⟨by decide, by decide⟩ (uC _ a1 (uC _ a2 (uF (bne_self_eq_false e1) (uC _ a3 (uF rfl (uV (uB (uV (uV rfl))))))))))
 have r1 : (acG a c b d y y1 y2 y3 y4 y5 y6 ((k : Int), ()) w1 w2 j v1 v2 v3 (1, ())).toO = some (.inl (2, ())) :=
  uT rfl (uN ⟨by decide, by decide⟩ (uC _ b1 (uC _ b2 (uF (bne_self_eq_false e2) (uC _ b3 (uF rfl (uV (uB (uV (uV rfl))))))))))
 have r2 : (acG a c b d y y1 y2 y3 y4 y5 y6 ((k : Int), ()) w1 w2 j v1 v2 v3 (2, ())).toO = some (.inr (.inl (((k + 1 : Nat) : Int), ()))) := by
  refine uF rfl (uV (uB (uV (uV ?_))))
  show some (Sum.inr (Sum.inl (w64 ((k : Int) + 1), ()))) = _
  rw [aaA (x := (k : Int) + 1) zb]; rfl
 have s0 : abX (fun i1 => (acG a c b d y y1 y2 y3 y4 y5 y6 ((k : Int), ()) w1 w2 j v1 v2 v3 i1).toO) (0, ()) = abX (fun i1 => (acG a c b d y y1 y2 y3 y4 y5 y6 ((k : Int), ()) w1 w2 j v1 v2 v3 i1).toO) (1, ()) := ab0 r0
 have s1 : abX (fun i1 => (acG a c b d y y1 y2 y3 y4 y5 y6 ((k : Int), ()) w1 w2 j v1 v2 v3 i1).toO) (1, ()) = abX (fun i1 => (acG a c b d y y1 y2 y3 y4 y5 y6 ((k : Int), ()) w1 w2 j v1 v2 v3 i1).toO) (2, ()) := ab0 r1
 rw [s0, s1]
 exact acY (R := fun i1 => (acG a c b d y y1 y2 y3 y4 y5 y6 ((k : Int), ()) w1 w2 j v1 v2 v3 i1).toO) (i := (2, ())) r2
theorem aTH (a c : DtT) (b d : BnT) (y : Bool × Unit) (y1 y2 y3 y4 y5 y6 : TrT × Unit) (k : Nat) (hk : k < 4) (w1 w2 : List UInt8 × Int × Unit) (j : Unit) (tc tb : TrT) (hc : abC (c, ()) = some (tc, ())) (hb : abQ (d, tc, ()) = some (tb, ())) (ht : shT y1.1) (h1 : shT tc) (h3 : shT tb) : (arK a c b d y y1 y2 y3 y4 y5 y6 ((k : Int), ()) w1 w2 j).toO = some (.inl (((k + 1 : Nat) : Int), ())) :=
 uC _ hc (uC _ hc (uC _ hb (uO (0, ()) rfl (aTG a c b d y y1 y2 y3 y4 y5 y6 k hk w1 w2 j (tc, ()) (tc, ()) (tb, ()) ht h1 h3))))
theorem azJ {t : TrT} (h : shT t) : ∃ T : List UInt8 × Int × Unit, aeW (t, ()) = some T ∧ afC (t, ()) = some T := ⟨_, rfl, if_pos h⟩
theorem ar0 {t : TrT} (h : shT t) : ∃ e : Int, abG (t, ()) = some (e, ()) ∧ acA (t, ()) = some (e, ()) := ⟨_, rfl, if_pos h⟩
theorem aMS (a c : DtT) (b d : BnT) (y : Bool × Unit) (y1 y2 y3 y4 y5 y6 : TrT × Unit) (k : Nat) (hk : k < 4) (tc tb : TrT) (hc : abC (c, ()) = some (tc, ())) (hb : abQ (d, tc, ()) = some (tb, ())) (h1 : shT tc) (h3 : shT tb) (s1 : shT y1.1) (s3 : shT y3.1) (s6 : shT y6.1) : (akZ a c b d y y1 y2 y3 y4 y5 y6 ((k : Int), ())).toO = some (.inl (((k + 1 : Nat) : Int), ())) := by
 obtain ⟨T0, u0, v0⟩ := azJ aDN
 obtain ⟨T1, u1, v1⟩ := azJ s1
 obtain ⟨T3, u3, v3⟩ := azJ s3
 obtain ⟨T6, u6, v6⟩ := azJ s6
 obtain ⟨C0, p0, q0⟩ := ar0 aDN
 obtain ⟨C1, p1, q1⟩ := ar0 s1
 obtain ⟨C3, p3, q3⟩ := ar0 s3
 obtain ⟨C6, p6, q6⟩ := ar0 s6
 have eT : ∀ T : List UInt8 × Int × Unit, (!T.1 == T.1) = false := fun T => by rw [beq_self_eq_true]; rfl
 unfold akZ
 match k, hk with
 | 0, hk => exact uT rfl (uN ⟨by decide, by decide⟩ (uF rfl (uF rfl (uF rfl (uT rfl (uC _ u1 (uC _ v1 (uL () (uC _ p1 (uC _ q1 (uF (bne_self_eq_false _) (uF (eT _) (uF (bne_self_eq_false _) (uV (uV (uV rfl)))))))) (aTH a c b d y y1 y2 y3 y4 y5 y6 0 hk T1 T1 () tc tb hc hb s1 h1 h3)))))))))
 | 1, hk => exact uT rfl (uN ⟨by decide, by decide⟩ (uF rfl (uF rfl (uT rfl (uC _ u3 (uC _ v3 (uL () (uC _ p3 (uC _ q3 (uF (bne_self_eq_false _) (uF (eT _) (uF (bne_self_eq_false _) (uV (uV (uV rfl)))))))) (aTJ a c b d y y1 y2 y3 y4 y5 y6 1 hk T3 T3 () tc tb hc hb s3 h1 h3))))))))
 | 2, hk => exact uT rfl (uN ⟨by decide, by decide⟩ (uF rfl (uT rfl (uC _ u6 (uC _ v6 (uL () (uC _ p6 (uC _ q6 (uF (bne_self_eq_false _) (uF (eT _) (uF (bne_self_eq_false _) (uV (uV (uV rfl)))))))) (aTL a c b d y y1 y2 y3 y4 y5 y6 2 hk T6 T6 () tc tb hc hb s6 h1 h3)))))))
 | 3, hk => exact uT rfl (uN ⟨by decide, by decide⟩ (uT rfl (uC _ u0 (uC _ v0 (uL () (uC _ p0 (uC _ q0 (uF (bne_self_eq_false _) (uF (eT _) (uF (bne_self_eq_false _) (uV (uV (uV rfl)))))))) (aTN a c b d y y1 y2 y3 y4 y5 y6 3 hk T0 T0 () tc tb hc hb aDN h1 h3))))))
def aSv (b : BnT) : Prop := 0 ≤ b.1 ∧ b.1 ≤ 255
theorem aAX (a c : DtT) (b d : BnT) (hw : aIJ a ∧ aIJ c ∧ aSv b ∧ aSv d) (y) (h : anE (a, c, b, d, ()) = some y) : (anB a c b d).toO = some y := by
 injection h with h
 subst h
 obtain ⟨ha, hc, hb, hd⟩ := hw
 obtain ⟨sa, la⟩ := aFx ha
 obtain ⟨sc, lc⟩ := aFx hc
 have ka := ay0 ha
 have kc := ay0 hc
 generalize aeK (tpD a) = ta at sa la ka
 generalize aeK (tpD c) = tc at sc lc kc
 obtain ⟨sb, lb⟩ := aDO (b.1.tmod 6) b.2.1 b.2.2.1 sa zb
 have kb := aqN (b := b) (t := ta) hb zb
 generalize aAR (b.1.tmod 6) b.2.1 b.2.2.1 ta = tb at sb lb kb
 obtain ⟨sd, ld⟩ := aDO (d.1.tmod 6) d.2.1 d.2.2.1 sb zb
 have kd := aqN (b := d) (t := tb) hd zb
 generalize aAR (d.1.tmod 6) d.2.1 d.2.2.1 tb = td at sd ld kd
 obtain ⟨se, -⟩ := aDO (d.1.tmod 6) d.2.1 d.2.2.1 sc zb
 have ke := aqN (b := d) (t := tc) hd zb
 generalize aAR (d.1.tmod 6) d.2.1 d.2.2.1 tc = te at se ke
 unfold anB
 refine uC (true, ()) rfl (uF rfl (uC _ ka (uC _ ka (uC _ kb (uC _ ka (uC _ kb (uC _ kd (uO (0, ()) rfl ?_))))))))
 refine aaS (fun i : Int × Unit => ∃ k : Nat, k ≤ 4 ∧ i = ((k : Int), ())) (fun i => 4 - i.1.toNat) (fun _ => (true, ())) ?_ _ ⟨0, by omega, rfl⟩
 rintro i ⟨k, hk, rfl⟩
 rcases zv k 4 with h4 | h4
 ·left
  exact ⟨(((k + 1 : Nat) : Int), ()), aMS a c b d _ _ _ _ _ _ _ k h4 tc te kc ke sc se sa sb sd, ⟨k + 1, by omega, rfl⟩, by show 4 - ((k + 1 : Nat) : Int).toNat < 4 - (k : Int).toNat; omega, rfl⟩
 ·right
  have e : k = 4 := zb
  subst e
  exact uF rfl rfl
abbrev aS0 : Ty := .pair (.int .u8) (.pair (.int .i64) (.pair (.pair .str (.pair .str .unit)) .unit))
theorem aRi {x : BnT} (h : Wf aS0 x) : aSv x := auF h.1
theorem aMD {x : DtT × DtT × BnT × BnT × Unit} (h : Wf (.pair aSZ (.pair aSZ (.pair aS0 (.pair aS0 .unit)))) x) : aIJ x.1 ∧ aIJ x.2.1 ∧ aSv x.2.2.1 ∧ aSv x.2.2.2.1 := by
 obtain ⟨h1, h2, h3, h4, -⟩ := h
 exact ⟨aRh h1, aRh h2, aRi h3, aRi h4⟩
theorem aEE (m : List Int) (y) (h : adR (m, ()) = some y) : (auK m).toO = some y := by
 simpa [adR, auK, TT.toO] using h
theorem auM (m : List Int) (y) (h : ac5 (m, ()) = some y) : (auL m).toO = some y := by
 unfold ac5 at h
 split at h
 ·rename_i hp
  obtain ⟨hd, hl⟩ := hp
  simp only at hd hl
  injection h with h
  subst h
  refine uO (m, ()) rfl ?_
  refine aaS (fun i => Dg 1000000000 i.1 ∧ i.1.length ≤ 2000000000000 ∧ V 1000000000 i.1 = V 1000000000 m) (fun i => i.1.length) (fun _ => (mag (V 1000000000 m).toNat, ())) ?_ _ ⟨hd, hl, rfl⟩
  rintro ⟨l, u⟩ ⟨h1, h2, h3⟩
  simp only at h1 h2 h3
  have hfin : Cn l → l = mag (V 1000000000 m).toNat := fun hc => ar9 h1 hc (by rw [h3]; have := aaO zb hd; omega)
  unfold ayC
  by_cases hz : l = []
  ·subst hz
   right
   repeat refine za ?_
   rw [← hfin arS]; rfl
  ·have hlen : 0 < l.length := zM.2 hz
   have hw : w64 (len l - 1) = ((l.length - 1 : Nat) : Int) := by rw [aaI]; simp (disch := omega) only [aaA]; omega
   have hg : gi l ((l.length - 1 : Nat) : Int) 0 = l[l.length - 1] := aQy rfl zb
   simp only [hw, hg]
   by_cases h0 : l[l.length - 1] = 0
   ·left
    refine ⟨(l.take (l.length - 1), ()), ?_, ⟨acT h1 _, ?_, ?_⟩, ?_, trivial⟩
    ·repeat refine za ?_
     rfl
    ·simp; omega
    ·have := ajX 1000000000 (l := l) (i := l.length - 1) zb
     rw [h0, show l.length - 1 + 1 = l.length by omega, zu] at this
     rw [← h3, this]; simp
    ·simp; omega
   ·right
    repeat refine za ?_
    rw [← hfin (by unfold Cn; rw [yR, zJ zb]; simpa using h0)]; rfl
 ·cases h
theorem aCF (m : List Int) (y) (h : alS (m, ()) = some y) : (ayD m).toO = some y := by
 obtain ⟨n, hn, hx, rfl⟩ := aaH h
 injection hx with hx
 subst hx
 have hl : (mag n).length ≤ 2 := mag_length_le_iff.2 zb
 have hd := ahG n
 have hV := anA n
 refine uO (((mag n).length : Int) - 1, 0, ()) ?_ ?_
 ·repeat refine za ?_
  show some (w64 ((mag n).length - 1), (0 : Int), ()) = _
  rw [aaA (x := ((mag n).length : Int) - 1) zb]
 refine aaS (fun i => ∃ k : Nat, k ≤ (mag n).length ∧ i.1 = (k : Int) - 1 ∧ i.2.1 = V 1000000000 ((mag n).drop k)) (fun i => (i.1 + 1).toNat) (fun _ => ((n : Int), ())) ?_ _ ⟨_, zj _, rfl, by simp [V]⟩
 rintro ⟨i, v, u⟩ ⟨k, h1, h2, h3⟩
 simp only at h2 h3
 subst h2 h3
 unfold auO
 rcases zC k with h0 | h0
 ·subst h0
  right
  repeat refine za ?_
  simp only [yE, hV]
  rfl
 ·left
  obtain ⟨j, rfl⟩ : ∃ j, k = j + 1 := ⟨k - 1, by omega⟩
  have e1 := aaR 1000000000 (mag n) j
  have e2 := aa5 zb hd j
  have e3 := aaO zb (ac8 hd j)
  have e4 := aaO zb (ac8 hd (j + 1))
  have e5 := aL7 zb hd j
  have e6 : ((j + 1 : Nat) : Int) - 1 = (j : Int) := zb
  rw [e6]
  refine ⟨((j : Int) - 1, V 1000000000 ((mag n).drop j), ()), ?_, ⟨j, by omega, rfl, rfl⟩, by simp only; omega, rfl⟩
  repeat refine za ?_
  simp only [aaP]
  rw [aaA (x := (j : Int) - 1) zb, aaM (x := V 1000000000 ((mag n).drop (j + 1)) * 1000000000) zb, aaM (x := (mag n).getD j 0) zb, aaM zb, e1, aaQ]
  rw [Int.add_comm, xg]
theorem awV (m o : List Int) (y) (h : aeC (m, o, ()) = some y) : (akQ m o).toO = some y := by
 obtain ⟨⟨a, b⟩, hn, hx, rfl⟩ := aaH h
 obtain ⟨rfl, hx2⟩ := Prod.mk.inj hx
 obtain ⟨rfl, -⟩ := Prod.mk.inj hx2
 dsimp only
 obtain ⟨l1, l2⟩ := hn
 simp only at l1 l2
 unfold akQ
 have hda := ahG a
 have hdb := ahG b
 have hVa := anA a
 have hVb := anA b
 rcases Nat.lt_trichotomy (mag a).length (mag b).length with hl | hl | hl
 ·have := al8 hl
  repeat refine za ?_
  simp only [aaQ, awY]
  rw [if_pos (show (a : Int) < b by omega)]
 ·refine uF sd ?_
  refine uO (((mag a).length : Int) - 1, ()) ?_ ?_
  ·repeat refine za ?_
   show some (w64 ((mag a).length - 1), ()) = _
   rw [aaA (x := ((mag a).length : Int) - 1) zb]
  refine aaS (fun i => ∃ k : Nat, k ≤ (mag a).length ∧ i.1 = (k : Int) - 1 ∧ V 1000000000 ((mag a).drop k) = V 1000000000 ((mag b).drop k)) (fun i => (i.1 + 1).toNat) (fun _ => (awY a b, ())) ?_ _ ⟨_, zj _, rfl, by rw [adK _ (zj _), adK _ zb]⟩
  rintro ⟨i, u⟩ ⟨k, h1, h2, h3⟩
  simp only at h2 h3
  subst h2
  unfold an5
  rcases zC k with h0 | h0
  ·subst h0
   right
   repeat refine za ?_
   simp only [yE, hVa, hVb] at h3
   simp only [aaQ, awY]
   rw [if_neg zb, if_pos h3]
  ·obtain ⟨j, rfl⟩ : ∃ j, k = j + 1 := ⟨k - 1, by omega⟩
   have e6 : ((j + 1 : Nat) : Int) - 1 = (j : Int) := zb
   simp only [e6, aaP]
   have a1 := acU 1000000000 (mag a) j
   have b1 := acU 1000000000 (mag b) j
   have a2 := aaR 1000000000 (mag a) j
   have b2 := aaR 1000000000 (mag b) j
   have a3 := adQ zb hda j
   have b3 := adQ zb hdb j
   have a4 := aaO zb (acT hda j)
   have b4 := aaO zb (acT hdb j)
   have hp : (1 : Int) ≤ 1000000000 ^ j := az4 zb j
   rcases wk ((mag a).getD j 0) ((mag b).getD j 0) with hc | hc | hc
   ·right
    repeat refine za ?_
    have h5 : (1000000000 : Int) ^ j * (V 1000000000 ((mag a).drop j) + 1) ≤ 1000000000 ^ j * V 1000000000 ((mag b).drop j) := zy zb zb
    rw [wi] at h5
    simp only [aaQ, awY]
    rw [if_pos (show (a : Int) < b by omega)]
   ·left
    refine ⟨((j : Int) - 1, ()), ?_, ⟨j, by omega, rfl, by omega⟩, by simp only; omega, trivial⟩
    repeat refine za ?_
    rw [aaA (x := (j : Int) - 1) zb]; rfl
   ·right
    repeat refine za ?_
    have h5 : (1000000000 : Int) ^ j * (V 1000000000 ((mag b).drop j) + 1) ≤ 1000000000 ^ j * V 1000000000 ((mag a).drop j) := zy zb zb
    rw [wi] at h5
    simp only [aaQ, awY]
    rw [if_neg (show ¬ (a : Int) < b by omega), if_neg (show ¬ (a : Int) = b by omega)]
 ·have := al8 hl
  repeat refine za ?_
  simp only [aaQ, awY]
  rw [if_neg (show ¬ (a : Int) < b by omega), if_neg (show ¬ (a : Int) = b by omega)]
end Go.Vs
