/-
  Trees of what the functions compute, and their laws. Own work; no condition.
-/
import Derived.Test.YtakjojajnblpoaaGreatDoorClL6
import Derived.Test.YtakjojajnblpoaaGreatDoorProg
set_option linter.unusedVariables false
set_option linter.unusedSimpArgs false
namespace Go.Vs
open Go Go.Vg
theorem aBW : acE = mkRat 1000000000000 1 := by rw [aeE]; rfl
theorem aBr (N : Int) {d : Nat} (hd : d ≠ 0) : agJ (mkRat N d) (mkRat N d) = mkB 6 (N * 1000000000000 / d) (-(-(N * 1000000000000) / d)) := by
 unfold agJ
 rw [aBW, yO, xF, Rat.neg_mkRat, ap7 _ hd, ap7 _ hd]
theorem ahL {m a n : Int} (hm : inR m (-100000000) 100000000) (ha : inR a (-100000000) 100000000) (hn : inU n) :
  aB3 m a (mkRat n 1000000000000) = some (mkRat (ab2 m a n) 1000000000000000000) ∧ adK (mkRat (ab2 m a n) 1000000000000000000) := by
 obtain ⟨b1, b2⟩ := au4 hm ha hn
 have c := au4 hm (a := 0) ⟨by omega, by omega⟩ hn
 obtain ⟨c1, c2⟩ := c
 have e : ab2 m 0 n = m * n := by unfold ab2; omega
 rw [e] at c1 c2
 have f1 : adK (mkRat (m * n) 1000000000000) := ad8 zc (afP zc zc) (afP zc zc)
 have f2 : adK (mkRat (ab2 m a n) 1000000000000) := ad8 zc (afP zc zc) (afP zc zc)
 have f3 : adK (mkRat (ab2 m a n) 1000000000000000000) := ad8 zc (afP zc zc) (afP zc zc)
 refine ⟨?_, f3⟩
 unfold aB3
 rw [yO, Nat.one_mul]
 unfold acI
 rw [if_pos f1]
 simp only [zX]
 have g2 : mkRat (m * n) 1000000000000 + mkRat a 1 = mkRat (ab2 m a n) 1000000000000 := by
  rw [xu _ _ zc zc]
  unfold ab2
  rw [xF]; simp
 rw [g2, if_pos f2]
 simp only [zX]
 have g3 : mkRat (ab2 m a n) 1000000000000 / mkRat 1000000 1 = mkRat (ab2 m a n) 1000000000000000000 := by
  have hm : mkRat (ab2 m a n) 1000000000000 = mkRat (ab2 m a n) 1000000000000000000 * mkRat 1000000 1 := by
   rw [yO, yc zc zc]; omega
  rw [hm, Rat.div_def, Rat.mul_assoc, Rat.mul_inv_cancel _ (aHX zc), Rat.mul_one]
 rw [g3, if_pos f3]
theorem az3 {N : Int} (h1 : -200000000000000000000 ≤ N) (h2 : N ≤ 200000000000000000000) : agJ (mkRat N 1000000000000000000) (mkRat N 1000000000000000000) = ((N / 1000000, -(-N / 1000000), ()), 0, ()) := by
 rw [aBr _ zc]
 have e1 : N * 1000000000000 / ((1000000000000000000 : Nat) : Int) = N / 1000000 := zc
 have e2 : -(N * 1000000000000) / ((1000000000000000000 : Nat) : Int) = -N / 1000000 := zc
 rw [e1, e2]
 unfold mkB
 rw [if_pos ⟨by omega, by omega, by omega⟩]
theorem aK4 {n : Int} (h : inR n (-100000000) 100000000) : agJ (mkRat n 1000000) (mkRat n 1000000) = ((n * 1000000, n * 1000000, ()), 0, ()) := by
 obtain ⟨h1, h2⟩ := h
 rw [aBr _ zc]
 have e1 : n * 1000000000000 / ((1000000 : Nat) : Int) = n * 1000000 := zc
 have e2 : -(-(n * 1000000000000) / ((1000000 : Nat) : Int)) = n * 1000000 := zc
 rw [e1, e2]
 unfold mkB
 rw [if_pos ⟨by omega, by omega, by omega⟩]
theorem awS {n : Int} (h : inU n) : aa8 n := ⟨by have := h.1; omega, by have := h.2; omega⟩
theorem ap8 {n : Int} (h : inU n) : adK (mkRat n 1000000000000) := ad8 zc (abJ (awS h)) (abJ ⟨by omega, by omega⟩)
theorem aH2 (a : Int) : (if 0 > a then 0 else a) = max a 0 := by split <;> omega
theorem aIi {a b : BdT} (h : (aIj a b).2.1 = 0) : okB (aIj a b).1.1 (aIj a b).1.2.1 := by
 unfold aIj mkB at *
 split
 ·rename_i c
  rw [if_pos c] at h
  split
  ·assumption
  ·rename_i d; rw [if_neg d] at h; exact absurd h zf
 ·rename_i c; rw [if_neg c] at h; exact absurd h zf
theorem axR {b : BdT} (h : okB b.1 b.2.1) : aAT b 0 1000000000000 = (anP b, 0, ()) := by
 unfold aAT
 rw [if_pos h, if_pos ⟨by omega, by omega, by omega⟩]; rfl
theorem aCx (p : PcT) (lo hi : Int) (y) (h : adV (p, lo, hi, ()) = some y) : (aoW p lo hi).toO = some y := by
 unfold adV at h
 split at h
 case isFalse => cases h
 case isTrue hp =>
 obtain ⟨hn, hlo, hhi⟩ := hp
 dsimp only at hn hlo hhi h
 injection h with h
 subst h
 obtain ⟨l1, f1⟩ := ahL hn.1 hn.2.1 hlo
 obtain ⟨l2, f2⟩ := ahL hn.1 hn.2.1 hhi
 obtain ⟨b1, b2⟩ := au4 hn.1 hn.2.1 hlo
 obtain ⟨b3, b4⟩ := au4 hn.1 hn.2.1 hhi
 have io := aoK hn.2.2.1 zc zc
 unfold aoW
 refine uC _ (afN (d := 1000000000000) (awS hlo) zc zc) ?_
 refine uC _ (ay4 (p := p) (ap8 hlo) hn) ?_
 rw [l1]
 refine uF rfl ?_
 refine uC _ (afN (d := 1000000000000) (awS hhi) zc zc) ?_
 refine uC _ (ay4 (p := p) (ap8 hhi) hn) ?_
 rw [l2]
 refine uF rfl ?_
 have t1 := az3 b1 b2
 have t2 := az3 b3 b4
 have ha : ae0 ([fx (mkRat (ab2 p.1.2.1 p.1.2.2.1 lo) 1000000000000000000), fx (mkRat (ab2 p.1.2.1 p.1.2.2.1 hi) 1000000000000000000)], ()) = some (ae3 (agJ (mkRat (ab2 p.1.2.1 p.1.2.2.1 lo) 1000000000000000000) (mkRat (ab2 p.1.2.1 p.1.2.2.1 lo) 1000000000000000000)).1 (agJ (mkRat (ab2 p.1.2.1 p.1.2.2.1 hi) 1000000000000000000) (mkRat (ab2 p.1.2.1 p.1.2.2.1 hi) 1000000000000000000)).1, 0, ()) := by
  refine aaI (enc := fun l : List Rat => (l.map (fun q => fx q), ())) [mkRat (ab2 p.1.2.1 p.1.2.2.1 lo) 1000000000000000000, mkRat (ab2 p.1.2.1 p.1.2.2.1 hi) 1000000000000000000] ⟨by simp, by simp, fun q hq => ?_⟩ (fun b hb => ?_)
  ·rcases zx.1 hq with e | e
   ·subst e; exact ⟨f1, by rw [t1]⟩
   ·rw [zZ.1 e]; exact ⟨f2, by rw [t2]⟩
  ·have := (Prod.mk.inj hb).1
   exact List.map_inj_right (fun a b hab => anX hab) |>.1 this
 refine uC _ ha (uF rfl ?_)
 rw [t1, t2]
 simp only [ae3]
 refine uC (auM (anR p.1 lo hi) p.1.2.2.2.1 p.1.2.2.2.2.1) (by unfold anR; rw [← aH2, ← aH2]; rfl) ?_
 unfold agT
 generalize auM (anR p.1 lo hi) p.1.2.2.2.1 p.1.2.2.2.2.1 = w
 by_cases c1 : w.2.1 = 0
 case neg => rw [if_pos c1]; exact uT (by simpa using c1) rfl
 rw [if_neg (fun h => h c1)]
 refine uF (by simpa using c1) (uC _ (afN (d := 1000000) io zc zc) (uC _ (ay5 (am8 io)) ?_))
 rw [aK4 hn.2.2.1]
 refine uF rfl (uC (aIj w.1 (p.1.2.2.2.2.2.1 * 1000000, p.1.2.2.2.2.2.1 * 1000000, ())) rfl ?_)
 have hok := @aIi w.1 (p.1.2.2.2.2.2.1 * 1000000, p.1.2.2.2.2.2.1 * 1000000, ())
 generalize aIj w.1 (p.1.2.2.2.2.2.1 * 1000000, p.1.2.2.2.2.2.1 * 1000000, ()) = z at hok
 by_cases c2 : z.2.1 = 0
 case neg => rw [if_pos c2]; exact uT (by simpa using c2) rfl
 rw [if_neg (fun h => h c2)]
 refine uF (by simpa using c2) (uC (aAT z.1 0 1000000000000) rfl ?_)
 rw [axR (hok c2)]; rfl
set_option maxRecDepth 100000
open Go Go.Vg Go.Proofs
noncomputable section
def auS : LTab := [(128, 14, 17409, ⟨0, (Int) × (Int) × Bool × (List uo) × Unit, .dat (.s 9) uk <| .dat (.s 3) uk <| .appN (.c 4 0) 17 53 tH <| .nil, [8, 7, 0], [11, 7, 4, 3, 2, 1, 0], 1⟩)]
def aeC (x : Int × Int × Unit) (c : um × Unit) (i : (Int) × (Int) × Bool × (List uo) × Unit) : TT tu :=
 .ite (decide (x.1 > w64 ((gi c.1.2.2.1 i.1 (0, 0, 0, 0, 0, 0, ())).1 * 1000000)))
 (.tt <| .lt (w64 (i.1 + 1) : Int) fun z15 => .lt ((gi c.1.2.2.1 i.1 (0, 0, 0, 0, 0, 0, ())).1 : Int) fun z16 => .lt (i.2.2.2.1 : List uo) fun z17 => .vT (ub z16 z15 (len c.1.2.2.1) c.1.2.2.1 <| tG ∧ True) <| .vT (vS (vX 53 z17) <| vS (ui (LoopState.ready : LoopState) (none : Option Code) 64 (#[13] : Array Tmp) (alE (acN Tryz.f58) [1, 1, 0, 1, 0, 0]) (alE (acN Tryz.f58) [1, 1, 0, 1, 0, 1]) <| (vU (128 : FuncId) <| True ∧ tJ ∧ True) ∧ (vU ((c.1.1, c.1.2.1, c.1.2.2.1, ()) : Int × List Int × List uj × Unit) <| uq ∧ tb ∧ uD ∧ uQ ∧ uy ∧ uq ∧ uf c x)) <| vS (vV 42 c.1.1 c.1.2.1 c.1.2.2.1) <| vS (vU 169 <| (vY 17 0 (List.length z17) true) ∧ True) <| vS tN <| vS ur <| vS (vW 53 x.1 x.2.1) <| vS (vV 96 c.1.1 c.1.2.1 c.1.2.2.1) True) <| .ok (.inl ((z15, z16, false, z17, ()))))
 (.call (adV ((((gi c.1.2.2.1 i.1 (0, 0, 0, 0, 0, 0, ())).1, (gi c.1.2.2.1 i.1 (0, 0, 0, 0, 0, 0, ())).2.1, (gi c.1.2.2.1 i.1 (0, 0, 0, 0, 0, 0, ())).2.2.1, (gi c.1.2.2.1 i.1 (0, 0, 0, 0, 0, 0, ())).2.2.2.1, (gi c.1.2.2.1 i.1 (0, 0, 0, 0, 0, 0, ())).2.2.2.2.1, (gi c.1.2.2.1 i.1 (0, 0, 0, 0, 0, 0, ())).2.2.2.2.2.1, ()), i.2.1, i.1 == 0, ()), if w64 (i.2.1 * 1000000) > x.1 then w64 (i.2.1 * 1000000) else x.1, if w64 ((gi c.1.2.2.1 i.1 (0, 0, 0, 0, 0, 0, ())).1 * 1000000) < x.2.1 then w64 ((gi c.1.2.2.1 i.1 (0, 0, 0, 0, 0, 0, ())).1 * 1000000) else x.2.1, ())) atE fun y3 =>
 .ite (y3.2.1 != 0)
 (.ok (.inr (((0, 0, ()), y3.2.1, ()))))
 (.need ((List.length i.2.2.2.1 + 1) * 16 ≤ 140737488355328) <| .tt <| .lt (w64 (i.1 + 1) : Int) fun z18 => .lt ((gi c.1.2.2.1 i.1 (0, 0, 0, 0, 0, 0, ())).1 : Int) fun z19 => .lt (List.take (List.length i.2.2.2.1) i.2.2.2.1 ++ [(y3.1.1, y3.1.2.1, ())] : List uo) fun z20 => .vT (ub z19 z18 (len c.1.2.2.1) c.1.2.2.1 <| tG ∧ True) <| .need ((((53 : TypeId) = 53) ∧ ((z20 : List uo) = z20)) ∧ (true = true) ∧ (((LoopState.ready : LoopState) = LoopState.ready) ∧ (((none : Option Code) = none) ∧ (((64) = (64)) ∧ (((#[13] : Array Tmp) = #[13]) ∧ (((alE (acN Tryz.f58) [1, 1, 0, 1, 0, 0]) = (alE (acN Tryz.f58) [1, 1, 0, 1, 0, 0])) ∧ (((alE (acN Tryz.f58) [1, 1, 0, 1, 0, 1]) = (alE (acN Tryz.f58) [1, 1, 0, 1, 0, 1])) ∧ ((((128 : FuncId) = 128) ∧ (True ∧ ((((7) = (7)) ∧ (((0) = (0)) ∧ ((true) = (true)))) ∧ True))) ∧ ((((c.1.1, c.1.2.1, c.1.2.2.1, ()) : Int × List Int × List uj × Unit) = (c.1.1, c.1.2.1, c.1.2.2.1, ())) ∧ ((((0) = (0)) ∧ (((0) = (0)) ∧ ((true) = (true)))) ∧ ((((4) = (4)) ∧ (((0) = (0)) ∧ ((true) = (true)))) ∧ ((((3) = (3)) ∧ (((0) = (0)) ∧ ((true) = (true)))) ∧ ((((2) = (2)) ∧ (((0) = (0)) ∧ ((true) = (true)))) ∧ ((((1) = (1)) ∧ (((0) = (0)) ∧ ((true) = (true)))) ∧ ((((0) = (0)) ∧ (((0) = (0)) ∧ ((true) = (true)))) ∧ (((c) = (c)) ∧ (((x) = (x)) ∧ True)))))))))))))))) ∧ (true = true) ∧ (((42 : TypeId) = 42) ∧ (((c.1.1 : Int) = c.1.1) ∧ (((c.1.2.1 : List Int) = c.1.2.1) ∧ (((c.1.2.2.1 : List uj) = c.1.2.2.1) ∧ True)))) ∧ (true = true) ∧ (((169 : TypeId) = 169) ∧ ((((17) = (17)) ∧ (((0) = (0)) ∧ ((List.length i.2.2.2.1 + 1 = List.length z20) ∧ ((true) = (true))))) ∧ True)) ∧ (true = true) ∧ (((48 : TypeId) = 48) ∧ (((0 : Int) = 0) ∧ True)) ∧ (true = true) ∧ (((53 : TypeId) = 53) ∧ (((0 : Int) = 0) ∧ (((0 : Int) = 0) ∧ True))) ∧ (true = true) ∧ (((53 : TypeId) = 53) ∧ (((x.1 : Int) = x.1) ∧ (((x.2.1 : Int) = x.2.1) ∧ True))) ∧ (true = true) ∧ (((96 : TypeId) = 96) ∧ (((c.1.1 : Int) = c.1.1) ∧ (((c.1.2.1 : List Int) = c.1.2.1) ∧ (((c.1.2.2.1 : List uj) = c.1.2.2.1) ∧ True)))) ∧ (true = true) ∧ True) <| .ok (.inl ((z18, z19, false, z20, ())))))
def aeB (x : Int × Int × Unit) (c : um × Unit) (i : (Int) × (Int) × Bool × (List uo) × Unit) : TT tu :=
 .ite (decide (x.1 > w64 ((gi c.1.2.2.1 i.1 (0, 0, 0, 0, 0, 0, ())).1 * 1000000)))
 (.tt <| .lt (w64 (i.1 + 1) : Int) fun z2 => .lt ((gi c.1.2.2.1 i.1 (0, 0, 0, 0, 0, 0, ())).1 : Int) fun z3 => .vT (ub z3 z2 (len c.1.2.2.1) c.1.2.2.1 <| tG ∧ True) <| .vT (vS (ui (LoopState.ready : LoopState) (none : Option Code) 64 (#[13] : Array Tmp) (alE (acN Tryz.f58) [1, 1, 0, 1, 0, 0]) (alE (acN Tryz.f58) [1, 1, 0, 1, 0, 1]) <| (vU (128 : FuncId) <| True ∧ tJ ∧ True) ∧ (vU ((c.1.1, c.1.2.1, c.1.2.2.1, ()) : Int × List Int × List uj × Unit) <| uq ∧ tb ∧ uD ∧ uQ ∧ uy ∧ uq ∧ uf c x)) <| vS (vV 42 c.1.1 c.1.2.1 c.1.2.2.1) <| vS sf <| vS tN <| vS ur <| vS (vW 53 x.1 x.2.1) <| vS (vV 96 c.1.1 c.1.2.1 c.1.2.2.1) True) <| .ok (.inl ((z2, z3, true, [], ()))))
 (.call (adV ((((gi c.1.2.2.1 i.1 (0, 0, 0, 0, 0, 0, ())).1, (gi c.1.2.2.1 i.1 (0, 0, 0, 0, 0, 0, ())).2.1, (gi c.1.2.2.1 i.1 (0, 0, 0, 0, 0, 0, ())).2.2.1, (gi c.1.2.2.1 i.1 (0, 0, 0, 0, 0, 0, ())).2.2.2.1, (gi c.1.2.2.1 i.1 (0, 0, 0, 0, 0, 0, ())).2.2.2.2.1, (gi c.1.2.2.1 i.1 (0, 0, 0, 0, 0, 0, ())).2.2.2.2.2.1, ()), i.2.1, i.1 == 0, ()), if w64 (i.2.1 * 1000000) > x.1 then w64 (i.2.1 * 1000000) else x.1, if w64 ((gi c.1.2.2.1 i.1 (0, 0, 0, 0, 0, 0, ())).1 * 1000000) < x.2.1 then w64 ((gi c.1.2.2.1 i.1 (0, 0, 0, 0, 0, 0, ())).1 * 1000000) else x.2.1, ())) atE fun y =>
 .ite (y.2.1 != 0)
 (.ok (.inr (((0, 0, ()), y.2.1, ()))))
 (.need (1 * 16 ≤ 140737488355328) <| .tt <| .lt (w64 (i.1 + 1) : Int) fun z4 => .lt ((gi c.1.2.2.1 i.1 (0, 0, 0, 0, 0, 0, ())).1 : Int) fun z5 => .lt ([(y.1.1, y.1.2.1, ())] : List uo) fun z6 => .vT (ub z5 z4 (len c.1.2.2.1) c.1.2.2.1 <| tG ∧ True) <| .vT (vS (vX 53 z6) <| vS (ui (LoopState.ready : LoopState) (none : Option Code) 64 (#[13] : Array Tmp) (alE (acN Tryz.f58) [1, 1, 0, 1, 0, 0]) (alE (acN Tryz.f58) [1, 1, 0, 1, 0, 1]) <| (vU (128 : FuncId) <| True ∧ tJ ∧ True) ∧ (vU ((c.1.1, c.1.2.1, c.1.2.2.1, ()) : Int × List Int × List uj × Unit) <| uq ∧ tb ∧ uD ∧ uQ ∧ uy ∧ uq ∧ uf c x)) <| vS (vV 42 c.1.1 c.1.2.1 c.1.2.2.1) <| vS (vU 169 <| (vY 17 0 1 true) ∧ True) <| vS tN <| vS ur <| vS (vW 53 x.1 x.2.1) <| vS (vV 96 c.1.1 c.1.2.1 c.1.2.2.1) True) <| .ok (.inl ((z4, z5, false, z6, ())))))
def ajL (c : um × Unit) (x : Int × Int × Unit) (i : (Int) × (Int) × Bool × (List uo) × Unit) : TT tu :=
 .ite (i.2.2.1)
 (.ite (decide (i.1 < len c.1.2.2.1))
  (.need (inb i.1 (len c.1.2.2.1)) <| .ite (!i.1 == 0)
   (.ite (decide (x.2.1 ≤ w64 (i.2.1 * 1000000)))
    (.tt <| .lt (w64 (i.1 + 1) : Int) fun z => .lt ((gi c.1.2.2.1 i.1 (0, 0, 0, 0, 0, 0, ())).1 : Int) fun z1 => .vT (ub z1 z (len c.1.2.2.1) c.1.2.2.1 <| tG ∧ True) <| .vT (vS (ui (LoopState.ready : LoopState) (none : Option Code) 64 (#[13] : Array Tmp) (alE (acN Tryz.f58) [1, 1, 0, 1, 0, 0]) (alE (acN Tryz.f58) [1, 1, 0, 1, 0, 1]) <| (vU (128 : FuncId) <| True ∧ tJ ∧ True) ∧ (vU ((c.1.1, c.1.2.1, c.1.2.2.1, ()) : Int × List Int × List uj × Unit) <| uq ∧ tb ∧ uD ∧ uQ ∧ uy ∧ uq ∧ uf c x)) <| vS (vV 42 c.1.1 c.1.2.1 c.1.2.2.1) <| vS sf <| vS tN <| vS ur <| vS (vW 53 x.1 x.2.1) <| vS (vV 96 c.1.1 c.1.2.1 c.1.2.2.1) True) <| .ok (.inl ((z, z1, true, [], ()))))
    (aeB x c i))
   (aeB x c i))
  (.call (aiQ ([], ())) atE fun y2 =>
   .ok (.inr (((y2.1.1, y2.1.2.1, ()), y2.2.1, ())))))
 (.ite (decide (i.1 < len c.1.2.2.1))
  (.need (inb i.1 (len c.1.2.2.1)) <| .ite (!i.1 == 0)
   (.ite (decide (x.2.1 ≤ w64 (i.2.1 * 1000000)))
    (.tt <| .lt (w64 (i.1 + 1) : Int) fun z12 => .lt ((gi c.1.2.2.1 i.1 (0, 0, 0, 0, 0, 0, ())).1 : Int) fun z13 => .lt (i.2.2.2.1 : List uo) fun z14 => .vT (ub z13 z12 (len c.1.2.2.1) c.1.2.2.1 <| tG ∧ True) <| .vT (vS (vX 53 z14) <| vS (ui (LoopState.ready : LoopState) (none : Option Code) 64 (#[13] : Array Tmp) (alE (acN Tryz.f58) [1, 1, 0, 1, 0, 0]) (alE (acN Tryz.f58) [1, 1, 0, 1, 0, 1]) <| (vU (128 : FuncId) <| True ∧ tJ ∧ True) ∧ (vU ((c.1.1, c.1.2.1, c.1.2.2.1, ()) : Int × List Int × List uj × Unit) <| uq ∧ tb ∧ uD ∧ uQ ∧ uy ∧ uq ∧ uf c x)) <| vS (vV 42 c.1.1 c.1.2.1 c.1.2.2.1) <| vS (vU 169 <| (vY 17 0 (List.length z14) true) ∧ True) <| vS tN <| vS ur <| vS (vW 53 x.1 x.2.1) <| vS (vV 96 c.1.1 c.1.2.1 c.1.2.2.1) True) <| .ok (.inl ((z12, z13, false, z14, ()))))
    (aeC x c i))
   (aeC x c i))
  (.call (aiQ (List.take (List.length i.2.2.2.1) i.2.2.2.1, ())) atE fun y5 =>
   .ok (.inr (((y5.1.1, y5.1.2.1, ()), y5.2.1, ())))))
def agU (c : um × Unit) (x : Int × Int × Unit) : TT uA :=
 .tt <| .tt <| .tt <| .tt <| .loop 0 (.tt <| .vT (ub (0 : Int) (0 : Int) (len c.1.2.2.1) c.1.2.2.1 <| tG ∧ True) <| .vT (vS (ui (LoopState.ready : LoopState) (none : Option Code) 64 (#[13] : Array Tmp) (alE (acN Tryz.f58) [1, 1, 0, 1, 0, 0]) (alE (acN Tryz.f58) [1, 1, 0, 1, 0, 1]) <| (vU (128 : FuncId) <| True ∧ tJ ∧ True) ∧ (vU ((c.1.1, c.1.2.1, c.1.2.2.1, ()) : Int × List Int × List uj × Unit) <| uq ∧ tb ∧ uD ∧ uQ ∧ uy ∧ uq ∧ uf c x)) <| vS (vV 42 c.1.1 c.1.2.1 c.1.2.2.1) <| vS sf <| vS tN <| vS ur <| vS (vW 53 x.1 x.2.1) <| vS (vV 96 c.1.1 c.1.2.1 c.1.2.2.1) True) <| .ok ((0, 0, true, [], ()))) (ajL c x)
end
theorem an9 : ∀ (l : List adJ) (last : Int), ahE last l → ∀ j, j < l.length → last < (l.getD j zs).1 ∧ (j + 1 < l.length → (l.getD j zs).1 < (l.getD (j + 1) zs).1)
 | [], _, _, j, hj => by cases hj
 | s :: r, last, h, 0, _ => by
  refine ⟨by have := h.1.2.1; show last < s.1; omega, fun h2 => ?_⟩
  have := (an9 r s.1 h.2 0 (by simpa using h2)).1
  exact this
 | s :: r, last, h, j + 1, hj => by
  have := an9 r s.1 h.2 j (by simpa using hj)
  refine ⟨by have := h.1.2.1; have := this; show last < (r.getD j zs).1; omega, fun h2 => this.2 (by simpa using h2)⟩
theorem aK3 {l : List adJ} (h : ac0 l) {i j : Nat} (hij : i < j) (hj : j < l.length) : (l.getD i zs).1 < (l.getD j zs).1 := by
 induction j with
 | zero => omega
 | succ j ih =>
  have h1 := (an9 l 0 h.2.2 j zc).2 hj
  rcases zr i j with g | g
  ·have := ih g zc; omega
  ·obtain rfl : i = j := zc
   exact h1
theorem ag8 {n : Int} {l : List adJ} (h : ac0 l) (hn : inU n) : aa2 n l < l.length ∧ n ≤ (l.getD (aa2 n l) zs).1 * 1000000 ∧ ∀ j, j < aa2 n l → ¬ n ≤ (l.getD j zs).1 * 1000000 := by
 have h1 : aa2 n l < l.length := by
  obtain ⟨s, hs, e⟩ := aoA l 0 h.2.2 zc
  exact List.findIdx_lt_length_of_exists ⟨s, hs, zo (by rw [e]; exact hn.2)⟩
 refine ⟨h1, ?_, fun j hj => ?_⟩
 ·have := List.findIdx_getElem (p := fun s : adJ => decide (n ≤ s.1 * 1000000)) (xs := l) (w := h1)
  rw [asF h1]
  exact of_decide_eq_true this
 ·have := List.not_of_lt_findIdx (p := fun s : adJ => decide (n ≤ s.1 * 1000000)) (xs := l) hj
  rw [asF (show j < l.length by omega)]
  simpa using this
theorem ag7 {n : Int} {l : List adJ} (h : ac0 l) (hn : inU n) {k : Nat} (hk : k < l.length) : n ≤ (l.getD k zs).1 * 1000000 ↔ aa2 n l ≤ k := by
 obtain ⟨h1, h2, h3⟩ := ag8 h hn
 constructor
 ·intro g
  rcases zr k (aa2 n l) with c | c
  ·exact absurd g (h3 k c)
  ·exact c
 ·intro g
  rcases zr (aa2 n l) k with c | c
  ·have := aK3 h c hk; omega
  ·obtain rfl : aa2 n l = k := zc
   exact h2
theorem ahW {n : Int} {l : List adJ} (h : ac0 l) (hn : inU n) {k : Nat} (hk0 : k ≠ 0) (hk : k < l.length) : n ≤ abD l k * 1000000 ↔ aa2 n l < k := by
 unfold abD
 rw [if_neg hk0, ag7 h hn (show k - 1 < l.length by omega)]
 omega
theorem aA0 {l : List adJ} (h : ac0 l) {k : Nat} (hk : k ≤ l.length) : inR (abD l k) 0 1000000 := by
 unfold abD
 split
 ·exact ⟨by omega, by omega⟩
 ·exact (avT h (show k - 1 < l.length by omega)).2
theorem aOG {s : adJ} {a b : Int} (h : (agT s a b).2.1 = 0) : okB (agT s a b).1.1 (agT s a b).1.2.1 := by
 unfold agT at *
 generalize auM (anR s a b) s.2.2.2.1 s.2.2.2.2.1 = w at *
 by_cases c1 : w.2.1 = 0
 case neg => rw [if_pos c1] at h; exact absurd h c1
 rw [if_neg (fun h => h c1)] at h ⊢
 have hok := @aIi w.1 (s.2.2.2.2.2.1 * 1000000, s.2.2.2.2.2.1 * 1000000, ())
 generalize aIj w.1 (s.2.2.2.2.2.1 * 1000000, s.2.2.2.2.2.1 * 1000000, ()) = z at *
 by_cases c2 : z.2.1 = 0
 case neg => rw [if_pos c2] at h; exact absurd h c2
 rw [if_neg (fun h => h c2)]
 obtain ⟨o1, o2, o3⟩ := hok c2
 unfold anP okB
 dsimp only
 omega
theorem aHm {p : PcT} {lo hi : Int} (h1 : agX p.1) (h2 : inU lo) (h3 : inU hi) : adV (p, lo, hi, ()) = some (agT p.1 lo hi) := by
 unfold adV; exact if_pos ⟨h1, h2, h3⟩
theorem aeU (l : List adJ) (lo hi : Int) (n k : Nat) (acc : List BdT) : agV l lo hi (n + 1) k acc = if (amR l lo hi k).2.1 ≠ 0 then ((0, 0, ()), (amR l lo hi k).2.1, ()) else agV l lo hi n (k + 1) (acc ++ [(amR l lo hi k).1]) := rfl
theorem aqN (c : CvT × Unit) (x : BdT) (y) (h : adA (c, x, ()) = some y) : (agU c x).toO = some y := by
 unfold adA at h
 split at h
 case isFalse => cases h
 case isTrue hp =>
 obtain ⟨hl, hlo, hhi, hle⟩ := hp
 dsimp only at hl hlo hhi hle h
 injection h with h
 subst h
 obtain ⟨⟨kind, tab, l, u0⟩, u1⟩ := c
 obtain ⟨lo, hi, u2⟩ := x
 dsimp only at hl hlo hhi hle ⊢
 have hlen := hl.2.1
 obtain ⟨pf1, pf2, pf3⟩ := ag8 hl hlo
 obtain ⟨pl1, pl2, pl3⟩ := ag8 hl hhi
 have hfl : aa2 lo l ≤ aa2 hi l := (ag7 hl hlo pl1).1 zc
 have hlo1 := hlo.1
 have hlo2 := hlo.2
 have hhi1 := hhi.1
 have hhi2 := hhi.2
 unfold agU
 refine uO (0, 0, true, [], ()) rfl ?_
 refine aaO (fun i : Int × Int × Bool × List BdT × Unit => ∃ (k : Nat) (acc : List BdT), k ≤ l.length ∧ i = ((k : Int), abD l k, acc.isEmpty, acc, ()) ∧ (k ≤ aa2 lo l → acc = []) ∧ (aa2 lo l < k → acc ≠ []) ∧ acc.length ≤ k ∧ (∀ b ∈ acc, okB b.1 b.2.1) ∧ afQ l lo hi = agV l lo hi (aa2 hi l + 1 - max k (aa2 lo l)) (max k (aa2 lo l)) acc) (fun i => ((l.length : Int) - i.1).toNat) (fun _ => afQ l lo hi) ?_ _ ⟨0, [], by omega, rfl, fun _ => rfl, fun h => by omega, by simp, by simp, by unfold afQ; rw [show max 0 (aa2 lo l) = aa2 lo l by omega]⟩
 rintro i ⟨k, acc, k1, rfl, k2, k3, k4, k5, k6⟩
 simp only [ajL, aeB, aeC, aaM]
 rcases zr k l.length with hk | hk
 ·obtain ⟨hn, ht1, ht2⟩ := avT hl hk
  obtain ⟨hb1, hb2⟩ := aA0 hl k1
  have hb3 : abD l (k + 1) = (l.getD k zs).1 := by unfold abD; rw [if_neg zc, xC]
  have hpf := ag7 hl hlo hk
  have hpl := ag7 hl hhi hk
  have wb : w64 (abD l k * 1000000) = abD l k * 1000000 := aaA zc
  have wt : w64 ((l.getD k zs).1 * 1000000) = (l.getD k zs).1 * 1000000 := aaA zc
  have wk : w64 ((k : Int) + 1) = ((k + 1 : Nat) : Int) := by rw [aaA zc]; omega
  have e1 : (if abD l k * 1000000 > lo then abD l k * 1000000 else lo) = max lo (abD l k * 1000000) := by split <;> omega
  have e2 : (if (l.getD k zs).1 * 1000000 < hi then (l.getD k zs).1 * 1000000 else hi) = min hi ((l.getD k zs).1 * 1000000) := by split <;> omega
  have hcall : ∀ b : Bool, adV ((l.getD k zs, abD l k, b, ()), (if abD l k * 1000000 > lo then abD l k * 1000000 else lo), (if (l.getD k zs).1 * 1000000 < hi then (l.getD k zs).1 * 1000000 else hi), ()) = some (amR l lo hi k) := by
   intro b
   rw [e1, e2]
   exact aHm (p := (l.getD k zs, abD l k, b, ())) hn ⟨by omega, by omega⟩ ⟨by omega, by omega⟩
  have hok : (amR l lo hi k).2.1 = 0 → okB (amR l lo hi k).1.1 (amR l lo hi k).1.2.1 := aOG
  rw [wb, wt, wk]
  by_cases ha : acc = []
  ·subst ha
   have hkf : k ≤ aa2 lo l := by
    rcases zr (aa2 lo l) k with g | g
    ·exact absurd rfl (k3 g)
    ·exact g
   refine (fun (hskip : k < aa2 lo l → ((l.getD k zs).1 * 1000000 < lo)) (hcallc : ¬ k < aa2 lo l → ¬ (l.getD k zs).1 * 1000000 < lo) => ?_) (fun g => by omega) (fun g => by omega)
   rw [show max k (aa2 lo l) = aa2 lo l by omega] at k6
   by_cases hkf2 : k < aa2 lo l
   ·left
    refine ⟨(((k + 1 : Nat) : Int), (l.getD k zs).1, true, [], ()), ?_, ⟨k + 1, [], by omega, by rw [hb3]; rfl, fun _ => rfl, fun g => by omega, by simp, by simp, by rw [show max (k + 1) (aa2 lo l) = aa2 lo l by omega]; exact k6⟩, by dsimp only; omega, ze⟩
    refine uT rfl (uT (zo (by rw [aaC]; omega)) (uN ⟨by omega, by rw [aaC]; omega⟩ ?_))
    by_cases h0 : k = 0
    ·exact uF (by rw [h0]; rfl) (uT (zo (hskip hkf2)) rfl)
    ·have hbl := ahW hl hhi h0 hk
     exact uT (by rw [zS, beq_eq_false_iff_ne]; omega) (uF sd (uT (zo (hskip hkf2)) rfl))
   ·obtain rfl : k = aa2 lo l := zc
    obtain ⟨m, hm⟩ : ∃ m, aa2 hi l + 1 - aa2 lo l = m + 1 := ⟨aa2 hi l - aa2 lo l, by omega⟩
    rw [hm, aeU] at k6
    by_cases he : (amR l lo hi (aa2 lo l)).2.1 = 0
    ·rw [if_neg (fun h => h he)] at k6
     left
     refine ⟨(((aa2 lo l + 1 : Nat) : Int), (l.getD (aa2 lo l) zs).1, false, [(amR l lo hi (aa2 lo l)).1], ()), ?_, ⟨aa2 lo l + 1, [(amR l lo hi (aa2 lo l)).1], by omega, by rw [hb3]; rfl, fun g => by omega, fun _ => by simp, by simp, fun b hb => by rw [zZ.1 hb]; exact hok he, by rw [show max (aa2 lo l + 1) (aa2 lo l) = aa2 lo l + 1 by omega, show aa2 hi l + 1 - (aa2 lo l + 1) = m by omega]; exact k6⟩, by dsimp only; omega, ze⟩
     refine uT rfl (uT (zo (by rw [aaC]; omega)) (uN ⟨by omega, by rw [aaC]; omega⟩ ?_))
     by_cases h0 : aa2 lo l = 0
     ·exact uF (by rw [h0]; rfl) (uF (zn (hcallc hkf2)) (uC _ (hcall _) (uF (by rw [he]; rfl) (uN zf rfl))))
     ·have hbl := ahW hl hhi h0 hk
      exact uT (by rw [zS, beq_eq_false_iff_ne]; omega) (uF sd (uF (zn (hcallc hkf2)) (uC _ (hcall _) (uF (by rw [he]; rfl) (uN zf rfl)))))
    ·rw [if_pos he] at k6
     right
     rw [k6]
     refine uT rfl (uT (zo (by rw [aaC]; omega)) (uN ⟨by omega, by rw [aaC]; omega⟩ ?_))
     by_cases h0 : aa2 lo l = 0
     ·exact uF (by rw [h0]; rfl) (uF (zn (hcallc hkf2)) (uC _ (hcall _) (uT (by simpa using he) rfl)))
     ·have hbl := ahW hl hhi h0 hk
      exact uT (by rw [zS, beq_eq_false_iff_ne]; omega) (uF sd (uF (zn (hcallc hkf2)) (uC _ (hcall _) (uT (by simpa using he) rfl))))
  ·have hkf : aa2 lo l < k := by
    rcases zr (aa2 lo l) k with g | g
    ·exact g
    ·exact absurd (k2 g) ha
   have hne : acc.isEmpty = false := by cases acc with | nil => exact absurd rfl ha | cons a b => rfl
   rw [show max k (aa2 lo l) = k by omega] at k6
   have h0 : k ≠ 0 := zc
   have hbl := ahW hl hhi h0 hk
   by_cases hla : aa2 hi l < k
   ·left
    refine ⟨(((k + 1 : Nat) : Int), (l.getD k zs).1, acc.isEmpty, acc, ()), ?_, ⟨k + 1, acc, by omega, by rw [hb3], fun g => by omega, fun _ => ha, by omega, k5, by rw [k6, show max (k + 1) (aa2 lo l) = k + 1 by omega, show aa2 hi l + 1 - k = 0 by omega, show aa2 hi l + 1 - (k + 1) = 0 by omega]; rfl⟩, by dsimp only; omega, ze⟩
    rw [hne]
    exact uF rfl (uT (zo (by rw [aaC]; omega)) (uN ⟨by omega, by rw [aaC]; omega⟩ (uT (by rw [zS, beq_eq_false_iff_ne]; omega) (uT sd rfl))))
   ·obtain ⟨m, hm⟩ : ∃ m, aa2 hi l + 1 - k = m + 1 := ⟨aa2 hi l - k, by omega⟩
    rw [hm, aeU] at k6
    by_cases he : (amR l lo hi k).2.1 = 0
    ·rw [if_neg (fun h => h he)] at k6
     left
     refine ⟨(((k + 1 : Nat) : Int), (l.getD k zs).1, false, acc ++ [(amR l lo hi k).1], ()), ?_, ⟨k + 1, acc ++ [(amR l lo hi k).1], by omega, by rw [hb3]; simp, fun g => by omega, fun _ => by simp, by simp; omega, fun b hb => ?_, by rw [show max (k + 1) (aa2 lo l) = k + 1 by omega, show aa2 hi l + 1 - (k + 1) = m by omega]; exact k6⟩, by dsimp only; omega, ze⟩
     ·rw [hne]
      refine uF rfl (uT (zo (by rw [aaC]; omega)) (uN ⟨by omega, by rw [aaC]; omega⟩ (uT (by rw [zS, beq_eq_false_iff_ne]; omega) (uF sd (uF sd (uC _ (hcall _) (uF (by rw [he]; rfl) (uN zc ?_))))))))
      refine uB (uB (uB (uN zi ?_)))
      rw [zt]; rfl
     ·rcases zK.1 hb with g | g
      ·exact k5 b g
      ·rw [zZ.1 g]; exact hok he
    ·rw [if_pos he] at k6
     right
     rw [k6, hne]
     exact uF rfl (uT (zo (by rw [aaC]; omega)) (uN ⟨by omega, by rw [aaC]; omega⟩ (uT (by rw [zS, beq_eq_false_iff_ne]; omega) (uF sd (uF sd (uC _ (hcall _) (uT (by simpa using he) rfl)))))))
 ·right
  have ha : acc ≠ [] := k3 zc
  have hne : acc.isEmpty = false := by cases acc with | nil => exact absurd rfl ha | cons a b => rfl
  rw [hne, k6, show aa2 hi l + 1 - max k (aa2 lo l) = 0 by omega]
  refine uF rfl (uF (zn (by rw [aaC]; omega)) (uC (anT acc, 0, ()) ?_ rfl))
  rw [zt]
  unfold aiQ
  exact if_pos ⟨ha, by dsimp only; omega, k5⟩
set_option maxRecDepth 100000
open Go Go.Vg Go.Proofs
noncomputable section
def aNC : LTab := []
def ax6 (c : Int × List Int × List uj × Unit) (x : Int × Int × Unit) : TT uA :=
 .call (afM ((c.1, c.2.1, c.2.2.1, ()), ())) Dd6 fun y =>
 .ite (y.1 != 0)
 (.ok (((0, 0, ()), y.1, ())))
 (.call (aj5 ((x.1, x.2.1, ()), 0, 1000000000000, ())) atE fun y1 =>
 .ite (y1.2.1 != 0)
 (.ok (((0, 0, ()), y1.2.1, ())))
 (.need (inb (w64 (c.1 - 1)) (↑3 : Int)) <| .ite (w64 (c.1 - 1) == (↑2 : Int))
 (.call (adA (((c.1, c.2.1, c.2.2.1, ()), ()), (y1.1.1, y1.1.2.1, ()), ())) atE fun y2 =>
 .ok (((y2.1.1, y2.1.2.1, ()), y2.2.1, ())))
 (.ite (w64 (c.1 - 1) == (↑1 : Int))
 (.call (aeJ (((c.1, c.2.1, c.2.2.1, ()), ()), (y1.1.1, y1.1.2.1, ()), ())) atE fun y3 =>
 .ok (((y3.1.1, y3.1.2.1, ()), y3.2.1, ())))
 (.ite (w64 (c.1 - 1) == (↑0 : Int))
 (.call (af8 (((c.1, c.2.1, c.2.2.1, ()), ()), (y1.1.1, y1.1.2.1, ()), ())) atE fun y4 =>
 .ok (((y4.1.1, y4.1.2.1, ()), y4.2.1, ())))
 (.bad)))))
def azP : LTab := [(57, 58, 11265, ⟨0, (Int) × Bool × (List ul) × Unit, .dat (.s 19) uk <| .appN (.s 6) 11 36 tg <| .nil, [18, 4, 3, 2], [2, 1, 0], 1⟩), (57, 250, 24577, ⟨1, (Int) × Bool × (List ul) × Unit, .dat (.s 47) uk <| .appN (.s 6) 24 36 tg <| .nil, [46, 45, 11, 4, 3], [2, 1, 0], 1⟩), (57, 250, 24576, ⟨2, (Int) × (List ul) × Unit, .dat (.s 47) uk <| .app (.s 6) 24 36 tg <| .nil, [46, 45, 11, 4, 3], [2, 1, 0], 1⟩)]
def axW (c : um × Unit) (x : Int × Int × Unit) (i : Int × Bool × List ul × Unit) (i1 : (Int) × Bool × (List ul) × Unit) : TT (tw ⊕ (tw ⊕ uA)) :=
 .ite (i1.2.1)
 (.ite (decide (i1.1 < len c.1.2.1))
 (.need (inb i1.1 (len c.1.2.1)) <| .call (acZ (w64 (i1.1 * 1000000000000), w64 (x.1 * w64 (len c.1.2.1 - 1)), w64 (x.2.1 * w64 (len c.1.2.1 - 1)), ())) Dd1 fun y2 =>
 .ite (y2.1)
 (.call (ab0 (gi c.1.2.1 i1.1 0, 65535, ())) ae4 fun y3 =>
 .need (1 * 32 ≤ 140737488355328) <| .tt <| .lt (w64 (i1.1 + 1) : Int) fun z2 => .lt ([(y3.1.1, y3.1.2.1, ())] : List ul) fun z3 => .vT ((vY 24 0 1 true) ∧ (ub z2 (len c.1.2.1) c.1.2.1 (w64 (len c.1.2.1 - 1)) <| uQ ∧ uy ∧ True)) <| .vT (vS (vX 36 z3) <| vS ur <| vS (vW 53 x.1 x.2.1) <| vS (vV 96 c.1.1 c.1.2.1 c.1.2.2.1) True) <| .ok (.inl ((z2, false, z3, ()))))
 (.tt <| .lt (w64 (i1.1 + 1) : Int) fun z4 => .vT (True ∧ (ub z4 (len c.1.2.1) c.1.2.1 (w64 (len c.1.2.1 - 1)) <| uQ ∧ uy ∧ True)) <| .vT (vS ur <| vS (vW 53 x.1 x.2.1) <| vS (vV 96 c.1.1 c.1.2.1 c.1.2.2.1) True) <| .ok (.inl ((z4, true, [], ())))))
 (.call (ae0 ([], ())) atE fun y4 =>
 .ok (.inr (.inr (((y4.1.1, y4.1.2.1, ()), y4.2.1, ()))))))
 (.ite (decide (i1.1 < len c.1.2.1))
 (.need (inb i1.1 (len c.1.2.1)) <| .call (acZ (w64 (i1.1 * 1000000000000), w64 (x.1 * w64 (len c.1.2.1 - 1)), w64 (x.2.1 * w64 (len c.1.2.1 - 1)), ())) Dd1 fun y5 =>
 .ite (y5.1)
 (.call (ab0 (gi c.1.2.1 i1.1 0, 65535, ())) ae4 fun y6 =>
 .need ((List.length i1.2.2.1 + 1) * 32 ≤ 140737488355328) <| .tt <| .lt (w64 (i1.1 + 1) : Int) fun z5 => .lt (List.take (List.length i1.2.2.1) i1.2.2.1 ++ [(y6.1.1, y6.1.2.1, ())] : List ul) fun z6 => .need ((((24) = (24)) ∧ (((0) = (0)) ∧ ((List.length i1.2.2.1 + 1 = List.length z6) ∧ ((true) = (true))))) ∧ ((z5 : Int) = z5) ∧ ((len c.1.2.1 : Int) = len c.1.2.1) ∧ ((c.1.2.1 : List Int) = c.1.2.1) ∧ ((w64 (len c.1.2.1 - 1) : Int) = w64 (len c.1.2.1 - 1)) ∧ (((2) = (2)) ∧ (((0) = (0)) ∧ ((true) = (true)))) ∧ (((1) = (1)) ∧ (((0) = (0)) ∧ ((true) = (true)))) ∧ True) <| .vT (vS (vX 36 z6) <| vS ur <| vS (vW 53 x.1 x.2.1) <| vS (vV 96 c.1.1 c.1.2.1 c.1.2.2.1) True) <| .ok (.inl ((z5, false, z6, ()))))
 (.tt <| .lt (w64 (i1.1 + 1) : Int) fun z7 => .lt (i1.2.2.1 : List ul) fun z8 => .vT ((vY 24 0 (List.length z8) true) ∧ (ub z7 (len c.1.2.1) c.1.2.1 (w64 (len c.1.2.1 - 1)) <| uQ ∧ uy ∧ True)) <| .vT (vS (vX 36 z8) <| vS ur <| vS (vW 53 x.1 x.2.1) <| vS (vV 96 c.1.1 c.1.2.1 c.1.2.2.1) True) <| .ok (.inl ((z7, false, z8, ())))))
 (.call (ae0 (List.take (List.length i1.2.2.1) i1.2.2.1, ())) atE fun y7 =>
 .ok (.inr (.inr (((y7.1.1, y7.1.2.1, ()), y7.2.1, ()))))))
def ahV (c : um × Unit) (x : Int × Int × Unit) (i : Int × Bool × List ul × Unit) (i2 : (Int) × (List ul) × Unit) : TT (((Int) × (List ul) × Unit) ⊕ (tw ⊕ uA)) :=
 .ite (decide (i2.1 < len c.1.2.1))
 (.need (inb i2.1 (len c.1.2.1)) <| .call (acZ (w64 (i2.1 * 1000000000000), w64 (x.1 * w64 (len c.1.2.1 - 1)), w64 (x.2.1 * w64 (len c.1.2.1 - 1)), ())) Dd1 fun y10 =>
 .ite (y10.1)
 (.call (ab0 (gi c.1.2.1 i2.1 0, 65535, ())) ae4 fun y11 =>
 .need ((List.length i2.2.1 + 1) * 32 ≤ 140737488355328) <| .tt <| .lt (w64 (i2.1 + 1) : Int) fun z12 => .lt (List.take (List.length i2.2.1) i2.2.1 ++ [(y11.1.1, y11.1.2.1, ())] : List ul) fun z13 => .need ((((24) = (24)) ∧ (((0) = (0)) ∧ ((List.length i2.2.1 + 1 = List.length z13) ∧ ((true) = (true))))) ∧ ((z12 : Int) = z12) ∧ ((len c.1.2.1 : Int) = len c.1.2.1) ∧ ((c.1.2.1 : List Int) = c.1.2.1) ∧ ((w64 (len c.1.2.1 - 1) : Int) = w64 (len c.1.2.1 - 1)) ∧ (((2) = (2)) ∧ (((0) = (0)) ∧ ((true) = (true)))) ∧ (((1) = (1)) ∧ (((0) = (0)) ∧ ((true) = (true)))) ∧ True) <| .vT (vS (vX 36 z13) <| vS ur <| vS (vW 53 x.1 x.2.1) <| vS (vV 96 c.1.1 c.1.2.1 c.1.2.2.1) True) <| .ok (.inl ((z12, z13, ()))))
 (.tt <| .lt (w64 (i2.1 + 1) : Int) fun z14 => .lt (i2.2.1 : List ul) fun z15 => .vT ((vY 24 0 (List.length z15) true) ∧ (ub z14 (len c.1.2.1) c.1.2.1 (w64 (len c.1.2.1 - 1)) <| uQ ∧ uy ∧ True)) <| .vT (vS (vX 36 z15) <| vS ur <| vS (vW 53 x.1 x.2.1) <| vS (vV 96 c.1.1 c.1.2.1 c.1.2.2.1) True) <| .ok (.inl ((z14, z15, ())))))
 (.call (ae0 (List.take (List.length i2.2.1) i2.2.1, ())) atE fun y12 =>
 .ok (.inr (.inr (((y12.1.1, y12.1.2.1, ()), y12.2.1, ())))))
def axX (c : um × Unit) (x : Int × Int × Unit) (i : (Int) × Bool × (List ul) × Unit) : TT (tw ⊕ uA) :=
 .ite (i.2.1)
 (.ite (decide (i.1 < 2))
 (.need (inb i.1 (↑2 : Int)) <| .call (ab0 (gi [x.1, x.2.1] i.1 0, 1000000000000, ())) ae4 fun y =>
 .call (af7 (((c.1.1, c.1.2.1, c.1.2.2.1, ()), ()), y.1, ())) afR fun y1 =>
 .ite (y1.2.1 != 0)
 (.ok (.inr (((0, 0, ()), y1.2.1, ()))))
 (.need (1 * 32 ≤ 140737488355328) <| .tt <| .lt (w64 (i.1 + 1) : Int) fun z => .lt ([(y1.1.1, y1.1.2.1, ())] : List ul) fun z1 => .vT ((vY 11 0 1 true) ∧ (ua z ([x.1, x.2.1] : List Int) <| uQ ∧ uy ∧ uq ∧ True)) <| .vT (vS (vX 36 z1) <| vS ur <| vS (vW 53 x.1 x.2.1) <| vS (vV 96 c.1.1 c.1.2.1 c.1.2.2.1) True) <| .ok (.inl ((z, false, z1, ())))))
 (.loop 1 (.tt <| .vT (True ∧ (ub (0 : Int) (len c.1.2.1) c.1.2.1 (w64 (len c.1.2.1 - 1)) <| uQ ∧ uy ∧ True)) <| .vT (vS ur <| vS (vW 53 x.1 x.2.1) <| vS (vV 96 c.1.1 c.1.2.1 c.1.2.2.1) True) <| .ok ((0, true, [], ()))) (axW c x i)))
 (.ite (decide (i.1 < 2))
 (.need (inb i.1 (↑2 : Int)) <| .call (ab0 (gi [x.1, x.2.1] i.1 0, 1000000000000, ())) ae4 fun y8 =>
 .call (af7 (((c.1.1, c.1.2.1, c.1.2.2.1, ()), ()), y8.1, ())) afR fun y9 =>
 .ite (y9.2.1 != 0)
 (.ok (.inr (((0, 0, ()), y9.2.1, ()))))
 (.need ((List.length i.2.2.1 + 1) * 32 ≤ 140737488355328) <| .tt <| .lt (w64 (i.1 + 1) : Int) fun z9 => .lt (List.take (List.length i.2.2.1) i.2.2.1 ++ [(y9.1.1, y9.1.2.1, ())] : List ul) fun z10 => .need ((((11) = (11)) ∧ (((0) = (0)) ∧ ((List.length i.2.2.1 + 1 = List.length z10) ∧ ((true) = (true))))) ∧ ((z9 : Int) = z9) ∧ (([x.1, x.2.1] : List Int) = [x.1, x.2.1]) ∧ (((2) = (2)) ∧ (((0) = (0)) ∧ ((true) = (true)))) ∧ (((1) = (1)) ∧ (((0) = (0)) ∧ ((true) = (true)))) ∧ (((0) = (0)) ∧ (((0) = (0)) ∧ ((true) = (true)))) ∧ True) <| .vT (vS (vX 36 z10) <| vS ur <| vS (vW 53 x.1 x.2.1) <| vS (vV 96 c.1.1 c.1.2.1 c.1.2.2.1) True) <| .ok (.inl ((z9, false, z10, ())))))
 (.loop 2 (.tt <| .lt (i.2.2.1 : List ul) fun z11 => .vT ((vY 24 0 (List.length z11) true) ∧ (ub (0 : Int) (len c.1.2.1) c.1.2.1 (w64 (len c.1.2.1 - 1)) <| uQ ∧ uy ∧ True)) <| .vT (vS (vX 36 z11) <| vS ur <| vS (vW 53 x.1 x.2.1) <| vS (vV 96 c.1.1 c.1.2.1 c.1.2.2.1) True) <| .ok ((0, z11, ()))) (ahV c x i)))
def ai2 (c : um × Unit) (x : Int × Int × Unit) : TT uA :=
 .loop 0 (.tt <| .vT (True ∧ (ua (0 : Int) ([x.1, x.2.1] : List Int) <| uQ ∧ uy ∧ uq ∧ True)) <| .vT (vS ur <| vS (vW 53 x.1 x.2.1) <| vS (vV 96 c.1.1 c.1.2.1 c.1.2.2.1) True) <| .ok ((0, true, [], ()))) (axX c x)
end
theorem acQ {l : List Int} (ht : adZ l) {n : Int} (hn : inU n) :
  aOd l (mkRat n 1000000000000) = some (mkRat (ak7 l n) 65535000000000000) ∧ adK (mkRat (ak7 l n) 65535000000000000) ∧ 0 ≤ ak7 l n ∧ ak7 l n ≤ 65535000000000000 := by
 have hl1 := ht.1
 have hl2 := ht.2.1
 obtain ⟨n1, n2⟩ := hn
 obtain ⟨P, hP⟩ : ∃ P, P = n * ((l.length - 1 : Nat) : Int) := ⟨_, rfl⟩
 have hP0 : 0 ≤ P := by rw [hP]; exact ye n1 zc
 have hP1 : P ≤ 1000000000000 * ((l.length - 1 : Nat) : Int) := by rw [hP]; exact zu n2 zc
 obtain ⟨i, hi⟩ : ∃ i, i = ak8 l n := ⟨_, rfl⟩
 have hi' : i = min (P / 1000000000000).toNat (l.length - 2) := by rw [hi, hP]; rfl
 have hi2 : i ≤ l.length - 2 := zc
 obtain ⟨A, hA⟩ : ∃ A, A = P - (i : Int) * 1000000000000 := ⟨_, rfl⟩
 have hA0 : 0 ≤ A := zc
 have hA1 : A ≤ 1000000000000 := zc
 obtain ⟨v1, v2⟩ := aj8 ht (show i < l.length by omega)
 obtain ⟨w1, w2⟩ := aj8 ht (show i + 1 < l.length by omega)
 have hM : ak7 l n = l.getD i 0 * 1000000000000 + A * (l.getD (i + 1) 0 - l.getD i 0) := by unfold ak7; rw [← hi, ← hP, ← hA]
 have hpl : ajA l (mkRat P 1000000000000) = i := by
  unfold ajA
  rw [Rat.floor_def, show (mkRat P 1000000000000).num / (mkRat P 1000000000000).den = fl (mkRat P 1000000000000) from rfl, ap7 _ zc, hi']
  rfl
 obtain ⟨v, hv⟩ : ∃ v, v = l.getD i 0 := ⟨_, rfl⟩
 obtain ⟨w, hw⟩ : ∃ w, w = l.getD (i + 1) 0 := ⟨_, rfl⟩
 rw [← hv] at v1 v2 hM
 rw [← hw] at w1 w2 hM
 have q1 : 0 ≤ v * (1000000000000 - A) := ye v1 zc
 have q2 : 0 ≤ w * A := ye w1 hA0
 have q3 : 0 ≤ (65535 - v) * (1000000000000 - A) := ye zc zc
 have q4 : 0 ≤ (65535 - w) * A := ye zc hA0
 have eM : ak7 l n = v * (1000000000000 - A) + w * A := by rw [hM]; grind
 have hM0 : 0 ≤ ak7 l n := zc
 have hM1 : ak7 l n ≤ 65535000000000000 := by
  have : (65535 - v) * (1000000000000 - A) + (65535 - w) * A = 65535000000000000 - (v * (1000000000000 - A) + w * A) := by grind
  omega
 have hAd : A * (w - v) = w * A - v * A := by grind
 have r1 : 0 ≤ v * A := ye v1 hA0
 have r2 : v * A ≤ 65535 * A := zu v2 hA0
 have r3 : w * A ≤ 65535 * A := zu w2 hA0
 have f1 : adK (mkRat P 1000000000000) := ad8 zc (afP zc zc) (afP zc zc)
 have f2 : adK (mkRat A 1000000000000) := ad8 zc (afP zc zc) (afP zc zc)
 have f3 : adK (mkRat (A * (w - v)) 1000000000000) := ad8 zc (afP zc zc) (afP zc zc)
 have f4 : adK (mkRat (ak7 l n) 1000000000000) := ad8 zc (afP zc zc) (afP zc zc)
 have f5 : adK (mkRat (ak7 l n) 65535000000000000) := ad8 zc (afP zc zc) (afP zc zc)
 refine ⟨?_, f5, hM0, hM1⟩
 unfold aOd
 rw [yO, ← hP, xF]
 unfold acI
 rw [if_pos f1]
 simp only [zX]
 rw [hpl, ← hv, ← hw]
 have g2 : mkRat P 1000000000000 - mkRat (i : Int) 1 = mkRat A 1000000000000 := by
  rw [Rat.sub_eq_add_neg, Rat.neg_mkRat, xu _ _ zc zc, xF, hA]
  congr 1; omega
 rw [g2, if_pos f2]
 simp only [zX]
 rw [yO, xF, if_pos f3]
 simp only [zX]
 have g4 : mkRat v 1 + mkRat (A * (w - v)) 1000000000000 = mkRat (ak7 l n) 1000000000000 := by
  rw [xu _ _ zc zc, Nat.one_mul, hM]
  congr 1; omega
 rw [g4, if_pos f4]
 simp only [zX]
 have g5 : mkRat (ak7 l n) 1000000000000 / mkRat 65535 1 = mkRat (ak7 l n) 65535000000000000 := by
  have hm : mkRat (ak7 l n) 1000000000000 = mkRat (ak7 l n) 65535000000000000 * mkRat 65535 1 := by
   rw [yO, yc zc zc]; omega
  rw [hm, Rat.div_def, Rat.mul_assoc, Rat.mul_inv_cancel _ (aHX zc), Rat.mul_one]
 rw [g5, if_pos f5]
theorem ai6 {m : Int} (h0 : 0 ≤ m) (h1 : m ≤ 65535000000000000) : agJ (mkRat m 65535000000000000) (mkRat m 65535000000000000) = (ay8 m, 0, ()) := by
 rw [aBr _ zc]
 have e1 : m * 1000000000000 / ((65535000000000000 : Nat) : Int) = m / 65535 := zc
 have e2 : -(m * 1000000000000) / ((65535000000000000 : Nat) : Int) = -m / 65535 := zc
 rw [e1, e2]
 unfold mkB ay8
 rw [if_pos ⟨by omega, by omega, by omega⟩]
theorem aOq {b : BdT} (h : okB b.1 b.2.1) : inU (anP b).1 ∧ inU (anP b).2.1 ∧ (anP b).1 ≤ (anP b).2.1 := by
 obtain ⟨h1, h2, h3⟩ := h
 unfold anP inU inR
 dsimp only
 omega
theorem aoZ (c : CvT × Unit) (x : BdT) (y) (h : af8 (c, x, ()) = some y) : (ajK c x).toO = some y := h
theorem aG7 (c : CvT) (x : BdT) (y) (h : acH (c, x, ()) = some y) : (ax6 c x).toO = some y := by
 injection h with h
 subst h
 obtain ⟨kind, tab, l, u0⟩ := c
 obtain ⟨blo, bhi, u1⟩ := x
 unfold ax6
 dsimp only
 refine uC _ (arH (kind, tab, l, ())) ?_
 by_cases hr : ab1 (kind, tab, l, ())
 case neg =>
  have hr' : ¬ ab1 (kind, tab, l, u0) := hr
  rw [if_neg hr', if_neg hr]
  exact uT rfl rfl
 have hr' : ab1 (kind, tab, l, u0) := hr
 rw [if_pos hr', if_pos hr]
 refine uF rfl ?_
 by_cases hb : okB blo bhi
 case neg =>
  rw [if_neg hb]
  refine uC ((0, 0, ()), 30, ()) (by unfold aj5 aAT; dsimp only; rw [if_neg hb]) ?_
  exact uT rfl rfl
 rw [if_pos hb]
 refine uC (anP (blo, bhi, u1), 0, ()) (by unfold aj5; exact congrArg some (axR (b := (blo, bhi, u1)) hb)) (uF rfl ?_)
 obtain ⟨g1, g2, g3⟩ := aOq (b := (blo, bhi, u1)) hb
 generalize anP (blo, bhi, u1) = z at g1 g2 g3 ⊢
 unfold ad5
 dsimp only
 rcases hr with ⟨k1, k2, k3⟩ | ⟨k1, k2, k3⟩ | ⟨k1, k2, k3⟩
 ·dsimp only at k1; subst k1
  exact uN ⟨by decide, by decide⟩ (uF rfl (uF rfl (uT rfl (uC (z, 0, ()) rfl rfl))))
 ·dsimp only at k1; subst k1
  exact uN ⟨by decide, by decide⟩ (uF rfl (uT rfl (uC (alC tab z.1 z.2.1, 0, ()) (by unfold aeJ; exact if_pos ⟨k2, g1, g2, g3⟩) rfl)))
 ·dsimp only at k1; subst k1
  exact uN ⟨by decide, by decide⟩ (uT rfl (uC (afQ l z.1 z.2.1) (by unfold adA; exact if_pos ⟨k3, g1, g2, g3⟩) rfl))
theorem arL (m : Int) : mkRat m 1000000000000 * acE = (m : Rat) := by
 rw [aBW, yO, xF, ← aeE, yc zc zc]; omega
theorem aBq (n m : Int) : mkRat n 1000000000000 ≤ mkRat m 1000000000000 ↔ n ≤ m := by
 rw [afS, arL]; exact vD
theorem an7 (n m : Int) : mkRat n 1000000000000 < mkRat m 1000000000000 ↔ n < m := by
 rw [← vO, aBq]; omega
theorem aAw (t : Int) : mkRat t 1000000 = mkRat (t * 1000000) 1000000000000 := by
 rw [yc zc zc]; omega
theorem amV (n : Int) (l : List adJ) : ae2 (mkRat n 1000000000000) l = aa2 n l := by
 unfold ae2 aa2
 congr 1
 funext s
 rw [aAw, decide_eq_decide]
 exact aBq _ _
theorem unit_one : mkRat 1000000000000 1000000000000 = (1 : Rat) := zf
theorem avL {n : Int} (h : inU n) : mkRat n 1000000000000 ≤ 1 := by
 rw [← unit_one, aBq]; exact h.2
theorem ap0 {n X : Int} {d : Nat} (hd : d ≠ 0) : ((n : Int) : Rat) ≤ mkRat X d ↔ n * d ≤ X := by
 rw [← ajI, ap7 _ hd, xy zc]
theorem awO {n X : Int} {d : Nat} (hd : d ≠ 0) : mkRat X d ≤ ((n : Int) : Rat) ↔ X ≤ n * d := by
 rw [← Rat.neg_le_neg_iff, Rat.neg_mkRat, ← wg, ap0 hd, Int.neg_mul]; omega
theorem aSO (X : Int) (d : Nat) : mkRat X d * acE = mkRat (X * 1000000000000) d := by
 rw [aBW, yO, xF]
theorem aAD : ∀ (r : List BdT) (a : BdT), ((r.foldl ae3 a).1 ≤ a.1 ∧ a.2.1 ≤ (r.foldl ae3 a).2.1) ∧ ∀ b ∈ r, (r.foldl ae3 a).1 ≤ b.1 ∧ b.2.1 ≤ (r.foldl ae3 a).2.1
 | [], a => ⟨⟨yl _, yl _⟩, fun b hb => by cases hb⟩
 | c :: r, a => by
  obtain ⟨⟨h1, h2⟩, h3⟩ := aAD r (ae3 a c)
  have e1 : (ae3 a c).1 = min a.1 c.1 := rfl
  have e2 : (ae3 a c).2.1 = max a.2.1 c.2.1 := rfl
  refine ⟨⟨by show (r.foldl ae3 (ae3 a c)).1 ≤ a.1; omega, by show a.2.1 ≤ (r.foldl ae3 (ae3 a c)).2.1; omega⟩, fun b hb => ?_⟩
  rcases zx.1 hb with g | g
  ·subst g; exact ⟨by show (r.foldl ae3 (ae3 a b)).1 ≤ b.1; omega, by show b.2.1 ≤ (r.foldl ae3 (ae3 a b)).2.1; omega⟩
  ·exact h3 b g
theorem aoX {n : Int} (h : inU n) : abU (mkRat n 1000000000000) = mkRat n 1000000000000 := by
 have h0 : ¬ mkRat n 1000000000000 < 0 := by
  have : (0 : Rat) = mkRat 0 1000000000000 := zf
  rw [this, an7]; have := h.1; omega
 have h1 : ¬ mkRat n 1000000000000 > 1 := wT.2 (avL h)
 unfold abU
 rw [if_neg h0, if_neg h1]
theorem aDc (v : Int) : mkRat v 65535 = mkRat (v * 1000000000000) 65535000000000000 := by
 rw [yc zc zc]; omega
def apD (l : List Int) (lo hi : Int) (k : Nat) : List Rat := mkRat (ak7 l lo) 65535000000000000 :: mkRat (ak7 l hi) 65535000000000000 :: ((List.range k).filter (aGt l lo hi)).map (fun j => mkRat (l.getD j 0) 65535)
theorem aIN (l : List Int) (lo hi : Int) (k : Nat) : apD l lo hi (k + 1) = if aGt l lo hi k then apD l lo hi k ++ [mkRat (l.getD k 0) 65535] else apD l lo hi k := by
 unfold apD
 rw [List.range_succ, List.filter_append, xW]
 cases h : aGt l lo hi k
 ·simp [List.filter, h]
 ·simp [List.filter, h]
theorem aK6 (l : List Int) (lo hi : Int) (k : Nat) : (apD l lo hi k).length ≤ k + 2 := by
 unfold apD
 have := List.length_filter_le (aGt l lo hi) (List.range k)
 simp only [zL, vK, List.length_range] at *
 omega
theorem aK7 {l : List Int} (ht : adZ l) {lo hi : Int} (h1 : inU lo) (h2 : inU hi) {k : Nat} (hk : k ≤ l.length) : ∀ q ∈ apD l lo hi k, adK q ∧ (agJ q q).2.1 = 0 := by
 intro q hq
 obtain ⟨-, a2, a3, a4⟩ := acQ ht h1
 obtain ⟨-, b2, b3, b4⟩ := acQ ht h2
 rcases zx.1 hq with g | g
 ·subst g; exact ⟨a2, by rw [ai6 a3 a4]⟩
 rcases zx.1 g with g | g
 ·subst g; exact ⟨b2, by rw [ai6 b3 b4]⟩
 obtain ⟨j, hj, rfl⟩ := zG.1 g
 have hj2 : j < k := List.mem_range.1 (xH.1 hj).1
 obtain ⟨v1, v2⟩ := aj8 ht (show j < l.length by omega)
 rw [aDc]
 refine ⟨ad8 zc (afP zc zc) (afP zc zc), ?_⟩
 rw [ai6 zc zc]
theorem aFz {l : List Int} (ht : adZ l) {lo hi : Int} (h1 : inU lo) (h2 : inU hi) {k : Nat} (hk : k ≤ l.length) : (apD l lo hi k).map (fun q => (agJ q q).1) = avO l lo hi k := by
 obtain ⟨-, a2, a3, a4⟩ := acQ ht h1
 obtain ⟨-, b2, b3, b4⟩ := acQ ht h2
 unfold apD avO
 rw [vE, vE, List.map_map, ai6 a3 a4, ai6 b3 b4]
 congr 2
 refine List.map_congr_left (fun j hj => ?_)
 have hj2 : j < k := List.mem_range.1 (xH.1 hj).1
 obtain ⟨v1, v2⟩ := aj8 ht (show j < l.length by omega)
 show (agJ (mkRat (l.getD j 0) 65535) (mkRat (l.getD j 0) 65535)).1 = _
 rw [aDc, ai6 zc zc]
theorem aKI {r : List Rat} (h1 : r ≠ []) (h2 : r.length ≤ 1000000) (h3 : ∀ q ∈ r, adK q ∧ (agJ q q).2.1 = 0) : ae0 (r.map (fun q => fx q), ()) = some (anT (r.map fun q => (agJ q q).1), 0, ()) :=
 aaI (enc := fun l : List Rat => (l.map (fun q => fx q), ())) r ⟨h1, h2, h3⟩ (fun b hb => List.map_inj_right (fun a b hab => anX hab) |>.1 (Prod.mk.inj hb).1)
theorem aoY (c : CvT × Unit) (x : BdT) (i : Int × Bool × List FxT × Unit) (l : List Int) (hc : c.1.2.1 = l) (ht : adZ l) (hlo : inU x.1) (hhi : inU x.2.1) :
  ac6 (fun i2 => (ahV c x i i2).toO) (0, (apD l x.1 x.2.1 0).map (fun q => fx q), ()) = some (.inr (alC l x.1 x.2.1, 0, ())) := by
 obtain ⟨lo, hi, u⟩ := x
 dsimp only at hlo hhi ⊢
 have hl1 := ht.1
 have hl2 := ht.2.1
 have w1 : w64 (len l - 1) = ((l.length - 1 : Nat) : Int) := by rw [aaC, aaA zc]; omega
 have hw : ∀ n : Int, inU n → w64 (n * ((l.length - 1 : Nat) : Int)) = n * ((l.length - 1 : Nat) : Int) := by
  intro n hn
  have a1 : 0 ≤ n * ((l.length - 1 : Nat) : Int) := ye hn.1 zc
  have a2 : n * ((l.length - 1 : Nat) : Int) ≤ 1000000000000 * ((l.length - 1 : Nat) : Int) := zu hn.2 zc
  exact aaA zc
 refine aaO (fun i : Int × List FxT × Unit => ∃ k : Nat, k ≤ l.length ∧ i = ((k : Int), (apD l lo hi k).map (fun q => fx q), ())) (fun i => ((l.length : Int) - i.1).toNat) (fun _ => Sum.inr (alC l lo hi, 0, ())) ?_ _ ⟨0, by omega, rfl⟩
 rintro i ⟨k, k1, rfl⟩
 simp only [ahV, hc, aaM, w1, hw lo hlo, hw hi hhi]
 have hlen := aK6 l lo hi k
 rcases zr k l.length with hk | hk
 ·left
  have wk : w64 ((k : Int) + 1) = ((k + 1 : Nat) : Int) := by rw [aaA zc]; omega
  have wm : w64 ((k : Int) * 1000000000000) = (k : Int) * 1000000000000 := aaA zc
  have bv := aj8 ht hk
  have iv := aoK bv zc zc
  refine ⟨(((k + 1 : Nat) : Int), (apD l lo hi (k + 1)).map (fun q => fx q), ()), ?_, ⟨k + 1, by omega, rfl⟩, by dsimp only; omega, ze⟩
  rw [wk, wm]
  refine uT (zo (by rw [aaC]; omega)) (uN ⟨by omega, by rw [aaC]; omega⟩ (uC (aGt l lo hi k, ()) rfl ?_))
  rw [aIN]
  cases hin : aGt l lo hi k
  ·exact uF rfl rfl
  ·refine uT rfl (uC _ (aRu (d := 65535) iv zc zc) (uN (by simp only [vK]; omega) ?_))
   refine uB (uB (uN zi ?_))
   rw [zt, if_pos rfl, xW]; rfl
 ·right
  obtain rfl : k = l.length := zc
  refine uF (zn (by rw [aaC]; omega)) (uC (alC l lo hi, 0, ()) ?_ rfl)
  rw [zt, aKI (by unfold apD; simp) zc (aK7 ht hlo hhi (zq _)), aFz ht hlo hhi (zq _)]
  rfl
theorem auR (c : CvT × Unit) (x : BdT) (y) (h : aeJ (c, x, ()) = some y) : (ai2 c x).toO = some y := by
 unfold aeJ at h
 split at h
 case isFalse => cases h
 case isTrue hp =>
 obtain ⟨ht, hlo, hhi, hle⟩ := hp
 dsimp only at ht hlo hhi hle h
 injection h with h
 subst h
 obtain ⟨⟨kind, tab, l, u0⟩, u1⟩ := c
 obtain ⟨lo, hi, u2⟩ := x
 dsimp only at ht hlo hhi hle ⊢
 obtain ⟨a1, a2, a3, a4⟩ := acQ ht hlo
 obtain ⟨b1, b2, b3, b4⟩ := acQ ht hhi
 have hT : ∀ n : Int, inU n → af7 (((kind, tab, l, ()), ()), fx (mkRat n 1000000000000), ()) = some (ay9 (aOd tab (mkRat n 1000000000000))) := by
  intro n hn
  have h0 : 0 ≤ mkRat n 1000000000000 := by
   have : (0 : Rat) = mkRat 0 1000000000000 := zf
   rw [this, aBq]; exact hn.1
  exact aBi (c := (kind, tab, l, ())) (ap8 hn) h0 (avL hn) ht
 unfold ai2
 refine uO (0, true, [], ()) rfl ?_
 refine aaO (fun i : Int × Bool × List FxT × Unit => i = (0, true, [], ()) ∨ i = (1, false, [fx (mkRat (ak7 tab lo) 65535000000000000)], ()) ∨ i = (2, false, [fx (mkRat (ak7 tab lo) 65535000000000000), fx (mkRat (ak7 tab hi) 65535000000000000)], ())) (fun i => ((2 : Int) - i.1).toNat) (fun _ => (alC tab lo hi, 0, ())) ?_ _ (Or.inl rfl)
 rintro i (rfl | rfl | rfl)
 ·left
  refine ⟨(1, false, [fx (mkRat (ak7 tab lo) 65535000000000000)], ()), ?_, Or.inr (Or.inl rfl), by dsimp only; omega, ze⟩
  refine uT rfl (uT rfl (uN ⟨by decide, by decide⟩ (uC _ (afN (d := 1000000000000) (awS hlo) zc zc) (uC _ (hT lo hlo) ?_))))
  rw [a1]
  exact uF rfl (uN zf rfl)
 ·left
  refine ⟨(2, false, [fx (mkRat (ak7 tab lo) 65535000000000000), fx (mkRat (ak7 tab hi) 65535000000000000)], ()), ?_, Or.inr (Or.inr rfl), by dsimp only; omega, ze⟩
  refine uF rfl (uT rfl (uN ⟨by dsimp only; omega, by dsimp only; omega⟩ (uC _ (afN (d := 1000000000000) (awS hhi) zc zc) (uC _ (hT hi hhi) ?_))))
  rw [b1]
  refine uF rfl (uN zi ?_)
  refine uB (uB (uN zi rfl))
 ·right
  refine uF rfl (uF rfl ?_)
  refine uO (0, (apD tab lo hi 0).map (fun q => fx q), ()) rfl ?_
  exact aoY _ (lo, hi, u2) _ tab rfl ht hlo hhi
set_option maxRecDepth 100000
open Go Go.Vg Go.Proofs
noncomputable section
def aQY : LTab := []
def aMv (n : Int) (d : Int) : TT (ul × Unit) :=
 .call (ayP (n, d, ())) afR fun y =>
 .ok (((y.1.1, y.1.2.1, ()), ()))
def aMt : LTab := []
def l9_tent_t : TT ti :=
 .ok (((2, List.take 3 [0, 65535, 0], [], ()), ()))
def aJF : LTab := []
def l9_steps_t : TT ti :=
 .ok (((3, [], List.take 2 [(500000, 1000000, 0, 1, 1, 0, ()), (1000000, 2000000, -1000000, 2, 1, 500000, ())], ()), ()))
def aMu : LTab := []
def l9_root_t : TT ti :=
 .ok (((3, [], [(1000000, 1000000, 0, 1, 2, 0, ())], ()), ()))
def aJE : LTab := []
def asD (c : Int × List Int × List uj × Unit) (x : List UInt8 × List UInt8 × Unit) (y : List UInt8 × List UInt8 × Unit) : TT uI :=
 .call (acA ((c.1, c.2.1, c.2.2.1, ()), (x.1, x.2.1, ()), ())) afR fun y1 =>
 .ite (match y1.1.1 == y.1 with
| true =>
 match y1.1.2.1 == y.2.1 with
 | true => true
 | false => false
| false => false)
 (.ok ((y1.2.1 == 0, ())))
 (.ok ((false, ())))
def aJD : LTab := []
def l9_wakes_t : TT uI :=
 .call (aq2 ()) aOc fun y =>
 .call (acY (1, 4, ())) ae4 fun y1 =>
 .call (acA (y.1, y1.1, ())) afR fun y2 =>
 .call (aq2 ()) aOc fun y3 =>
 .call (acH (y3.1, (250000000000, 250000000000, ()), ())) atE fun y4 =>
 .call (ajX ()) aOc fun y5 =>
 .call (acH (y5.1, (250000000000, 750000000000, ()), ())) atE fun y6 =>
 .call (ajX ()) aOc fun y7 =>
 .call (amJ (y7.1, ())) aFj fun y8 =>
 .call (ajX ()) aOc fun y9 =>
 .call (acY (1, 4, ())) ae4 fun y10 =>
 .call (acY (1, 2, ())) ae4 fun y11 =>
 .call (ad4 (y9.1, y10.1, y11.1, ())) Dd1 fun y12 =>
 .ite (y12.1)
 (.call (ajX ()) aOc fun y13 =>
 .call (acY (2, 1, ())) ae4 fun y14 =>
 .call (acY (0, 1, ())) ae4 fun y15 =>
 .call (ad4 (y13.1, y14.1, y15.1, ())) Dd1 fun y16 =>
 .ite (y16.1)
 (.call (anI ()) aOc fun y17 =>
 .call (acY (3, 4, ())) ae4 fun y18 =>
 .call (acY (3, 4, ())) ae4 fun y19 =>
 .call (ad4 (y17.1, y18.1, y19.1, ())) Dd1 fun y20 =>
 .ite (y20.1)
 (.call (anI ()) aOc fun y21 =>
 .call (acY (1, 2, ())) ae4 fun y22 =>
 .call (acY (1, 2, ())) ae4 fun y23 =>
 .call (ad4 (y21.1, y22.1, y23.1, ())) Dd1 fun y24 =>
 .ite (y24.1)
 (.ite (y2.2.1 == 5)
 (.ite (match y4.1.1 == 500000000000 with
| true =>
 match y4.1.2.1 == 500000000000 with
 | true => true
 | false => false
| false => false)
 (.ite (y4.2.1 == 0)
 (.ite (match y6.1.1 == 500000000000 with
| true =>
 match y6.1.2.1 == 1000000000000 with
 | true => true
 | false => false
| false => false)
 (.ite (y6.2.1 == 0)
 (.ite (y8.1 == 0)
 (.ite (y8.2.1 == 0)
 (.call (afM ((0, [], [], ()), ())) Dd6 fun y25 =>
 .ok ((y25.1 == 90, ())))
 (.ok ((false, ()))))
 (.ok ((false, ()))))
 (.ok ((false, ()))))
 (.ok ((false, ()))))
 (.ok ((false, ()))))
 (.ok ((false, ()))))
 (.ok ((false, ()))))
 (.ok ((false, ()))))
 (.ok ((false, ()))))
 (.ok ((false, ()))))
 (.ok ((false, ())))
end
theorem aMw (n d : Int) (y) (h : acY (n, d, ()) = some y) : (aMv n d).toO = some y := by
 unfold acY ab0 at h
 split at h
 ·rename_i hp
  exact uC (ofQ n d) (by unfold ayP amI; rw [if_pos hp]) h
 ·cases h
theorem aGo (y) (h : ajX () = some y) : l9_tent_t.toO = some y := h
theorem aEg (y) (h : anI () = some y) : l9_steps_t.toO = some y := h
theorem aGp (y) (h : aq2 () = some y) : l9_root_t.toO = some y := h
theorem aEf (c : CvT) (x z : FxT) (y) (h : ad4 (c, x, z, ()) = some y) : (asD c x z).toO = some y := by
 unfold ad4 at h
 dsimp only at h
 cases hr : acA (c, x, ()) with
 | none => rw [hr] at h; cases h
 | some r =>
  rw [hr] at h
  injection h with h
  subst h
  unfold asD
  refine uC r hr ?_
  obtain ⟨⟨r1, r2, r3⟩, r4, r5⟩ := r
  obtain ⟨z1, z2, z3⟩ := z
  dsimp only
  by_cases c1 : r1 = z1
  ·subst c1
   by_cases c2 : r2 = z2
   ·subst c2
    refine uT zi ?_
    rw [aaK]
    by_cases c3 : r4 = 0
    ·subst c3
     rw [aH8 rfl]; rfl
    ·rw [axF (fun h => c3 (by injection h with _ h; injection h with h _)), beq_eq_false_iff_ne.2 c3]
   ·rw [axF (fun h => c2 (by injection h with h _; injection h with _ h; injection h with h _))]
    refine uF ?_ rfl
    simp [beq_eq_false_iff_ne.2 c2]
  ·rw [axF (fun h => c1 (by injection h with h _; injection h with h _))]
   refine uF ?_ rfl
   simp [beq_eq_false_iff_ne.2 c1]
theorem amS : ab1 arN := zf
theorem avV : ab1 stepsC := zf
theorem az7 : ab1 rootC := zf
theorem aHs : adZ [0, 65535, 0] := zf
theorem ajG {n : Int} {d : Nat} (hn : aa8 n) (hd : d ≠ 0) (h2 : d ≤ 9223372036854775807) : acY (n, (d : Int), ()) = some (fx (mkRat n d), ()) := afN hn hd h2
theorem aIL : amJ (arN, ()) = some (0, 0, ()) := by
 unfold amJ; dsimp only; rw [if_pos amS]; decide
theorem aqB {c : CvT} (hr : ab1 c) {n : Int} (hn : inU n) : acA (c, fx (mkRat n 1000000000000), ()) = some (aqC c (mkRat n 1000000000000)) := by
 unfold acA
 dsimp only
 rw [if_pos hr, ae7 (ap8 hn)]
 dsimp only
 rw [aoX hn]
theorem aDa : acA (arN, fx (mkRat 1 4), ()) = some (fx (mkRat 1 2), 0, ()) := by
 have e : mkRat 1 4 = mkRat 250000000000 1000000000000 := by rw [yc zc zc]; omega
 have hu : inU 250000000000 := ⟨by omega, by omega⟩
 rw [e, aqB amS hu]
 obtain ⟨q1, -⟩ := acQ aHs hu
 have : aqC arN (mkRat 250000000000 1000000000000) = ay9 (aOd [0, 65535, 0] (mkRat 250000000000 1000000000000)) := rfl
 rw [this, q1]
 have hm : ak7 [0, 65535, 0] 250000000000 = 32767500000000000 := zf
 have e2 : mkRat 32767500000000000 65535000000000000 = mkRat 1 2 := by rw [yc zc zc]; omega
 rw [hm, e2]; rfl
theorem aOy : acA (arN, fx (mkRat 2 1), ()) = some (fx (mkRat 0 1), 0, ()) := by
 have hf : adK (mkRat 2 1) := ad2 ⟨by omega, by omega⟩
 have hc : abU (mkRat 2 1) = mkRat 1000000000000 1000000000000 := by
  rw [unit_one]
  unfold abU
  rw [if_neg zf, if_pos zf]
 have hu : inU 1000000000000 := ⟨by omega, by omega⟩
 unfold acA
 dsimp only
 rw [if_pos amS, ae7 hf]
 dsimp only
 rw [hc]
 obtain ⟨q1, -⟩ := acQ aHs hu
 have : aqC arN (mkRat 1000000000000 1000000000000) = ay9 (aOd [0, 65535, 0] (mkRat 1000000000000 1000000000000)) := rfl
 rw [this, q1]
 have hm : ak7 [0, 65535, 0] 1000000000000 = 0 := zf
 have e2 : mkRat 0 65535000000000000 = mkRat 0 1 := by rw [yc zc zc]; omega
 rw [hm, e2]; rfl
theorem aIM : acH (arN, (250000000000, 750000000000, ()), ()) = some ((500000000000, 1000000000000, ()), 0, ()) := by
 unfold acH
 dsimp only
 rw [if_pos amS, if_pos zf]
 have : ad5 arN (anP (250000000000, 750000000000, ())) = (alC [0, 65535, 0] 250000000000 750000000000, 0, ()) := rfl
 rw [this]
 have h2 : alC [0, 65535, 0] 250000000000 750000000000 = (500000000000, 1000000000000, ()) := zf
 rw [h2]
theorem aDj : acA (rootC, fx (mkRat 1 4), ()) = some (([], [], ()), 5, ()) := by
 have e : mkRat 1 4 = mkRat 250000000000 1000000000000 := by rw [yc zc zc]; omega
 have hu : inU 250000000000 := ⟨by omega, by omega⟩
 rw [e, aqB az7 hu]
 have : aqC rootC (mkRat 250000000000 1000000000000) = auP rootC.2.2.1 (mkRat 250000000000 1000000000000) := rfl
 rw [this]
 unfold auP
 rw [amV]
 have hp : aa2 250000000000 rootC.2.2.1 = 0 := zf
 rw [hp, if_neg zf]
theorem aJB : afM ((0, [], [], ()), ()) = some (90, ()) := zf
theorem aEJ : afO 1 2 250000000000 = 500000000000 := by
 unfold afO
 exact aB5 zc zf zf
theorem aDK : auM (250000000000, 250000000000, ()) 1 2 = ((500000000000, 500000000000, ()), 0, ()) := by
 unfold auM
 have hp : ∀ b : Bool, alA 1 2 250000000000 b = (500000000000, 0, ()) := by
  intro b
  unfold alA
  rw [aEJ, if_neg zf, if_neg (fun h => h.2 zf)]
  rfl
 have e1 : (1 : Int).toNat = 1 := rfl
 have e2 : (2 : Int).toNat = 2 := rfl
 have e3 : (250000000000 : Int).toNat = 250000000000 := rfl
 dsimp only
 rw [if_pos zf, if_pos zf, e1, e2, e3, hp, hp]
 decide
theorem aIQ : acH (rootC, (250000000000, 250000000000, ()), ()) = some ((500000000000, 500000000000, ()), 0, ()) := by
 unfold acH
 dsimp only
 rw [if_pos az7, if_pos zf]
 have h1 : ad5 rootC (anP (250000000000, 250000000000, ())) = afQ [(1000000, 1000000, 0, 1, 2, 0, ())] 250000000000 250000000000 := rfl
 rw [h1]
 unfold afQ
 have hp : aa2 250000000000 [((1000000, 1000000, 0, 1, 2, 0, ()) : adJ)] = 0 := zf
 rw [hp]
 show some (agV _ _ _ 1 0 []) = _
 have hs : amR [(1000000, 1000000, 0, 1, 2, 0, ())] 250000000000 250000000000 0 = ((500000000000, 500000000000, ()), 0, ()) := by
  unfold amR
  have e1 : max (250000000000 : Int) (abD [(1000000, 1000000, 0, 1, 2, 0, ())] 0 * 1000000) = 250000000000 := zf
  have e2 : min (250000000000 : Int) ((([(1000000, 1000000, 0, 1, 2, 0, ())] : List adJ).getD 0 (0, 0, 0, 0, 0, 0, ())).1 * 1000000) = 250000000000 := zf
  rw [e1, e2]
  show agT (1000000, 1000000, 0, 1, 2, 0, ()) 250000000000 250000000000 = _
  unfold agT
  have e3 : anR (1000000, 1000000, 0, 1, 2, 0, ()) 250000000000 250000000000 = (250000000000, 250000000000, ()) := zf
  rw [e3]
  dsimp only
  rw [aDK]
  decide
 rw [aeU, hs]
 decide
theorem aw6 {n : Int} {d : Nat} (hd : d ≠ 0) (hn : aa8 n) (h2 : d ≤ 9223372036854775807) : adK (mkRat n d) := ad8 hd (abJ hn) (abJ ⟨by omega, by omega⟩)
theorem aFB : acA (stepsC, fx (mkRat 3 4), ()) = some (fx (mkRat 3 4), 0, ()) := by
 have e : mkRat 3 4 = mkRat 750000000000 1000000000000 := by rw [yc zc zc]; omega
 have hu : inU 750000000000 := ⟨by omega, by omega⟩
 rw [e, aqB avV hu]
 have : aqC stepsC (mkRat 750000000000 1000000000000) = auP stepsC.2.2.1 (mkRat 750000000000 1000000000000) := rfl
 rw [this]
 unfold auP
 rw [amV]
 have hp : aa2 750000000000 stepsC.2.2.1 = 1 := zf
 rw [hp, if_pos zf]
 show some (ay9 (aEs (1000000, 2000000, -1000000, 2, 1, 500000, ()) (mkRat 750000000000 1000000000000))) = _
 unfold aEs
 dsimp only
 obtain ⟨l1, -⟩ := ahL (m := 2000000) (a := -1000000) ⟨by omega, by omega⟩ ⟨by omega, by omega⟩ hu
 have hm : ab2 2000000 (-1000000) 750000000000 = 500000000000000000 := zf
 have e2 : mkRat 500000000000000000 1000000000000000000 = mkRat 1 2 := by rw [yc zc zc]; omega
 rw [l1, hm, e2]
 simp only [zX]
 have hpos : aDL (mkRat 1 2) = mkRat 1 2 := by unfold aDL; rw [if_neg zf]
 have hn : ((2 : Int) - 1).toNat = 1 := rfl
 rw [hpos, hn]
 have hmul : mkRat 1 2 * mkRat 1 2 = mkRat 1 4 := by rw [yO]; rfl
 have h1 : adC (mkRat 1 2) 1 (mkRat 1 2) = some (mkRat 1 4) := by
  show (acI (mkRat 1 2 * mkRat 1 2)).bind some = _
  rw [hmul]; unfold acI
  rw [if_pos (aw6 zc ⟨by omega, by omega⟩ zc)]; rfl
 rw [h1]
 simp only [zX]
 have hadd : mkRat 1 4 + mkRat 500000 1000000 = mkRat 3 4 := by
  rw [xu _ _ zc zc, yc zc zc]; decide
 have hc : abU (mkRat 3 4) = mkRat 3 4 := by rw [e]; exact aoX hu
 rw [hadd]
 unfold acI
 rw [if_pos (aw6 zc ⟨by omega, by omega⟩ zc)]
 show some (ay9 (some (abU (mkRat 3 4)))) = _
 rw [hc, ← e]; rfl
theorem aIO : acA (stepsC, fx (mkRat 1 2), ()) = some (fx (mkRat 1 2), 0, ()) := by
 have e : mkRat 1 2 = mkRat 500000000000 1000000000000 := by rw [yc zc zc]; omega
 have hu : inU 500000000000 := ⟨by omega, by omega⟩
 rw [e, aqB avV hu]
 have : aqC stepsC (mkRat 500000000000 1000000000000) = auP stepsC.2.2.1 (mkRat 500000000000 1000000000000) := rfl
 rw [this]
 unfold auP
 rw [amV]
 have hp : aa2 500000000000 stepsC.2.2.1 = 0 := zf
 rw [hp, if_pos zf]
 show some (ay9 (aEs (500000, 1000000, 0, 1, 1, 0, ()) (mkRat 500000000000 1000000000000))) = _
 unfold aEs
 dsimp only
 obtain ⟨l1, -⟩ := ahL (m := 1000000) (a := 0) ⟨by omega, by omega⟩ ⟨by omega, by omega⟩ hu
 have hm : ab2 1000000 0 500000000000 = 500000000000000000 := zf
 have e2 : mkRat 500000000000000000 1000000000000000000 = mkRat 1 2 := by rw [yc zc zc]; omega
 rw [l1, hm, e2]
 simp only [zX]
 have hpos : aDL (mkRat 1 2) = mkRat 1 2 := by unfold aDL; rw [if_neg zf]
 have hn : ((1 : Int) - 1).toNat = 0 := rfl
 rw [hpos, hn]
 have h1 : adC (mkRat 1 2) 0 (mkRat 1 2) = some (mkRat 1 2) := rfl
 rw [h1]
 simp only [zX]
 have hadd : mkRat 1 2 + mkRat 0 1000000 = mkRat 1 2 := by
  rw [xu _ _ zc zc, yc zc zc]; decide
 have hc : abU (mkRat 1 2) = mkRat 1 2 := by rw [e]; exact aoX hu
 rw [hadd]
 unfold acI
 rw [if_pos (aw6 zc ⟨by omega, by omega⟩ zc)]
 show some (ay9 (some (abU (mkRat 1 2)))) = _
 rw [hc, ← e]; rfl
theorem auW {c : CvT} {x z : FxT} (h : acA (c, x, ()) = some (z, 0, ())) : ad4 (c, x, z, ()) = some (true, ()) := by
 unfold ad4
 dsimp only
 rw [h]
 show some (eqb (z, 0, ()) (z, 0, ()), ()) = _
 rw [aH8 rfl]
theorem aEe (y) (h : as9 () = some y) : l9_wakes_t.toO = some y := by
 injection h with h
 subst h
 unfold l9_wakes_t
 have o14 : acY (1, 4, ()) = some (fx (mkRat 1 4), ()) := ajG (d := 4) ⟨by omega, by omega⟩ zc zc
 have o12 : acY (1, 2, ()) = some (fx (mkRat 1 2), ()) := ajG (d := 2) ⟨by omega, by omega⟩ zc zc
 have o21 : acY (2, 1, ()) = some (fx (mkRat 2 1), ()) := ajG (d := 1) ⟨by omega, by omega⟩ zc zc
 have o01 : acY (0, 1, ()) = some (fx (mkRat 0 1), ()) := ajG (d := 1) ⟨by omega, by omega⟩ zc zc
 have o34 : acY (3, 4, ()) = some (fx (mkRat 3 4), ()) := ajG (d := 4) ⟨by omega, by omega⟩ zc zc
 refine uC (rootC, ()) rfl (uC _ o14 (uC _ aDj (uC (rootC, ()) rfl (uC _ aIQ ?_))))
 refine uC (arN, ()) rfl (uC _ aIM (uC (arN, ()) rfl (uC _ aIL ?_)))
 refine uC (arN, ()) rfl (uC _ o14 (uC _ o12 (uC _ (auW aDa) (uT rfl ?_))))
 refine uC (arN, ()) rfl (uC _ o21 (uC _ o01 (uC _ (auW aOy) (uT rfl ?_))))
 refine uC (stepsC, ()) rfl (uC _ o34 (uC _ o34 (uC _ (auW aFB) (uT rfl ?_))))
 refine uC (stepsC, ()) rfl (uC _ o12 (uC _ o12 (uC _ (auW aIO) (uT rfl ?_))))
 refine uT rfl (uT rfl (uT rfl (uT rfl (uT rfl (uT rfl (uT rfl ?_))))))
 exact uC _ aJB rfl
set_option maxRecDepth 100000
open Go Go.Vg Go.Proofs
noncomputable section
def aQq : LTab := []
def aFv (a : List UInt8) : TT uo :=
 .call (afI (a, ())) Dd6 fun y =>
 .ite (y.1 != 0)
 (.ok ((0, y.1, ())))
 (.call (aN2 (a, 10, 64, ())) aSI fun y1 =>
 .ite (y1.2.1)
 (.ok ((0, 6, ())))
 (.ok ((y1.1, 0, ()))))
def aJ9 : LTab := []
def afE (y3 : (Int) × (Bool) × Unit) (c : um × Unit) (y1 : ((List UInt8) × (List UInt8) × Unit) × (Int) × Unit) : TT uH :=
 .tt <| .tt <| .tt <| .tt <| .tt <| .tt <| .ite (y3.1 != y3.1)
 (.ite (w64 (w64 (len c.1.2.1 - 1) - 1) != w64 (w64 (len c.1.2.1 - 1) - 1))
 (.call (aaF (y3.1, ())) ae4 fun y20 =>
 .call (af5 ((y1.1.1, y1.1.2.1, ()), y20.1, ())) afR fun y21 =>
 .ite (y21.2.1 != 0)
 (.ok (((#[].toList, #[].toList, ()), y21.2.1, ())))
 (.need (inb (w64 (y3.1 + 1)) (len c.1.2.1)) <| .need (inb y3.1 (len c.1.2.1)) <| .call (aaF (w64 (gi c.1.2.1 (w64 (y3.1 + 1)) 0 - gi c.1.2.1 y3.1 0), ())) ae4 fun y22 =>
 .call (aeD (y22.1, (y21.1.1, y21.1.2.1, ()), ())) afR fun y23 =>
 .ite (y23.2.1 != 0)
 (.ok (((#[].toList, #[].toList, ()), y23.2.1, ())))
 (.need (inb y3.1 (len c.1.2.1)) <| .call (aaF (gi c.1.2.1 y3.1 0, ())) ae4 fun y24 =>
 .call (adU (y24.1, (y23.1.1, y23.1.2.1, ()), ())) afR fun y25 =>
 .ite (y25.2.1 != 0)
 (.ok (((#[].toList, #[].toList, ()), y25.2.1, ())))
 (.call (aaF (65535, ())) ae4 fun y26 =>
 .call (afL ((y25.1.1, y25.1.2.1, ()), y26.1, ())) afR fun y27 =>
 .ok (((y27.1.1, y27.1.2.1, ()), y27.2.1, ()))))))
 (.call (aaF (y3.1, ())) ae4 fun y28 =>
 .call (af5 ((y1.1.1, y1.1.2.1, ()), y28.1, ())) afR fun y29 =>
 .ite (y29.2.1 != 0)
 (.ok (((#[].toList, #[].toList, ()), y29.2.1, ())))
 (.need (inb (w64 (y3.1 + 1)) (len c.1.2.1)) <| .need (inb y3.1 (len c.1.2.1)) <| .call (aaF (w64 (gi c.1.2.1 (w64 (y3.1 + 1)) 0 - gi c.1.2.1 y3.1 0), ())) ae4 fun y30 =>
 .call (aeD (y30.1, (y29.1.1, y29.1.2.1, ()), ())) afR fun y31 =>
 .ite (y31.2.1 != 0)
 (.ok (((#[].toList, #[].toList, ()), y31.2.1, ())))
 (.need (inb y3.1 (len c.1.2.1)) <| .call (aaF (gi c.1.2.1 y3.1 0, ())) ae4 fun y32 =>
 .call (adU (y32.1, (y31.1.1, y31.1.2.1, ()), ())) afR fun y33 =>
 .ite (y33.2.1 != 0)
 (.ok (((#[].toList, #[].toList, ()), y33.2.1, ())))
 (.call (aaF (65535, ())) ae4 fun y34 =>
 .call (afL ((y33.1.1, y33.1.2.1, ()), y34.1, ())) afR fun y35 =>
 .ok (((y35.1.1, y35.1.2.1, ()), y35.2.1, ())))))))
 (.ite (w64 (w64 (len c.1.2.1 - 1) - 1) != w64 (w64 (len c.1.2.1 - 1) - 1))
 (.call (aaF (w64 (w64 (len c.1.2.1 - 1) - 1), ())) ae4 fun y36 =>
 .call (af5 ((y1.1.1, y1.1.2.1, ()), y36.1, ())) afR fun y37 =>
 .ite (y37.2.1 != 0)
 (.ok (((#[].toList, #[].toList, ()), y37.2.1, ())))
 (.need (inb (w64 (w64 (w64 (len c.1.2.1 - 1) - 1) + 1)) (len c.1.2.1)) <| .need (inb (w64 (w64 (len c.1.2.1 - 1) - 1)) (len c.1.2.1)) <| .call (aaF (w64 (gi c.1.2.1 (w64 (w64 (w64 (len c.1.2.1 - 1) - 1) + 1)) 0 - gi c.1.2.1 (w64 (w64 (len c.1.2.1 - 1) - 1)) 0), ())) ae4 fun y38 =>
 .call (aeD (y38.1, (y37.1.1, y37.1.2.1, ()), ())) afR fun y39 =>
 .ite (y39.2.1 != 0)
 (.ok (((#[].toList, #[].toList, ()), y39.2.1, ())))
 (.need (inb (w64 (w64 (len c.1.2.1 - 1) - 1)) (len c.1.2.1)) <| .call (aaF (gi c.1.2.1 (w64 (w64 (len c.1.2.1 - 1) - 1)) 0, ())) ae4 fun y40 =>
 .call (adU (y40.1, (y39.1.1, y39.1.2.1, ()), ())) afR fun y41 =>
 .ite (y41.2.1 != 0)
 (.ok (((#[].toList, #[].toList, ()), y41.2.1, ())))
 (.call (aaF (65535, ())) ae4 fun y42 =>
 .call (afL ((y41.1.1, y41.1.2.1, ()), y42.1, ())) afR fun y43 =>
 .ok (((y43.1.1, y43.1.2.1, ()), y43.2.1, ()))))))
 (.ite (decide (y3.1 < w64 (w64 (len c.1.2.1 - 1) - 1)))
 (.call (aaF (y3.1, ())) ae4 fun y44 =>
 .call (af5 ((y1.1.1, y1.1.2.1, ()), y44.1, ())) afR fun y45 =>
 .ite (y45.2.1 != 0)
 (.ok (((#[].toList, #[].toList, ()), y45.2.1, ())))
 (.need (inb (w64 (y3.1 + 1)) (len c.1.2.1)) <| .need (inb y3.1 (len c.1.2.1)) <| .call (aaF (w64 (gi c.1.2.1 (w64 (y3.1 + 1)) 0 - gi c.1.2.1 y3.1 0), ())) ae4 fun y46 =>
 .call (aeD (y46.1, (y45.1.1, y45.1.2.1, ()), ())) afR fun y47 =>
 .ite (y47.2.1 != 0)
 (.ok (((#[].toList, #[].toList, ()), y47.2.1, ())))
 (.need (inb y3.1 (len c.1.2.1)) <| .call (aaF (gi c.1.2.1 y3.1 0, ())) ae4 fun y48 =>
 .call (adU (y48.1, (y47.1.1, y47.1.2.1, ()), ())) afR fun y49 =>
 .ite (y49.2.1 != 0)
 (.ok (((#[].toList, #[].toList, ()), y49.2.1, ())))
 (.call (aaF (65535, ())) ae4 fun y50 =>
 .call (afL ((y49.1.1, y49.1.2.1, ()), y50.1, ())) afR fun y51 =>
 .ok (((y51.1.1, y51.1.2.1, ()), y51.2.1, ()))))))
 (.ite (decide (y3.1 > w64 (w64 (len c.1.2.1 - 1) - 1)))
 (.call (aaF (w64 (w64 (len c.1.2.1 - 1) - 1), ())) ae4 fun y52 =>
 .call (af5 ((y1.1.1, y1.1.2.1, ()), y52.1, ())) afR fun y53 =>
 .ite (y53.2.1 != 0)
 (.ok (((#[].toList, #[].toList, ()), y53.2.1, ())))
 (.need (inb (w64 (w64 (w64 (len c.1.2.1 - 1) - 1) + 1)) (len c.1.2.1)) <| .need (inb (w64 (w64 (len c.1.2.1 - 1) - 1)) (len c.1.2.1)) <| .call (aaF (w64 (gi c.1.2.1 (w64 (w64 (w64 (len c.1.2.1 - 1) - 1) + 1)) 0 - gi c.1.2.1 (w64 (w64 (len c.1.2.1 - 1) - 1)) 0), ())) ae4 fun y54 =>
 .call (aeD (y54.1, (y53.1.1, y53.1.2.1, ()), ())) afR fun y55 =>
 .ite (y55.2.1 != 0)
 (.ok (((#[].toList, #[].toList, ()), y55.2.1, ())))
 (.need (inb (w64 (w64 (len c.1.2.1 - 1) - 1)) (len c.1.2.1)) <| .call (aaF (gi c.1.2.1 (w64 (w64 (len c.1.2.1 - 1) - 1)) 0, ())) ae4 fun y56 =>
 .call (adU (y56.1, (y55.1.1, y55.1.2.1, ()), ())) afR fun y57 =>
 .ite (y57.2.1 != 0)
 (.ok (((#[].toList, #[].toList, ()), y57.2.1, ())))
 (.call (aaF (65535, ())) ae4 fun y58 =>
 .call (afL ((y57.1.1, y57.1.2.1, ()), y58.1, ())) afR fun y59 =>
 .ok (((y59.1.1, y59.1.2.1, ()), y59.2.1, ()))))))
 (.call (aaF (y3.1, ())) ae4 fun y60 =>
 .call (af5 ((y1.1.1, y1.1.2.1, ()), y60.1, ())) afR fun y61 =>
 .ite (y61.2.1 != 0)
 (.ok (((#[].toList, #[].toList, ()), y61.2.1, ())))
 (.need (inb (w64 (y3.1 + 1)) (len c.1.2.1)) <| .need (inb y3.1 (len c.1.2.1)) <| .call (aaF (w64 (gi c.1.2.1 (w64 (y3.1 + 1)) 0 - gi c.1.2.1 y3.1 0), ())) ae4 fun y62 =>
 .call (aeD (y62.1, (y61.1.1, y61.1.2.1, ()), ())) afR fun y63 =>
 .ite (y63.2.1 != 0)
 (.ok (((#[].toList, #[].toList, ()), y63.2.1, ())))
 (.need (inb y3.1 (len c.1.2.1)) <| .call (aaF (gi c.1.2.1 y3.1 0, ())) ae4 fun y64 =>
 .call (adU (y64.1, (y63.1.1, y63.1.2.1, ()), ())) afR fun y65 =>
 .ite (y65.2.1 != 0)
 (.ok (((#[].toList, #[].toList, ()), y65.2.1, ())))
 (.call (aaF (65535, ())) ae4 fun y66 =>
 .call (afL ((y65.1.1, y65.1.2.1, ()), y66.1, ())) afR fun y67 =>
 .ok (((y67.1.1, y67.1.2.1, ()), y67.2.1, ())))))))))
def afD (y1 : ((List UInt8) × (List UInt8) × Unit) × (Int) × Unit) (c : um × Unit) : TT uH :=
 .call (aaF (0, ())) ae4 fun y4 =>
 .call (af5 ((y1.1.1, y1.1.2.1, ()), y4.1, ())) afR fun y5 =>
 .ite (y5.2.1 != 0)
 (.ok (((#[].toList, #[].toList, ()), y5.2.1, ())))
 (.need (inb (w64 (0 + 1)) (len c.1.2.1)) <| .need (asT Int 0 ≤ 0 ∧ 0 < len c.1.2.1) <| .call (aaF (w64 (gi c.1.2.1 (w64 (0 + 1)) 0 - gi c.1.2.1 0 0), ())) ae4 fun y6 =>
 .call (aeD (y6.1, (y5.1.1, y5.1.2.1, ()), ())) afR fun y7 =>
 .ite (y7.2.1 != 0)
 (.ok (((#[].toList, #[].toList, ()), y7.2.1, ())))
 (.need (asT Int 0 ≤ 0 ∧ 0 < len c.1.2.1) <| .call (aaF (gi c.1.2.1 0 0, ())) ae4 fun y8 =>
 .call (adU (y8.1, (y7.1.1, y7.1.2.1, ()), ())) afR fun y9 =>
 .ite (y9.2.1 != 0)
 (.ok (((#[].toList, #[].toList, ()), y9.2.1, ())))
 (.call (aaF (65535, ())) ae4 fun y10 =>
 .call (afL ((y9.1.1, y9.1.2.1, ()), y10.1, ())) afR fun y11 =>
 .ok (((y11.1.1, y11.1.2.1, ()), y11.2.1, ())))))
def asU (c : um × Unit) (x : List UInt8 × List UInt8 × Unit) : TT uH :=
 .call (aaF (w64 (len c.1.2.1 - 1), ())) ae4 fun y =>
 .call (aeD ((x.1, x.2.1, ()), y.1, ())) afR fun y1 =>
 .ite (y1.2.1 != 0)
 (.ok (((#[].toList, #[].toList, ()), y1.2.1, ())))
 (.call (aj3 ((y1.1.1, y1.1.2.1, ()), ())) aHn fun y2 =>
  .ite (y2.2.1 != 0)
  (.ok (((#[].toList, #[].toList, ()), y2.2.1, ())))
  (.call (aN3 (y2.1, ())) aSI fun y3 =>
   .ite (y3.2.1)
   (.tt <| .tt <| .tt <| .tt <| .tt <| .tt <| .tt <| .tt <| .ite (y3.1 != y3.1)
    (afD y1 c)
    (.ite (decide (y3.1 < 0))
     (afD y1 c)
     (.ite (decide (y3.1 > 0))
      (afE y3 c y1)
      (afE y3 c y1))))
   (.tt <| .tt <| .tt <| .tt <| .tt <| .tt <| .tt <| .tt <| .ite (y3.1 != y3.1)
    (afD y1 c)
    (.ite (decide (y3.1 < 0))
     (afD y1 c)
     (.ite (decide (y3.1 > 0))
      (afE y3 c y1)
      (afE y3 c y1))))))
end
theorem aRm {z : Int} (h : Fit z) : (dec z).length ≤ 601 := by
 unfold Fit at h
 unfold dec
 split
 ·rw [zL]; omega
 ·omega
theorem aKW (a : List UInt8) (y) (h : ak2 (a, ()) = some y) : (aFv a).toO = some y := by
 unfold ak2 at h
 injection h with h
 subst h
 dsimp only
 unfold aFv
 refine uC _ (adX a) ?_
 cases hz : rdW a with
 | none => exact uT rfl rfl
 | some z =>
  obtain ⟨hf, rfl⟩ := aeL hz
  refine uF rfl (uC _ (aSc (zC (aRm hf) zc)) ?_)
  dsimp only
  by_cases c : aa8 z
  ·rw [if_pos c, if_pos c]
   exact uF rfl rfl
  ·rw [if_neg c, if_neg c]
   exact uT rfl rfl
theorem amQ {l : List Int} {p : Rat} {k : Nat} (ht : adZ l) (hp : adK p) (hk : k + 1 < l.length) (hpl : ajA l p = k) (y1 : FxT × Int × Unit) (e1 : y1 = (fx p, 0, ()))
  {I A D : Int} (eI : I = k) (eA : A = l.getD k 0) (eD : D = l.getD (k + 1) 0 - l.getD k 0) {p1 p2 p3 : Prop} (h1 : p1) (h2 : p2) (h3 : p3) {d1 : FxT × Unit} {d2 : FxT × Int × Unit} :
  (TT.call (aaF (I, ())) d1 fun y4 => .call (af5 ((y1.1.1, y1.1.2.1, ()), y4.1, ())) d2 fun y5 => .ite (y5.2.1 != 0) (.ok (((#[].toList, #[].toList, ()), y5.2.1, ())))
   (.need p1 <| .need p2 <| .call (aaF (D, ())) d1 fun y6 => .call (aeD (y6.1, (y5.1.1, y5.1.2.1, ()), ())) d2 fun y7 => .ite (y7.2.1 != 0) (.ok (((#[].toList, #[].toList, ()), y7.2.1, ())))
    (.need p3 <| .call (aaF (A, ())) d1 fun y8 => .call (adU (y8.1, (y7.1.1, y7.1.2.1, ()), ())) d2 fun y9 => .ite (y9.2.1 != 0) (.ok (((#[].toList, #[].toList, ()), y9.2.1, ())))
     (.call (aaF (65535, ())) d1 fun y10 => .call (afL ((y9.1.1, y9.1.2.1, ()), y10.1, ())) d2 fun y11 => .ok (((y11.1.1, y11.1.2.1, ()), y11.2.1, ())))))).toO
   = some (ay9 ((acI (p - mkRat (ajA l p : Int) 1)).bind fun r => (acI (r * mkRat (l.getD (ajA l p + 1) 0 - l.getD (ajA l p) 0) 1)).bind fun t => (acI (mkRat (l.getD (ajA l p) 0) 1 + t)).bind fun y => acI (y / mkRat 65535 1))) := by
 have hl2 := ht.2.1
 subst eI eA eD e1
 rw [hpl]
 have i6 : aa8 65535 := ⟨by omega, by omega⟩
 have ik : aa8 (k : Int) := ⟨by omega, by omega⟩
 have bv := aj8 ht (show k < l.length by omega)
 have bv1 := aj8 ht hk
 have iv := aoK bv zc zc
 have id : aa8 (l.getD (k + 1) 0 - l.getD k 0) := ⟨by have := bv.1; have := bv.2; have := bv1.1; have := bv1.2; omega, by have := bv.1; have := bv.2; have := bv1.1; have := bv1.2; omega⟩
 refine uC _ (ab7 ik) (uC _ (aP3 hp (ad2 ik)) ?_)
 cases g1 : acI (p - mkRat (k : Int) 1) with
 | none => exact uT rfl rfl
 | some r =>
  have hr := (ae6 g1).1
  simp only [zX]
  refine uF rfl (uN h1 (uN h2 (uC _ (ab7 id) (uC _ (arG (ad2 id) hr) ?_))))
  rw [Rat.mul_comm]
  cases g2 : acI (r * mkRat (l.getD (k + 1) 0 - l.getD k 0) 1) with
  | none => exact uT rfl rfl
  | some t =>
   have ht' := (ae6 g2).1
   simp only [zX]
   refine uF rfl (uN h3 (uC _ (ab7 iv) (uC _ (aCV (ad2 iv) ht') ?_)))
   cases g3 : acI (mkRat (l.getD k 0) 1 + t) with
   | none => exact uT rfl rfl
   | some y =>
    have hy := (ae6 g3).1
    exact uF rfl (uC _ (ab7 i6) (uC _ (aIu hy (ad2 i6) (aHX zc)) rfl))
theorem aET (c : CvT × Unit) (x : FxT) (y) (h : af7 (c, x, ()) = some y) : (asU c x).toO = some y := by
 obtain ⟨⟨l', q⟩, ⟨hq, h0, h1, ht⟩, hx, rfl⟩ := aaD h
 obtain ⟨rfl, hx2⟩ := Prod.mk.inj hx; obtain ⟨rfl, -⟩ := Prod.mk.inj hx2; dsimp only
 dsimp only at hq h0 h1 ht
 obtain ⟨kd, l, sg, u⟩ := l'
 dsimp only at ht ⊢
 have hl1 := ht.1
 have hl2 := ht.2.1
 have w1 : w64 (len l - 1) = ((l.length - 1 : Nat) : Int) := by rw [aaC, aaA zc]; omega
 have w2 : w64 (((l.length - 1 : Nat) : Int) - 1) = ((l.length - 2 : Nat) : Int) := by rw [aaA zc]; omega
 have w3 : w64 (((l.length - 2 : Nat) : Int) + 1) = ((l.length - 2 + 1 : Nat) : Int) := by rw [aaA zc]; omega
 have in1 : aa8 ((l.length - 1 : Nat) : Int) := ⟨by omega, by omega⟩
 unfold asU afD afE aOd
 dsimp only
 rw [w1, w2, w3]
 refine uC _ (ab7 in1) (uC _ (arG hq (ad2 in1)) ?_)
 cases hs : acI (q * mkRat ((l.length - 1 : Nat) : Int) 1) with
 | none => exact uT rfl rfl
 | some p =>
 obtain ⟨hp, e⟩ := ae6 hs
 have hlp : (0 : Rat) ≤ mkRat ((l.length - 1 : Nat) : Int) 1 := by
  rw [aeE]
  have := vD.2 (show (0 : Int) ≤ ((l.length - 1 : Nat) : Int) by omega)
  exact this
 have hp0 : 0 ≤ p := by rw [e]; exact Rat.mul_nonneg h0 hlp
 have hp1 : p ≤ ((l.length - 1 : Nat) : Int) := by
  rw [e]
  have := xK h1 hlp
  rw [Rat.one_mul] at this
  rw [aeE] at this ⊢
  exact this
 clear e hs
 simp only [zX]
 have hf0 : 0 ≤ p.floor := Rat.le_floor_iff.2 hp0
 have hf1 : p.floor ≤ ((l.length - 1 : Nat) : Int) := by
  have h2 := Rat.floor_le p
  have h3 := Rat.le_trans h2 hp1
  exact vD.1 h3
 have efl : fl p = p.floor := Int.le_antisymm (Rat.le_floor_iff.2 (aRX p)) ((ajI p _).2 (Rat.floor_le p))
 have ifl : aa8 (fl p) := by rw [efl]; exact ⟨by omega, by omega⟩
 refine uF rfl (uC _ (show aj3 (fx p, ()) = some (dec (fl p), 0, ()) from ?_) (uF rfl (uC _ (aSe (z := fl p) ?_) (uF rfl ?_))))
 ·unfold aj3; dsimp only; rw [ae7 hp]
 ·exact ifl
 dsimp only
 rw [efl]
 generalize hF : p.floor = F at hf0 hf1
 have hpl : ajA l p = min F.toNat (l.length - 2) := by unfold ajA; rw [hF]
 obtain ⟨n, rfl⟩ := zv hf0
 have wn : w64 ((n : Int) + 1) = ((n + 1 : Nat) : Int) := by rw [aaA zc]; omega
 rw [wn]
 simp only [aaM]
 have hD : ∀ k, k + 1 < l.length → w64 (l.getD (k + 1) 0 - l.getD k 0) = l.getD (k + 1) 0 - l.getD k 0 := by
  intro k hk
  have b := aj8 ht (show k < l.length by omega)
  have b1 := aj8 ht hk
  exact aaA (by have := b.1; have := b.2; have := b1.1; have := b1.2; omega)
 rw [zp] at hpl
 repeat (first | refine uV ?_ | refine uF (bne_self_eq_false _) ?_)
 refine uF sd ?_
 rcases zE n with c0 | c0
 ·refine uF sd ?_
  repeat (first | refine uV ?_ | refine uF (bne_self_eq_false _) ?_)
  by_cases c1 : n < l.length - 2
  ·refine uT sd ?_
   exact amQ ht hp (k := n) zc (by rw [hpl]; omega) _ rfl rfl rfl (hD n zc) ⟨by exact sn, by exact sn⟩ ⟨by exact sn, by exact sn⟩ ⟨by exact sn, by exact sn⟩
  refine uF sd ?_
  by_cases c2 : n = l.length - 2
  ·refine uF sd ?_
   exact amQ ht hp (k := n) zc (by rw [hpl]; omega) _ rfl rfl rfl (hD n zc) ⟨by exact sn, by exact sn⟩ ⟨by exact sn, by exact sn⟩ ⟨by exact sn, by exact sn⟩
  refine uT sd ?_
  exact amQ ht hp (k := l.length - 2) zc (by rw [hpl]; omega) _ rfl rfl rfl (hD (l.length - 2) zc) ⟨by exact sn, by exact sn⟩ ⟨by exact sn, by exact sn⟩ ⟨by exact sn, by exact sn⟩
 ·refine uT sd ?_
  repeat (first | refine uV ?_ | refine uF (bne_self_eq_false _) ?_)
  by_cases c1 : n < l.length - 2
  ·refine uT sd ?_
   exact amQ ht hp (k := n) zc (by rw [hpl]; omega) _ rfl rfl rfl (hD n zc) ⟨by exact sn, by exact sn⟩ ⟨by exact sn, by exact sn⟩ ⟨by exact sn, by exact sn⟩
  refine uF sd ?_
  by_cases c2 : n = l.length - 2
  ·refine uF sd ?_
   exact amQ ht hp (k := n) zc (by rw [hpl]; omega) _ rfl rfl rfl (hD n zc) ⟨by exact sn, by exact sn⟩ ⟨by exact sn, by exact sn⟩ ⟨by exact sn, by exact sn⟩
  refine uT sd ?_
  exact amQ ht hp (k := l.length - 2) zc (by rw [hpl]; omega) _ rfl rfl rfl (hD (l.length - 2) zc) ⟨by exact sn, by exact sn⟩ ⟨by exact sn, by exact sn⟩ ⟨by exact sn, by exact sn⟩
end Go.Vs
