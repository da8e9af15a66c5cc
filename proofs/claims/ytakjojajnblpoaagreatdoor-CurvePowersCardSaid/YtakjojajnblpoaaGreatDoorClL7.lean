/-
  Trees of what the functions compute, and their laws. Own work; no condition.
-/
import Derived.Test.YtakjojajnblpoaaGreatDoorClL6
import Derived.Test.YtakjojajnblpoaaGreatDoorProg
set_option linter.unusedVariables false
set_option linter.unusedSimpArgs false
namespace Go.Vs
open Go Go.Vg
theorem one12_mk : one12 = mkRat 1000000000000 1 := by rw [mkRat_one]; rfl
theorem tight_mk (N : Int) {d : Nat} (hd : d ≠ 0) : tight (mkRat N d) (mkRat N d) = mkB 6 (N * 1000000000000 / d) (-(-(N * 1000000000000) / d)) := by
 unfold tight
 rw [one12_mk, Rat.mkRat_mul_mkRat, Nat.mul_one, Rat.neg_mkRat, fl_mkRat _ hd, fl_mkRat _ hd]
theorem lineQ_small {m a n : Int} (hm : inR m (-100000000) 100000000) (ha : inR a (-100000000) 100000000) (hn : inU n) :
  lineQ m a (mkRat n 1000000000000) = some (mkRat (lineN m a n) 1000000000000000000) ∧ FitQ (mkRat (lineN m a n) 1000000000000000000) := by
 obtain ⟨b1, b2⟩ := lineN_bd hm ha hn
 have c := lineN_bd hm (a := 0) ⟨by omega, by omega⟩ hn
 obtain ⟨c1, c2⟩ := c
 have e : lineN m 0 n = m * n := by unfold lineN; omega
 rw [e] at c1 c2
 have f1 : FitQ (mkRat (m * n) 1000000000000) := fitQ_mk (by omega) (fit_30 (by omega) (by omega)) (fit_30 (by omega) (by omega))
 have f2 : FitQ (mkRat (lineN m a n) 1000000000000) := fitQ_mk (by omega) (fit_30 (by omega) (by omega)) (fit_30 (by omega) (by omega))
 have f3 : FitQ (mkRat (lineN m a n) 1000000000000000000) := fitQ_mk (by omega) (fit_30 (by omega) (by omega)) (fit_30 (by omega) (by omega))
 refine ⟨?_, f3⟩
 unfold lineQ
 rw [Rat.mkRat_mul_mkRat, Nat.one_mul]
 unfold stepQ
 rw [if_pos f1]
 simp only [Option.bind_some]
 have g2 : mkRat (m * n) 1000000000000 + mkRat a 1 = mkRat (lineN m a n) 1000000000000 := by
  rw [Rat.mkRat_add_mkRat _ _ (by omega) (by omega)]
  unfold lineN
  rw [Nat.mul_one]; simp
 rw [g2, if_pos f2]
 simp only [Option.bind_some]
 have g3 : mkRat (lineN m a n) 1000000000000 / mkRat 1000000 1 = mkRat (lineN m a n) 1000000000000000000 := by
  have hm : mkRat (lineN m a n) 1000000000000 = mkRat (lineN m a n) 1000000000000000000 * mkRat 1000000 1 := by
   rw [Rat.mkRat_mul_mkRat, Rat.mkRat_eq_iff (by omega) (by omega)]; omega
  rw [hm, Rat.div_def, Rat.mul_assoc, Rat.mul_inv_cancel _ (mk1_ne (by omega)), Rat.mul_one]
 rw [g3, if_pos f3]
theorem tight_line {N : Int} (h1 : -200000000000000000000 ≤ N) (h2 : N ≤ 200000000000000000000) : tight (mkRat N 1000000000000000000) (mkRat N 1000000000000000000) = ((N / 1000000, -(-N / 1000000), ()), 0, ()) := by
 rw [tight_mk _ (by omega)]
 have e1 : N * 1000000000000 / ((1000000000000000000 : Nat) : Int) = N / 1000000 := by omega
 have e2 : -(N * 1000000000000) / ((1000000000000000000 : Nat) : Int) = -N / 1000000 := by omega
 rw [e1, e2]
 unfold mkB
 rw [if_pos ⟨by omega, by omega, by omega⟩]
theorem tight_off {n : Int} (h : inR n (-100000000) 100000000) : tight (mkRat n 1000000) (mkRat n 1000000) = ((n * 1000000, n * 1000000, ()), 0, ()) := by
 obtain ⟨h1, h2⟩ := h
 rw [tight_mk _ (by omega)]
 have e1 : n * 1000000000000 / ((1000000 : Nat) : Int) = n * 1000000 := by omega
 have e2 : -(-(n * 1000000000000) / ((1000000 : Nat) : Int)) = n * 1000000 := by omega
 rw [e1, e2]
 unfold mkB
 rw [if_pos ⟨by omega, by omega, by omega⟩]
theorem inU_i64 {n : Int} (h : inU n) : inI64 n := ⟨by have := h.1; omega, by have := h.2; omega⟩
theorem fitQ_unit {n : Int} (h : inU n) : FitQ (mkRat n 1000000000000) := fitQ_mk (by omega) (fit_small (inU_i64 h)) (fit_small ⟨by omega, by omega⟩)
theorem ite_max0 (a : Int) : (if 0 > a then 0 else a) = max a 0 := by split <;> omega
theorem addB_okB {a b : BdT} (h : (addB a b).2.1 = 0) : okB (addB a b).1.1 (addB a b).1.2.1 := by
 unfold addB mkB at *
 split
 ·rename_i c
  rw [if_pos c] at h
  split
  ·assumption
  ·rename_i d; rw [if_neg d] at h; exact absurd h (by decide)
 ·rename_i c; rw [if_neg c] at h; exact absurd h (by decide)
theorem clampB_unit {b : BdT} (h : okB b.1 b.2.1) : clampB b 0 1000000000000 = (unitB b, 0, ()) := by
 unfold clampB
 rw [if_pos h, if_pos ⟨by omega, by omega, by omega⟩]; rfl
theorem cp_values_law (p : PcT) (lo hi : Int) (y) (h : S_cp_values (p, lo, hi, ()) = some y) : (cp_values_t p lo hi).toO = some y := by
 unfold S_cp_values at h
 split at h
 case isFalse => cases h
 case isTrue hp =>
 obtain ⟨hn, hlo, hhi⟩ := hp
 dsimp only at hn hlo hhi h
 injection h with h
 subst h
 obtain ⟨l1, f1⟩ := lineQ_small hn.1 hn.2.1 hlo
 obtain ⟨l2, f2⟩ := lineQ_small hn.1 hn.2.1 hhi
 obtain ⟨b1, b2⟩ := lineN_bd hn.1 hn.2.1 hlo
 obtain ⟨b3, b4⟩ := lineN_bd hn.1 hn.2.1 hhi
 have io := inR_i64 hn.2.2.1 (by omega) (by omega)
 unfold cp_values_t
 refine uC _ (L_c_over (d := 1000000000000) (inU_i64 hlo) (by omega) (by omega)) ?_
 refine uC _ (L_cp_line (p := p) (fitQ_unit hlo) hn) ?_
 rw [l1]
 refine uF rfl ?_
 refine uC _ (L_c_over (d := 1000000000000) (inU_i64 hhi) (by omega) (by omega)) ?_
 refine uC _ (L_cp_line (p := p) (fitQ_unit hhi) hn) ?_
 rw [l2]
 refine uF rfl ?_
 have t1 := tight_line b1 b2
 have t2 := tight_line b3 b4
 have ha : S_c_around ([fx (mkRat (lineN p.1.2.1 p.1.2.2.1 lo) 1000000000000000000), fx (mkRat (lineN p.1.2.1 p.1.2.2.1 hi) 1000000000000000000)], ()) = some (hullR (tight (mkRat (lineN p.1.2.1 p.1.2.2.1 lo) 1000000000000000000) (mkRat (lineN p.1.2.1 p.1.2.2.1 lo) 1000000000000000000)).1 (tight (mkRat (lineN p.1.2.1 p.1.2.2.1 hi) 1000000000000000000) (mkRat (lineN p.1.2.1 p.1.2.2.1 hi) 1000000000000000000)).1, 0, ()) := by
  refine spec_at (enc := fun l : List Rat => (l.map (fun q => fx q), ())) [mkRat (lineN p.1.2.1 p.1.2.2.1 lo) 1000000000000000000, mkRat (lineN p.1.2.1 p.1.2.2.1 hi) 1000000000000000000] ⟨by simp, by simp, fun q hq => ?_⟩ (fun b hb => ?_)
  ·rcases List.mem_cons.1 hq with e | e
   ·subst e; exact ⟨f1, by rw [t1]⟩
   ·rw [List.mem_singleton.1 e]; exact ⟨f2, by rw [t2]⟩
  ·have := (Prod.mk.inj hb).1
   exact List.map_inj_right (fun a b hab => fx_inj hab) |>.1 this
 refine uC _ ha (uF rfl ?_)
 rw [t1, t2]
 simp only [hullR]
 refine uC (powB (rootU p.1 lo hi) p.1.2.2.2.1 p.1.2.2.2.2.1) (by unfold rootU; rw [← ite_max0, ← ite_max0]; rfl) ?_
 unfold rootB
 generalize powB (rootU p.1 lo hi) p.1.2.2.2.1 p.1.2.2.2.2.1 = w
 by_cases c1 : w.2.1 = 0
 case neg => rw [if_pos c1]; exact uT (by simpa using c1) rfl
 rw [if_neg (fun h => h c1)]
 refine uF (by simpa using c1) (uC _ (L_c_over (d := 1000000) io (by omega) (by omega)) (uC _ (L_b_AroundS (fitQ_micro io)) ?_))
 rw [tight_off hn.2.2.1]
 refine uF rfl (uC (addB w.1 (p.1.2.2.2.2.2.1 * 1000000, p.1.2.2.2.2.2.1 * 1000000, ())) rfl ?_)
 have hok := @addB_okB w.1 (p.1.2.2.2.2.2.1 * 1000000, p.1.2.2.2.2.2.1 * 1000000, ())
 generalize addB w.1 (p.1.2.2.2.2.2.1 * 1000000, p.1.2.2.2.2.2.1 * 1000000, ()) = z at hok
 by_cases c2 : z.2.1 = 0
 case neg => rw [if_pos c2]; exact uT (by simpa using c2) rfl
 rw [if_neg (fun h => h c2)]
 refine uF (by simpa using c2) (uC (clampB z.1 0 1000000000000) rfl ?_)
 rw [clampB_unit (hok c2)]; rfl
end Go.Vs
set_option maxRecDepth 100000
namespace Go.Vs
open Go Go.Vg Go.Proofs
noncomputable section
def cc_formulaBand_L : LTab := [(128, 14, 17409, { tag := 0, ι := (Int) × (Int) × Bool × (List (Int × Int × Unit)) × Unit, vs := .dat (.s 9) (Ty.int IntKind.i64) <| .dat (.s 3) (Ty.int IntKind.i64) <| .appN (.c 4 0) 17 53 (Ty.pair (Ty.int IntKind.i64) (Ty.pair (Ty.int IntKind.i64) Ty.unit)) <| .nil, ks := [8, 7, 0], kh := [11, 7, 4, 3, 2, 1, 0], fresh := 1 })]
def cc_formulaBand_R1_k1 (x : Int × Int × Unit) (c : (Int × List Int × List (Int × Int × Int × Int × Int × Int × Unit) × Unit) × Unit) (i : (Int) × (Int) × Bool × (List (Int × Int × Unit)) × Unit) : TT (((Int) × (Int) × Bool × (List (Int × Int × Unit)) × Unit) ⊕ ((Int × Int × Unit) × Int × Unit)) :=
 .ite (decide (x.1 > w64 ((gi c.1.2.2.1 i.1 (0, 0, 0, 0, 0, 0, ())).1 * 1000000)))
 (.tt <| .lt (w64 (i.1 + 1) : Int) fun z15 => .lt ((gi c.1.2.2.1 i.1 (0, 0, 0, 0, 0, 0, ())).1 : Int) fun z16 => .lt (i.2.2.2.1 : List (Int × Int × Unit)) fun z17 => .triv (Qq z16 ∧ Qq z15 ∧ Qq (len c.1.2.2.1) ∧ Qq c.1.2.2.1 ∧ (Qq 11 ∧ Qq true) ∧ True) tv <| .triv ((Qq (53 : TypeId) ∧ Qq z17) ∧ Qq true ∧ (Qq (LoopState.ready : LoopState) ∧ Qq (none : Option Code) ∧ Qq 64 ∧ Qq (#[13] : Array Tmp) ∧ Qq (subC (codeOf Tryz.f58) [1, 1, 0, 1, 0, 0]) ∧ Qq (subC (codeOf Tryz.f58) [1, 1, 0, 1, 0, 1]) ∧ (Qq (128 : FuncId) ∧ True ∧ (Qq 7 ∧ Qq 0 ∧ Qq true) ∧ True) ∧ Qq ((c.1.1, c.1.2.1, c.1.2.2.1, ()) : Int × List Int × List (Int × Int × Int × Int × Int × Int × Unit) × Unit) ∧ (Qq 0 ∧ Qq 0 ∧ Qq true) ∧ (Qq 4 ∧ Qq 0 ∧ Qq true) ∧ (Qq 3 ∧ Qq 0 ∧ Qq true) ∧ (Qq 2 ∧ Qq 0 ∧ Qq true) ∧ (Qq 1 ∧ Qq 0 ∧ Qq true) ∧ (Qq 0 ∧ Qq 0 ∧ Qq true) ∧ Qq c ∧ Qq x ∧ True) ∧ Qq true ∧ (Qq (42 : TypeId) ∧ Qq c.1.1 ∧ Qq c.1.2.1 ∧ Qq c.1.2.2.1 ∧ True) ∧ Qq true ∧ (Qq (169 : TypeId) ∧ (Qq 17 ∧ Qq 0 ∧ Qq (List.length z17) ∧ Qq true) ∧ True) ∧ Qq true ∧ (Qq (48 : TypeId) ∧ Qq (0 : Int) ∧ True) ∧ Qq true ∧ (Qq (53 : TypeId) ∧ Qq (0 : Int) ∧ Qq (0 : Int) ∧ True) ∧ Qq true ∧ (Qq (53 : TypeId) ∧ Qq x.1 ∧ Qq x.2.1 ∧ True) ∧ Qq true ∧ (Qq (96 : TypeId) ∧ Qq c.1.1 ∧ Qq c.1.2.1 ∧ Qq c.1.2.2.1 ∧ True) ∧ Qq true ∧ True) tv <| .ok (.inl ((z15, z16, false, z17, ()))))
 (.call (S_cp_values ((((gi c.1.2.2.1 i.1 (0, 0, 0, 0, 0, 0, ())).1, (gi c.1.2.2.1 i.1 (0, 0, 0, 0, 0, 0, ())).2.1, (gi c.1.2.2.1 i.1 (0, 0, 0, 0, 0, 0, ())).2.2.1, (gi c.1.2.2.1 i.1 (0, 0, 0, 0, 0, 0, ())).2.2.2.1, (gi c.1.2.2.1 i.1 (0, 0, 0, 0, 0, 0, ())).2.2.2.2.1, (gi c.1.2.2.1 i.1 (0, 0, 0, 0, 0, 0, ())).2.2.2.2.2.1, ()), i.2.1, i.1 == 0, ()), if w64 (i.2.1 * 1000000) > x.1 then w64 (i.2.1 * 1000000) else x.1, if w64 ((gi c.1.2.2.1 i.1 (0, 0, 0, 0, 0, 0, ())).1 * 1000000) < x.2.1 then w64 ((gi c.1.2.2.1 i.1 (0, 0, 0, 0, 0, 0, ())).1 * 1000000) else x.2.1, ())) Dd16 fun y3 =>
 .ite (y3.2.1 != 0)
 (.ok (.inr (((0, 0, ()), y3.2.1, ()))))
 (.need ((List.length i.2.2.2.1 + 1) * 16 ≤ 140737488355328) <| .tt <| .lt (w64 (i.1 + 1) : Int) fun z18 => .lt ((gi c.1.2.2.1 i.1 (0, 0, 0, 0, 0, 0, ())).1 : Int) fun z19 => .lt (List.take (List.length i.2.2.2.1) i.2.2.2.1 ++ [(y3.1.1, y3.1.2.1, ())] : List (Int × Int × Unit)) fun z20 => .triv (Qq z19 ∧ Qq z18 ∧ Qq (len c.1.2.2.1) ∧ Qq c.1.2.2.1 ∧ (Qq 11 ∧ Qq true) ∧ True) tv <| .need ((((53 : TypeId) = 53) ∧ ((z20 : List (Int × Int × Unit)) = z20)) ∧ (true = true) ∧ (((LoopState.ready : LoopState) = LoopState.ready) ∧ (((none : Option Code) = none) ∧ (((64) = (64)) ∧ (((#[13] : Array Tmp) = #[13]) ∧ (((subC (codeOf Tryz.f58) [1, 1, 0, 1, 0, 0]) = (subC (codeOf Tryz.f58) [1, 1, 0, 1, 0, 0])) ∧ (((subC (codeOf Tryz.f58) [1, 1, 0, 1, 0, 1]) = (subC (codeOf Tryz.f58) [1, 1, 0, 1, 0, 1])) ∧ ((((128 : FuncId) = 128) ∧ (True ∧ ((((7) = (7)) ∧ (((0) = (0)) ∧ ((true) = (true)))) ∧ True))) ∧ ((((c.1.1, c.1.2.1, c.1.2.2.1, ()) : Int × List Int × List (Int × Int × Int × Int × Int × Int × Unit) × Unit) = (c.1.1, c.1.2.1, c.1.2.2.1, ())) ∧ ((((0) = (0)) ∧ (((0) = (0)) ∧ ((true) = (true)))) ∧ ((((4) = (4)) ∧ (((0) = (0)) ∧ ((true) = (true)))) ∧ ((((3) = (3)) ∧ (((0) = (0)) ∧ ((true) = (true)))) ∧ ((((2) = (2)) ∧ (((0) = (0)) ∧ ((true) = (true)))) ∧ ((((1) = (1)) ∧ (((0) = (0)) ∧ ((true) = (true)))) ∧ ((((0) = (0)) ∧ (((0) = (0)) ∧ ((true) = (true)))) ∧ (((c) = (c)) ∧ (((x) = (x)) ∧ True)))))))))))))))) ∧ (true = true) ∧ (((42 : TypeId) = 42) ∧ (((c.1.1 : Int) = c.1.1) ∧ (((c.1.2.1 : List Int) = c.1.2.1) ∧ (((c.1.2.2.1 : List (Int × Int × Int × Int × Int × Int × Unit)) = c.1.2.2.1) ∧ True)))) ∧ (true = true) ∧ (((169 : TypeId) = 169) ∧ ((((17) = (17)) ∧ (((0) = (0)) ∧ ((List.length i.2.2.2.1 + 1 = List.length z20) ∧ ((true) = (true))))) ∧ True)) ∧ (true = true) ∧ (((48 : TypeId) = 48) ∧ (((0 : Int) = 0) ∧ True)) ∧ (true = true) ∧ (((53 : TypeId) = 53) ∧ (((0 : Int) = 0) ∧ (((0 : Int) = 0) ∧ True))) ∧ (true = true) ∧ (((53 : TypeId) = 53) ∧ (((x.1 : Int) = x.1) ∧ (((x.2.1 : Int) = x.2.1) ∧ True))) ∧ (true = true) ∧ (((96 : TypeId) = 96) ∧ (((c.1.1 : Int) = c.1.1) ∧ (((c.1.2.1 : List Int) = c.1.2.1) ∧ (((c.1.2.2.1 : List (Int × Int × Int × Int × Int × Int × Unit)) = c.1.2.2.1) ∧ True)))) ∧ (true = true) ∧ True) <| .ok (.inl ((z18, z19, false, z20, ())))))
def cc_formulaBand_R1_k2 (x : Int × Int × Unit) (c : (Int × List Int × List (Int × Int × Int × Int × Int × Int × Unit) × Unit) × Unit) (i : (Int) × (Int) × Bool × (List (Int × Int × Unit)) × Unit) : TT (((Int) × (Int) × Bool × (List (Int × Int × Unit)) × Unit) ⊕ ((Int × Int × Unit) × Int × Unit)) :=
 .ite (decide (x.1 > w64 ((gi c.1.2.2.1 i.1 (0, 0, 0, 0, 0, 0, ())).1 * 1000000)))
 (.tt <| .lt (w64 (i.1 + 1) : Int) fun z2 => .lt ((gi c.1.2.2.1 i.1 (0, 0, 0, 0, 0, 0, ())).1 : Int) fun z3 => .triv (Qq z3 ∧ Qq z2 ∧ Qq (len c.1.2.2.1) ∧ Qq c.1.2.2.1 ∧ (Qq 11 ∧ Qq true) ∧ True) tv <| .triv ((Qq (LoopState.ready : LoopState) ∧ Qq (none : Option Code) ∧ Qq 64 ∧ Qq (#[13] : Array Tmp) ∧ Qq (subC (codeOf Tryz.f58) [1, 1, 0, 1, 0, 0]) ∧ Qq (subC (codeOf Tryz.f58) [1, 1, 0, 1, 0, 1]) ∧ (Qq (128 : FuncId) ∧ True ∧ (Qq 7 ∧ Qq 0 ∧ Qq true) ∧ True) ∧ Qq ((c.1.1, c.1.2.1, c.1.2.2.1, ()) : Int × List Int × List (Int × Int × Int × Int × Int × Int × Unit) × Unit) ∧ (Qq 0 ∧ Qq 0 ∧ Qq true) ∧ (Qq 4 ∧ Qq 0 ∧ Qq true) ∧ (Qq 3 ∧ Qq 0 ∧ Qq true) ∧ (Qq 2 ∧ Qq 0 ∧ Qq true) ∧ (Qq 1 ∧ Qq 0 ∧ Qq true) ∧ (Qq 0 ∧ Qq 0 ∧ Qq true) ∧ Qq c ∧ Qq x ∧ True) ∧ Qq true ∧ (Qq (42 : TypeId) ∧ Qq c.1.1 ∧ Qq c.1.2.1 ∧ Qq c.1.2.2.1 ∧ True) ∧ Qq true ∧ (Qq (169 : TypeId) ∧ True ∧ True) ∧ Qq true ∧ (Qq (48 : TypeId) ∧ Qq (0 : Int) ∧ True) ∧ Qq true ∧ (Qq (53 : TypeId) ∧ Qq (0 : Int) ∧ Qq (0 : Int) ∧ True) ∧ Qq true ∧ (Qq (53 : TypeId) ∧ Qq x.1 ∧ Qq x.2.1 ∧ True) ∧ Qq true ∧ (Qq (96 : TypeId) ∧ Qq c.1.1 ∧ Qq c.1.2.1 ∧ Qq c.1.2.2.1 ∧ True) ∧ Qq true ∧ True) tv <| .ok (.inl ((z2, z3, true, [], ()))))
 (.call (S_cp_values ((((gi c.1.2.2.1 i.1 (0, 0, 0, 0, 0, 0, ())).1, (gi c.1.2.2.1 i.1 (0, 0, 0, 0, 0, 0, ())).2.1, (gi c.1.2.2.1 i.1 (0, 0, 0, 0, 0, 0, ())).2.2.1, (gi c.1.2.2.1 i.1 (0, 0, 0, 0, 0, 0, ())).2.2.2.1, (gi c.1.2.2.1 i.1 (0, 0, 0, 0, 0, 0, ())).2.2.2.2.1, (gi c.1.2.2.1 i.1 (0, 0, 0, 0, 0, 0, ())).2.2.2.2.2.1, ()), i.2.1, i.1 == 0, ()), if w64 (i.2.1 * 1000000) > x.1 then w64 (i.2.1 * 1000000) else x.1, if w64 ((gi c.1.2.2.1 i.1 (0, 0, 0, 0, 0, 0, ())).1 * 1000000) < x.2.1 then w64 ((gi c.1.2.2.1 i.1 (0, 0, 0, 0, 0, 0, ())).1 * 1000000) else x.2.1, ())) Dd16 fun y =>
 .ite (y.2.1 != 0)
 (.ok (.inr (((0, 0, ()), y.2.1, ()))))
 (.need (1 * 16 ≤ 140737488355328) <| .tt <| .lt (w64 (i.1 + 1) : Int) fun z4 => .lt ((gi c.1.2.2.1 i.1 (0, 0, 0, 0, 0, 0, ())).1 : Int) fun z5 => .lt ([(y.1.1, y.1.2.1, ())] : List (Int × Int × Unit)) fun z6 => .triv (Qq z5 ∧ Qq z4 ∧ Qq (len c.1.2.2.1) ∧ Qq c.1.2.2.1 ∧ (Qq 11 ∧ Qq true) ∧ True) tv <| .triv ((Qq (53 : TypeId) ∧ Qq z6) ∧ Qq true ∧ (Qq (LoopState.ready : LoopState) ∧ Qq (none : Option Code) ∧ Qq 64 ∧ Qq (#[13] : Array Tmp) ∧ Qq (subC (codeOf Tryz.f58) [1, 1, 0, 1, 0, 0]) ∧ Qq (subC (codeOf Tryz.f58) [1, 1, 0, 1, 0, 1]) ∧ (Qq (128 : FuncId) ∧ True ∧ (Qq 7 ∧ Qq 0 ∧ Qq true) ∧ True) ∧ Qq ((c.1.1, c.1.2.1, c.1.2.2.1, ()) : Int × List Int × List (Int × Int × Int × Int × Int × Int × Unit) × Unit) ∧ (Qq 0 ∧ Qq 0 ∧ Qq true) ∧ (Qq 4 ∧ Qq 0 ∧ Qq true) ∧ (Qq 3 ∧ Qq 0 ∧ Qq true) ∧ (Qq 2 ∧ Qq 0 ∧ Qq true) ∧ (Qq 1 ∧ Qq 0 ∧ Qq true) ∧ (Qq 0 ∧ Qq 0 ∧ Qq true) ∧ Qq c ∧ Qq x ∧ True) ∧ Qq true ∧ (Qq (42 : TypeId) ∧ Qq c.1.1 ∧ Qq c.1.2.1 ∧ Qq c.1.2.2.1 ∧ True) ∧ Qq true ∧ (Qq (169 : TypeId) ∧ (Qq 17 ∧ Qq 0 ∧ Qq 1 ∧ Qq true) ∧ True) ∧ Qq true ∧ (Qq (48 : TypeId) ∧ Qq (0 : Int) ∧ True) ∧ Qq true ∧ (Qq (53 : TypeId) ∧ Qq (0 : Int) ∧ Qq (0 : Int) ∧ True) ∧ Qq true ∧ (Qq (53 : TypeId) ∧ Qq x.1 ∧ Qq x.2.1 ∧ True) ∧ Qq true ∧ (Qq (96 : TypeId) ∧ Qq c.1.1 ∧ Qq c.1.2.1 ∧ Qq c.1.2.2.1 ∧ True) ∧ Qq true ∧ True) tv <| .ok (.inl ((z4, z5, false, z6, ())))))
def cc_formulaBand_R1 (c : (Int × List Int × List (Int × Int × Int × Int × Int × Int × Unit) × Unit) × Unit) (x : Int × Int × Unit) (i : (Int) × (Int) × Bool × (List (Int × Int × Unit)) × Unit) : TT (((Int) × (Int) × Bool × (List (Int × Int × Unit)) × Unit) ⊕ ((Int × Int × Unit) × Int × Unit)) :=
 .ite (i.2.2.1)
 (.ite (decide (i.1 < len c.1.2.2.1))
  (.need (inb i.1 (len c.1.2.2.1)) <| .ite (!i.1 == 0)
   (.ite (decide (x.2.1 ≤ w64 (i.2.1 * 1000000)))
    (.tt <| .lt (w64 (i.1 + 1) : Int) fun z => .lt ((gi c.1.2.2.1 i.1 (0, 0, 0, 0, 0, 0, ())).1 : Int) fun z1 => .triv (Qq z1 ∧ Qq z ∧ Qq (len c.1.2.2.1) ∧ Qq c.1.2.2.1 ∧ (Qq 11 ∧ Qq true) ∧ True) tv <| .triv ((Qq (LoopState.ready : LoopState) ∧ Qq (none : Option Code) ∧ Qq 64 ∧ Qq (#[13] : Array Tmp) ∧ Qq (subC (codeOf Tryz.f58) [1, 1, 0, 1, 0, 0]) ∧ Qq (subC (codeOf Tryz.f58) [1, 1, 0, 1, 0, 1]) ∧ (Qq (128 : FuncId) ∧ True ∧ (Qq 7 ∧ Qq 0 ∧ Qq true) ∧ True) ∧ Qq ((c.1.1, c.1.2.1, c.1.2.2.1, ()) : Int × List Int × List (Int × Int × Int × Int × Int × Int × Unit) × Unit) ∧ (Qq 0 ∧ Qq 0 ∧ Qq true) ∧ (Qq 4 ∧ Qq 0 ∧ Qq true) ∧ (Qq 3 ∧ Qq 0 ∧ Qq true) ∧ (Qq 2 ∧ Qq 0 ∧ Qq true) ∧ (Qq 1 ∧ Qq 0 ∧ Qq true) ∧ (Qq 0 ∧ Qq 0 ∧ Qq true) ∧ Qq c ∧ Qq x ∧ True) ∧ Qq true ∧ (Qq (42 : TypeId) ∧ Qq c.1.1 ∧ Qq c.1.2.1 ∧ Qq c.1.2.2.1 ∧ True) ∧ Qq true ∧ (Qq (169 : TypeId) ∧ True ∧ True) ∧ Qq true ∧ (Qq (48 : TypeId) ∧ Qq (0 : Int) ∧ True) ∧ Qq true ∧ (Qq (53 : TypeId) ∧ Qq (0 : Int) ∧ Qq (0 : Int) ∧ True) ∧ Qq true ∧ (Qq (53 : TypeId) ∧ Qq x.1 ∧ Qq x.2.1 ∧ True) ∧ Qq true ∧ (Qq (96 : TypeId) ∧ Qq c.1.1 ∧ Qq c.1.2.1 ∧ Qq c.1.2.2.1 ∧ True) ∧ Qq true ∧ True) tv <| .ok (.inl ((z, z1, true, [], ()))))
    (cc_formulaBand_R1_k2 x c i))
   (cc_formulaBand_R1_k2 x c i))
  (.call (S_c_hull ([], ())) Dd16 fun y2 =>
   .ok (.inr (((y2.1.1, y2.1.2.1, ()), y2.2.1, ())))))
 (.ite (decide (i.1 < len c.1.2.2.1))
  (.need (inb i.1 (len c.1.2.2.1)) <| .ite (!i.1 == 0)
   (.ite (decide (x.2.1 ≤ w64 (i.2.1 * 1000000)))
    (.tt <| .lt (w64 (i.1 + 1) : Int) fun z12 => .lt ((gi c.1.2.2.1 i.1 (0, 0, 0, 0, 0, 0, ())).1 : Int) fun z13 => .lt (i.2.2.2.1 : List (Int × Int × Unit)) fun z14 => .triv (Qq z13 ∧ Qq z12 ∧ Qq (len c.1.2.2.1) ∧ Qq c.1.2.2.1 ∧ (Qq 11 ∧ Qq true) ∧ True) tv <| .triv ((Qq (53 : TypeId) ∧ Qq z14) ∧ Qq true ∧ (Qq (LoopState.ready : LoopState) ∧ Qq (none : Option Code) ∧ Qq 64 ∧ Qq (#[13] : Array Tmp) ∧ Qq (subC (codeOf Tryz.f58) [1, 1, 0, 1, 0, 0]) ∧ Qq (subC (codeOf Tryz.f58) [1, 1, 0, 1, 0, 1]) ∧ (Qq (128 : FuncId) ∧ True ∧ (Qq 7 ∧ Qq 0 ∧ Qq true) ∧ True) ∧ Qq ((c.1.1, c.1.2.1, c.1.2.2.1, ()) : Int × List Int × List (Int × Int × Int × Int × Int × Int × Unit) × Unit) ∧ (Qq 0 ∧ Qq 0 ∧ Qq true) ∧ (Qq 4 ∧ Qq 0 ∧ Qq true) ∧ (Qq 3 ∧ Qq 0 ∧ Qq true) ∧ (Qq 2 ∧ Qq 0 ∧ Qq true) ∧ (Qq 1 ∧ Qq 0 ∧ Qq true) ∧ (Qq 0 ∧ Qq 0 ∧ Qq true) ∧ Qq c ∧ Qq x ∧ True) ∧ Qq true ∧ (Qq (42 : TypeId) ∧ Qq c.1.1 ∧ Qq c.1.2.1 ∧ Qq c.1.2.2.1 ∧ True) ∧ Qq true ∧ (Qq (169 : TypeId) ∧ (Qq 17 ∧ Qq 0 ∧ Qq (List.length z14) ∧ Qq true) ∧ True) ∧ Qq true ∧ (Qq (48 : TypeId) ∧ Qq (0 : Int) ∧ True) ∧ Qq true ∧ (Qq (53 : TypeId) ∧ Qq (0 : Int) ∧ Qq (0 : Int) ∧ True) ∧ Qq true ∧ (Qq (53 : TypeId) ∧ Qq x.1 ∧ Qq x.2.1 ∧ True) ∧ Qq true ∧ (Qq (96 : TypeId) ∧ Qq c.1.1 ∧ Qq c.1.2.1 ∧ Qq c.1.2.2.1 ∧ True) ∧ Qq true ∧ True) tv <| .ok (.inl ((z12, z13, false, z14, ()))))
    (cc_formulaBand_R1_k1 x c i))
   (cc_formulaBand_R1_k1 x c i))
  (.call (S_c_hull (List.take (List.length i.2.2.2.1) i.2.2.2.1, ())) Dd16 fun y5 =>
   .ok (.inr (((y5.1.1, y5.1.2.1, ()), y5.2.1, ())))))
def cc_formulaBand_t (c : (Int × List Int × List (Int × Int × Int × Int × Int × Int × Unit) × Unit) × Unit) (x : Int × Int × Unit) : TT ((Int × Int × Unit) × Int × Unit) :=
 .tt <| .tt <| .tt <| .tt <| .loop 0 (.tt <| .triv (Qq (0 : Int) ∧ Qq (0 : Int) ∧ Qq (len c.1.2.2.1) ∧ Qq c.1.2.2.1 ∧ (Qq 11 ∧ Qq true) ∧ True) tv <| .triv ((Qq (LoopState.ready : LoopState) ∧ Qq (none : Option Code) ∧ Qq 64 ∧ Qq (#[13] : Array Tmp) ∧ Qq (subC (codeOf Tryz.f58) [1, 1, 0, 1, 0, 0]) ∧ Qq (subC (codeOf Tryz.f58) [1, 1, 0, 1, 0, 1]) ∧ (Qq (128 : FuncId) ∧ True ∧ (Qq 7 ∧ Qq 0 ∧ Qq true) ∧ True) ∧ Qq ((c.1.1, c.1.2.1, c.1.2.2.1, ()) : Int × List Int × List (Int × Int × Int × Int × Int × Int × Unit) × Unit) ∧ (Qq 0 ∧ Qq 0 ∧ Qq true) ∧ (Qq 4 ∧ Qq 0 ∧ Qq true) ∧ (Qq 3 ∧ Qq 0 ∧ Qq true) ∧ (Qq 2 ∧ Qq 0 ∧ Qq true) ∧ (Qq 1 ∧ Qq 0 ∧ Qq true) ∧ (Qq 0 ∧ Qq 0 ∧ Qq true) ∧ Qq c ∧ Qq x ∧ True) ∧ Qq true ∧ (Qq (42 : TypeId) ∧ Qq c.1.1 ∧ Qq c.1.2.1 ∧ Qq c.1.2.2.1 ∧ True) ∧ Qq true ∧ (Qq (169 : TypeId) ∧ True ∧ True) ∧ Qq true ∧ (Qq (48 : TypeId) ∧ Qq (0 : Int) ∧ True) ∧ Qq true ∧ (Qq (53 : TypeId) ∧ Qq (0 : Int) ∧ Qq (0 : Int) ∧ True) ∧ Qq true ∧ (Qq (53 : TypeId) ∧ Qq x.1 ∧ Qq x.2.1 ∧ True) ∧ Qq true ∧ (Qq (96 : TypeId) ∧ Qq c.1.1 ∧ Qq c.1.2.1 ∧ Qq c.1.2.2.1 ∧ True) ∧ Qq true ∧ True) tv <| .ok ((0, 0, true, [], ()))) (cc_formulaBand_R1 c x)
end
end Go.Vs
namespace Go.Vs
open Go Go.Vg
theorem segsOk_mono : ∀ (l : List SegT) (last : Int), segsOk last l → ∀ j, j < l.length → last < (l.getD j zs).1 ∧ (j + 1 < l.length → (l.getD j zs).1 < (l.getD (j + 1) zs).1)
 | [], _, _, j, hj => by cases hj
 | s :: r, last, h, 0, _ => by
  refine ⟨by have := h.1.2.1; show last < s.1; omega, fun h2 => ?_⟩
  have := (segsOk_mono r s.1 h.2 0 (by simpa using h2)).1
  exact this
 | s :: r, last, h, j + 1, hj => by
  have := segsOk_mono r s.1 h.2 j (by simpa using hj)
  refine ⟨by have := h.1.2.1; have := this; show last < (r.getD j zs).1; omega, fun h2 => this.2 (by simpa using h2)⟩
theorem till_lt {l : List SegT} (h : segLOk l) {i j : Nat} (hij : i < j) (hj : j < l.length) : (l.getD i zs).1 < (l.getD j zs).1 := by
 induction j with
 | zero => omega
 | succ j ih =>
  have h1 := (segsOk_mono l 0 h.2.2 j (by omega)).2 hj
  rcases Nat.lt_or_ge i j with g | g
  ·have := ih g (by omega); omega
  ·obtain rfl : i = j := by omega
   exact h1
theorem partI_spec {n : Int} {l : List SegT} (h : segLOk l) (hn : inU n) : partI n l < l.length ∧ n ≤ (l.getD (partI n l) zs).1 * 1000000 ∧ ∀ j, j < partI n l → ¬ n ≤ (l.getD j zs).1 * 1000000 := by
 have h1 : partI n l < l.length := by
  obtain ⟨s, hs, e⟩ := segsOk_last l 0 h.2.2 (by omega)
  exact List.findIdx_lt_length_of_exists ⟨s, hs, decide_eq_true (by rw [e]; exact hn.2)⟩
 refine ⟨h1, ?_, fun j hj => ?_⟩
 ·have := List.findIdx_getElem (p := fun s : SegT => decide (n ≤ s.1 * 1000000)) (xs := l) (w := h1)
  rw [getD_at h1]
  exact of_decide_eq_true this
 ·have := List.not_of_lt_findIdx (p := fun s : SegT => decide (n ≤ s.1 * 1000000)) (xs := l) hj
  rw [getD_at (show j < l.length by omega)]
  simpa using this
theorem part_first {n : Int} {l : List SegT} (h : segLOk l) (hn : inU n) {k : Nat} (hk : k < l.length) : n ≤ (l.getD k zs).1 * 1000000 ↔ partI n l ≤ k := by
 obtain ⟨h1, h2, h3⟩ := partI_spec h hn
 constructor
 ·intro g
  rcases Nat.lt_or_ge k (partI n l) with c | c
  ·exact absurd g (h3 k c)
  ·exact c
 ·intro g
  rcases Nat.lt_or_ge (partI n l) k with c | c
  ·have := till_lt h c hk; omega
  ·obtain rfl : partI n l = k := by omega
   exact h2
theorem before_last {n : Int} {l : List SegT} (h : segLOk l) (hn : inU n) {k : Nat} (hk0 : k ≠ 0) (hk : k < l.length) : n ≤ beforeI l k * 1000000 ↔ partI n l < k := by
 unfold beforeI
 rw [if_neg hk0, part_first h hn (show k - 1 < l.length by omega)]
 omega
theorem beforeI_in {l : List SegT} (h : segLOk l) {k : Nat} (hk : k ≤ l.length) : inR (beforeI l k) 0 1000000 := by
 unfold beforeI
 split
 ·exact ⟨by omega, by omega⟩
 ·exact (seg_get h (show k - 1 < l.length by omega)).2
theorem rootB_ok {s : SegT} {a b : Int} (h : (rootB s a b).2.1 = 0) : okB (rootB s a b).1.1 (rootB s a b).1.2.1 := by
 unfold rootB at *
 generalize powB (rootU s a b) s.2.2.2.1 s.2.2.2.2.1 = w at *
 by_cases c1 : w.2.1 = 0
 case neg => rw [if_pos c1] at h; exact absurd h c1
 rw [if_neg (fun h => h c1)] at h ⊢
 have hok := @addB_okB w.1 (s.2.2.2.2.2.1 * 1000000, s.2.2.2.2.2.1 * 1000000, ())
 generalize addB w.1 (s.2.2.2.2.2.1 * 1000000, s.2.2.2.2.2.1 * 1000000, ()) = z at *
 by_cases c2 : z.2.1 = 0
 case neg => rw [if_pos c2] at h; exact absurd h c2
 rw [if_neg (fun h => h c2)]
 obtain ⟨o1, o2, o3⟩ := hok c2
 unfold unitB okB
 dsimp only
 omega
end Go.Vs
namespace Go.Vs
open Go Go.Vg
theorem L_cp_values {p : PcT} {lo hi : Int} (h1 : numsOk p.1) (h2 : inU lo) (h3 : inU hi) : S_cp_values (p, lo, hi, ()) = some (rootB p.1 lo hi) := by
 unfold S_cp_values; exact if_pos ⟨h1, h2, h3⟩
theorem bandsGo_succ (l : List SegT) (lo hi : Int) (n k : Nat) (acc : List BdT) : bandsGo l lo hi (n + 1) k acc = if (segB l lo hi k).2.1 ≠ 0 then ((0, 0, ()), (segB l lo hi k).2.1, ()) else bandsGo l lo hi n (k + 1) (acc ++ [(segB l lo hi k).1]) := rfl
theorem cc_formulaBand_law (c : CvT × Unit) (x : BdT) (y) (h : S_cc_formulaBand (c, x, ()) = some y) : (cc_formulaBand_t c x).toO = some y := by
 unfold S_cc_formulaBand at h
 split at h
 case isFalse => cases h
 case isTrue hp =>
 obtain ⟨hl, hlo, hhi, hle⟩ := hp
 dsimp only at hl hlo hhi hle h
 injection h with h
 subst h
 obtain ⟨⟨kind, tab, l, u0⟩, u1⟩ := c
 obtain ⟨lo, hi, u2⟩ := x
 dsimp only at hl hlo hhi hle ⊢
 have hlen := hl.2.1
 obtain ⟨pf1, pf2, pf3⟩ := partI_spec hl hlo
 obtain ⟨pl1, pl2, pl3⟩ := partI_spec hl hhi
 have hfl : partI lo l ≤ partI hi l := (part_first hl hlo pl1).1 (by omega)
 have hlo1 := hlo.1
 have hlo2 := hlo.2
 have hhi1 := hhi.1
 have hhi2 := hhi.2
 unfold cc_formulaBand_t
 refine uO (0, 0, true, [], ()) rfl ?_
 refine loopO_eq (fun i : Int × Int × Bool × List BdT × Unit => ∃ (k : Nat) (acc : List BdT), k ≤ l.length ∧ i = ((k : Int), beforeI l k, acc.isEmpty, acc, ()) ∧ (k ≤ partI lo l → acc = []) ∧ (partI lo l < k → acc ≠ []) ∧ acc.length ≤ k ∧ (∀ b ∈ acc, okB b.1 b.2.1) ∧ bandsF l lo hi = bandsGo l lo hi (partI hi l + 1 - max k (partI lo l)) (max k (partI lo l)) acc) (fun i => ((l.length : Int) - i.1).toNat) (fun _ => bandsF l lo hi) ?_ _ ⟨0, [], by omega, rfl, fun _ => rfl, fun h => by omega, by simp, by simp, by unfold bandsF; rw [show max 0 (partI lo l) = partI lo l by omega]⟩
 rintro i ⟨k, acc, k1, rfl, k2, k3, k4, k5, k6⟩
 simp only [cc_formulaBand_R1, cc_formulaBand_R1_k2, cc_formulaBand_R1_k1, gi_nat]
 rcases Nat.lt_or_ge k l.length with hk | hk
 ·obtain ⟨hn, ht1, ht2⟩ := seg_get hl hk
  obtain ⟨hb1, hb2⟩ := beforeI_in hl k1
  have hb3 : beforeI l (k + 1) = (l.getD k zs).1 := by unfold beforeI; rw [if_neg (by omega), Nat.add_sub_cancel]
  have hpf := part_first hl hlo hk
  have hpl := part_first hl hhi hk
  have wb : w64 (beforeI l k * 1000000) = beforeI l k * 1000000 := w64_id (by omega)
  have wt : w64 ((l.getD k zs).1 * 1000000) = (l.getD k zs).1 * 1000000 := w64_id (by omega)
  have wk : w64 ((k : Int) + 1) = ((k + 1 : Nat) : Int) := by rw [w64_id (by omega)]; omega
  have e1 : (if beforeI l k * 1000000 > lo then beforeI l k * 1000000 else lo) = max lo (beforeI l k * 1000000) := by split <;> omega
  have e2 : (if (l.getD k zs).1 * 1000000 < hi then (l.getD k zs).1 * 1000000 else hi) = min hi ((l.getD k zs).1 * 1000000) := by split <;> omega
  have hcall : ∀ b : Bool, S_cp_values ((l.getD k zs, beforeI l k, b, ()), (if beforeI l k * 1000000 > lo then beforeI l k * 1000000 else lo), (if (l.getD k zs).1 * 1000000 < hi then (l.getD k zs).1 * 1000000 else hi), ()) = some (segB l lo hi k) := by
   intro b
   rw [e1, e2]
   exact L_cp_values (p := (l.getD k zs, beforeI l k, b, ())) hn ⟨by omega, by omega⟩ ⟨by omega, by omega⟩
  have hok : (segB l lo hi k).2.1 = 0 → okB (segB l lo hi k).1.1 (segB l lo hi k).1.2.1 := rootB_ok
  rw [wb, wt, wk]
  by_cases ha : acc = []
  ·subst ha
   have hkf : k ≤ partI lo l := by
    rcases Nat.lt_or_ge (partI lo l) k with g | g
    ·exact absurd rfl (k3 g)
    ·exact g
   refine (fun (hskip : k < partI lo l → ((l.getD k zs).1 * 1000000 < lo)) (hcallc : ¬ k < partI lo l → ¬ (l.getD k zs).1 * 1000000 < lo) => ?_) (fun g => by omega) (fun g => by omega)
   rw [show max k (partI lo l) = partI lo l by omega] at k6
   by_cases hkf2 : k < partI lo l
   ·left
    refine ⟨(((k + 1 : Nat) : Int), (l.getD k zs).1, true, [], ()), ?_, ⟨k + 1, [], by omega, by rw [hb3]; rfl, fun _ => rfl, fun g => by omega, by simp, by simp, by rw [show max (k + 1) (partI lo l) = partI lo l by omega]; exact k6⟩, by dsimp only; omega, (by first | exact True.intro | rfl)⟩
    refine uT rfl (uT (decide_eq_true (by rw [len_eq]; omega)) (uN ⟨by omega, by rw [len_eq]; omega⟩ ?_))
    by_cases h0 : k = 0
    ·exact uF (by rw [h0]; rfl) (uT (decide_eq_true (hskip hkf2)) rfl)
    ·have hbl := before_last hl hhi h0 hk
     exact uT (by rw [Bool.not_eq_true', beq_eq_false_iff_ne]; omega) (uF sd (uT (decide_eq_true (hskip hkf2)) rfl))
   ·obtain rfl : k = partI lo l := by omega
    obtain ⟨m, hm⟩ : ∃ m, partI hi l + 1 - partI lo l = m + 1 := ⟨partI hi l - partI lo l, by omega⟩
    rw [hm, bandsGo_succ] at k6
    by_cases he : (segB l lo hi (partI lo l)).2.1 = 0
    ·rw [if_neg (fun h => h he)] at k6
     left
     refine ⟨(((partI lo l + 1 : Nat) : Int), (l.getD (partI lo l) zs).1, false, [(segB l lo hi (partI lo l)).1], ()), ?_, ⟨partI lo l + 1, [(segB l lo hi (partI lo l)).1], by omega, by rw [hb3]; rfl, fun g => by omega, fun _ => by simp, by simp, fun b hb => by rw [List.mem_singleton.1 hb]; exact hok he, by rw [show max (partI lo l + 1) (partI lo l) = partI lo l + 1 by omega, show partI hi l + 1 - (partI lo l + 1) = m by omega]; exact k6⟩, by dsimp only; omega, (by first | exact True.intro | rfl)⟩
     refine uT rfl (uT (decide_eq_true (by rw [len_eq]; omega)) (uN ⟨by omega, by rw [len_eq]; omega⟩ ?_))
     by_cases h0 : partI lo l = 0
     ·exact uF (by rw [h0]; rfl) (uF (decide_eq_false (hcallc hkf2)) (uC _ (hcall _) (uF (by rw [he]; rfl) (uN (by decide) rfl))))
     ·have hbl := before_last hl hhi h0 hk
      exact uT (by rw [Bool.not_eq_true', beq_eq_false_iff_ne]; omega) (uF sd (uF (decide_eq_false (hcallc hkf2)) (uC _ (hcall _) (uF (by rw [he]; rfl) (uN (by decide) rfl)))))
    ·rw [if_pos he] at k6
     right
     rw [k6]
     refine uT rfl (uT (decide_eq_true (by rw [len_eq]; omega)) (uN ⟨by omega, by rw [len_eq]; omega⟩ ?_))
     by_cases h0 : partI lo l = 0
     ·exact uF (by rw [h0]; rfl) (uF (decide_eq_false (hcallc hkf2)) (uC _ (hcall _) (uT (by simpa using he) rfl)))
     ·have hbl := before_last hl hhi h0 hk
      exact uT (by rw [Bool.not_eq_true', beq_eq_false_iff_ne]; omega) (uF sd (uF (decide_eq_false (hcallc hkf2)) (uC _ (hcall _) (uT (by simpa using he) rfl))))
  ·have hkf : partI lo l < k := by
    rcases Nat.lt_or_ge (partI lo l) k with g | g
    ·exact g
    ·exact absurd (k2 g) ha
   have hne : acc.isEmpty = false := by cases acc with | nil => exact absurd rfl ha | cons a b => rfl
   rw [show max k (partI lo l) = k by omega] at k6
   have h0 : k ≠ 0 := by omega
   have hbl := before_last hl hhi h0 hk
   by_cases hla : partI hi l < k
   ·left
    refine ⟨(((k + 1 : Nat) : Int), (l.getD k zs).1, acc.isEmpty, acc, ()), ?_, ⟨k + 1, acc, by omega, by rw [hb3], fun g => by omega, fun _ => ha, by omega, k5, by rw [k6, show max (k + 1) (partI lo l) = k + 1 by omega, show partI hi l + 1 - k = 0 by omega, show partI hi l + 1 - (k + 1) = 0 by omega]; rfl⟩, by dsimp only; omega, (by first | exact True.intro | rfl)⟩
    rw [hne]
    exact uF rfl (uT (decide_eq_true (by rw [len_eq]; omega)) (uN ⟨by omega, by rw [len_eq]; omega⟩ (uT (by rw [Bool.not_eq_true', beq_eq_false_iff_ne]; omega) (uT sd rfl))))
   ·obtain ⟨m, hm⟩ : ∃ m, partI hi l + 1 - k = m + 1 := ⟨partI hi l - k, by omega⟩
    rw [hm, bandsGo_succ] at k6
    by_cases he : (segB l lo hi k).2.1 = 0
    ·rw [if_neg (fun h => h he)] at k6
     left
     refine ⟨(((k + 1 : Nat) : Int), (l.getD k zs).1, false, acc ++ [(segB l lo hi k).1], ()), ?_, ⟨k + 1, acc ++ [(segB l lo hi k).1], by omega, by rw [hb3]; simp, fun g => by omega, fun _ => by simp, by simp; omega, fun b hb => ?_, by rw [show max (k + 1) (partI lo l) = k + 1 by omega, show partI hi l + 1 - (k + 1) = m by omega]; exact k6⟩, by dsimp only; omega, (by first | exact True.intro | rfl)⟩
     ·rw [hne]
      refine uF rfl (uT (decide_eq_true (by rw [len_eq]; omega)) (uN ⟨by omega, by rw [len_eq]; omega⟩ (uT (by rw [Bool.not_eq_true', beq_eq_false_iff_ne]; omega) (uF sd (uF sd (uC _ (hcall _) (uF (by rw [he]; rfl) (uN (by omega) ?_))))))))
      refine uB (uB (uB (uN (by simp) ?_)))
      rw [List.take_length]; rfl
     ·rcases List.mem_append.1 hb with g | g
      ·exact k5 b g
      ·rw [List.mem_singleton.1 g]; exact hok he
    ·rw [if_pos he] at k6
     right
     rw [k6, hne]
     exact uF rfl (uT (decide_eq_true (by rw [len_eq]; omega)) (uN ⟨by omega, by rw [len_eq]; omega⟩ (uT (by rw [Bool.not_eq_true', beq_eq_false_iff_ne]; omega) (uF sd (uF sd (uC _ (hcall _) (uT (by simpa using he) rfl)))))))
 ·right
  have ha : acc ≠ [] := k3 (by omega)
  have hne : acc.isEmpty = false := by cases acc with | nil => exact absurd rfl ha | cons a b => rfl
  rw [hne, k6, show partI hi l + 1 - max k (partI lo l) = 0 by omega]
  refine uF rfl (uF (decide_eq_false (by rw [len_eq]; omega)) (uC (hullL acc, 0, ()) ?_ rfl))
  rw [List.take_length]
  unfold S_c_hull
  exact if_pos ⟨ha, by dsimp only; omega, k5⟩
end Go.Vs
set_option maxRecDepth 100000
namespace Go.Vs
open Go Go.Vg Go.Proofs
noncomputable section
def c_Bands_L : LTab := []
def c_Bands_t (c : Int × List Int × List (Int × Int × Int × Int × Int × Int × Unit) × Unit) (x : Int × Int × Unit) : TT ((Int × Int × Unit) × Int × Unit) :=
 .call (S_c_Check ((c.1, c.2.1, c.2.2.1, ()), ())) Dd6 fun y =>
 .ite (y.1 != 0)
 (.ok (((0, 0, ()), y.1, ())))
 (.call (S_b_Clamp ((x.1, x.2.1, ()), 0, 1000000000000, ())) Dd16 fun y1 =>
 .ite (y1.2.1 != 0)
 (.ok (((0, 0, ()), y1.2.1, ())))
 (.need (inb (w64 (c.1 - 1)) (↑3 : Int)) <| .ite (w64 (c.1 - 1) == (↑2 : Int))
 (.call (S_cc_formulaBand (((c.1, c.2.1, c.2.2.1, ()), ()), (y1.1.1, y1.1.2.1, ()), ())) Dd16 fun y2 =>
 .ok (((y2.1.1, y2.1.2.1, ()), y2.2.1, ())))
 (.ite (w64 (c.1 - 1) == (↑1 : Int))
 (.call (S_cc_tableBand (((c.1, c.2.1, c.2.2.1, ()), ()), (y1.1.1, y1.1.2.1, ()), ())) Dd16 fun y3 =>
 .ok (((y3.1.1, y3.1.2.1, ()), y3.2.1, ())))
 (.ite (w64 (c.1 - 1) == (↑0 : Int))
 (.call (S_cc_identityBand (((c.1, c.2.1, c.2.2.1, ()), ()), (y1.1.1, y1.1.2.1, ()), ())) Dd16 fun y4 =>
 .ok (((y4.1.1, y4.1.2.1, ()), y4.2.1, ())))
 (.bad)))))
def cc_tableBand_L : LTab := [(57, 58, 11265, { tag := 0, ι := (Int) × Bool × (List (List UInt8 × List UInt8 × Unit)) × Unit, vs := .dat (.s 19) (Ty.int IntKind.i64) <| .appN (.s 6) 11 36 (Ty.pair Ty.str (Ty.pair Ty.str Ty.unit)) <| .nil, ks := [18, 4, 3, 2], kh := [2, 1, 0], fresh := 1 }), (57, 250, 24577, { tag := 1, ι := (Int) × Bool × (List (List UInt8 × List UInt8 × Unit)) × Unit, vs := .dat (.s 47) (Ty.int IntKind.i64) <| .appN (.s 6) 24 36 (Ty.pair Ty.str (Ty.pair Ty.str Ty.unit)) <| .nil, ks := [46, 45, 11, 4, 3], kh := [2, 1, 0], fresh := 1 }), (57, 250, 24576, { tag := 2, ι := (Int) × (List (List UInt8 × List UInt8 × Unit)) × Unit, vs := .dat (.s 47) (Ty.int IntKind.i64) <| .app (.s 6) 24 36 (Ty.pair Ty.str (Ty.pair Ty.str Ty.unit)) <| .nil, ks := [46, 45, 11, 4, 3], kh := [2, 1, 0], fresh := 1 })]
def cc_tableBand_R2 (c : (Int × List Int × List (Int × Int × Int × Int × Int × Int × Unit) × Unit) × Unit) (x : Int × Int × Unit) (i : Int × Bool × List (List UInt8 × List UInt8 × Unit) × Unit) (i1 : (Int) × Bool × (List (List UInt8 × List UInt8 × Unit)) × Unit) : TT (((Int) × Bool × (List (List UInt8 × List UInt8 × Unit)) × Unit) ⊕ (((Int) × Bool × (List (List UInt8 × List UInt8 × Unit)) × Unit) ⊕ ((Int × Int × Unit) × Int × Unit))) :=
 .ite (i1.2.1)
 (.ite (decide (i1.1 < len c.1.2.1))
 (.need (inb i1.1 (len c.1.2.1)) <| .call (S_c_within (w64 (i1.1 * 1000000000000), w64 (x.1 * w64 (len c.1.2.1 - 1)), w64 (x.2.1 * w64 (len c.1.2.1 - 1)), ())) Dd1 fun y2 =>
 .ite (y2.1)
 (.call (S_c_over (gi c.1.2.1 i1.1 0, 65535, ())) Dd19 fun y3 =>
 .need (1 * 32 ≤ 140737488355328) <| .tt <| .lt (w64 (i1.1 + 1) : Int) fun z2 => .lt ([(y3.1.1, y3.1.2.1, ())] : List (List UInt8 × List UInt8 × Unit)) fun z3 => .triv ((Qq 24 ∧ Qq 0 ∧ Qq 1 ∧ Qq true) ∧ Qq z2 ∧ Qq (len c.1.2.1) ∧ Qq c.1.2.1 ∧ Qq (w64 (len c.1.2.1 - 1)) ∧ (Qq 2 ∧ Qq 0 ∧ Qq true) ∧ (Qq 1 ∧ Qq 0 ∧ Qq true) ∧ True) tv <| .triv ((Qq (36 : TypeId) ∧ Qq z3) ∧ Qq true ∧ (Qq (53 : TypeId) ∧ Qq (0 : Int) ∧ Qq (0 : Int) ∧ True) ∧ Qq true ∧ (Qq (53 : TypeId) ∧ Qq x.1 ∧ Qq x.2.1 ∧ True) ∧ Qq true ∧ (Qq (96 : TypeId) ∧ Qq c.1.1 ∧ Qq c.1.2.1 ∧ Qq c.1.2.2.1 ∧ True) ∧ Qq true ∧ True) tv <| .ok (.inl ((z2, false, z3, ()))))
 (.tt <| .lt (w64 (i1.1 + 1) : Int) fun z4 => .triv (True ∧ Qq z4 ∧ Qq (len c.1.2.1) ∧ Qq c.1.2.1 ∧ Qq (w64 (len c.1.2.1 - 1)) ∧ (Qq 2 ∧ Qq 0 ∧ Qq true) ∧ (Qq 1 ∧ Qq 0 ∧ Qq true) ∧ True) tv <| .triv ((Qq (53 : TypeId) ∧ Qq (0 : Int) ∧ Qq (0 : Int) ∧ True) ∧ Qq true ∧ (Qq (53 : TypeId) ∧ Qq x.1 ∧ Qq x.2.1 ∧ True) ∧ Qq true ∧ (Qq (96 : TypeId) ∧ Qq c.1.1 ∧ Qq c.1.2.1 ∧ Qq c.1.2.2.1 ∧ True) ∧ Qq true ∧ True) tv <| .ok (.inl ((z4, true, [], ())))))
 (.call (S_c_around ([], ())) Dd16 fun y4 =>
 .ok (.inr (.inr (((y4.1.1, y4.1.2.1, ()), y4.2.1, ()))))))
 (.ite (decide (i1.1 < len c.1.2.1))
 (.need (inb i1.1 (len c.1.2.1)) <| .call (S_c_within (w64 (i1.1 * 1000000000000), w64 (x.1 * w64 (len c.1.2.1 - 1)), w64 (x.2.1 * w64 (len c.1.2.1 - 1)), ())) Dd1 fun y5 =>
 .ite (y5.1)
 (.call (S_c_over (gi c.1.2.1 i1.1 0, 65535, ())) Dd19 fun y6 =>
 .need ((List.length i1.2.2.1 + 1) * 32 ≤ 140737488355328) <| .tt <| .lt (w64 (i1.1 + 1) : Int) fun z5 => .lt (List.take (List.length i1.2.2.1) i1.2.2.1 ++ [(y6.1.1, y6.1.2.1, ())] : List (List UInt8 × List UInt8 × Unit)) fun z6 => .need ((((24) = (24)) ∧ (((0) = (0)) ∧ ((List.length i1.2.2.1 + 1 = List.length z6) ∧ ((true) = (true))))) ∧ ((z5 : Int) = z5) ∧ ((len c.1.2.1 : Int) = len c.1.2.1) ∧ ((c.1.2.1 : List Int) = c.1.2.1) ∧ ((w64 (len c.1.2.1 - 1) : Int) = w64 (len c.1.2.1 - 1)) ∧ (((2) = (2)) ∧ (((0) = (0)) ∧ ((true) = (true)))) ∧ (((1) = (1)) ∧ (((0) = (0)) ∧ ((true) = (true)))) ∧ True) <| .triv ((Qq (36 : TypeId) ∧ Qq z6) ∧ Qq true ∧ (Qq (53 : TypeId) ∧ Qq (0 : Int) ∧ Qq (0 : Int) ∧ True) ∧ Qq true ∧ (Qq (53 : TypeId) ∧ Qq x.1 ∧ Qq x.2.1 ∧ True) ∧ Qq true ∧ (Qq (96 : TypeId) ∧ Qq c.1.1 ∧ Qq c.1.2.1 ∧ Qq c.1.2.2.1 ∧ True) ∧ Qq true ∧ True) tv <| .ok (.inl ((z5, false, z6, ()))))
 (.tt <| .lt (w64 (i1.1 + 1) : Int) fun z7 => .lt (i1.2.2.1 : List (List UInt8 × List UInt8 × Unit)) fun z8 => .triv ((Qq 24 ∧ Qq 0 ∧ Qq (List.length z8) ∧ Qq true) ∧ Qq z7 ∧ Qq (len c.1.2.1) ∧ Qq c.1.2.1 ∧ Qq (w64 (len c.1.2.1 - 1)) ∧ (Qq 2 ∧ Qq 0 ∧ Qq true) ∧ (Qq 1 ∧ Qq 0 ∧ Qq true) ∧ True) tv <| .triv ((Qq (36 : TypeId) ∧ Qq z8) ∧ Qq true ∧ (Qq (53 : TypeId) ∧ Qq (0 : Int) ∧ Qq (0 : Int) ∧ True) ∧ Qq true ∧ (Qq (53 : TypeId) ∧ Qq x.1 ∧ Qq x.2.1 ∧ True) ∧ Qq true ∧ (Qq (96 : TypeId) ∧ Qq c.1.1 ∧ Qq c.1.2.1 ∧ Qq c.1.2.2.1 ∧ True) ∧ Qq true ∧ True) tv <| .ok (.inl ((z7, false, z8, ())))))
 (.call (S_c_around (List.take (List.length i1.2.2.1) i1.2.2.1, ())) Dd16 fun y7 =>
 .ok (.inr (.inr (((y7.1.1, y7.1.2.1, ()), y7.2.1, ()))))))
def cc_tableBand_R3 (c : (Int × List Int × List (Int × Int × Int × Int × Int × Int × Unit) × Unit) × Unit) (x : Int × Int × Unit) (i : Int × Bool × List (List UInt8 × List UInt8 × Unit) × Unit) (i2 : (Int) × (List (List UInt8 × List UInt8 × Unit)) × Unit) : TT (((Int) × (List (List UInt8 × List UInt8 × Unit)) × Unit) ⊕ (((Int) × Bool × (List (List UInt8 × List UInt8 × Unit)) × Unit) ⊕ ((Int × Int × Unit) × Int × Unit))) :=
 .ite (decide (i2.1 < len c.1.2.1))
 (.need (inb i2.1 (len c.1.2.1)) <| .call (S_c_within (w64 (i2.1 * 1000000000000), w64 (x.1 * w64 (len c.1.2.1 - 1)), w64 (x.2.1 * w64 (len c.1.2.1 - 1)), ())) Dd1 fun y10 =>
 .ite (y10.1)
 (.call (S_c_over (gi c.1.2.1 i2.1 0, 65535, ())) Dd19 fun y11 =>
 .need ((List.length i2.2.1 + 1) * 32 ≤ 140737488355328) <| .tt <| .lt (w64 (i2.1 + 1) : Int) fun z12 => .lt (List.take (List.length i2.2.1) i2.2.1 ++ [(y11.1.1, y11.1.2.1, ())] : List (List UInt8 × List UInt8 × Unit)) fun z13 => .need ((((24) = (24)) ∧ (((0) = (0)) ∧ ((List.length i2.2.1 + 1 = List.length z13) ∧ ((true) = (true))))) ∧ ((z12 : Int) = z12) ∧ ((len c.1.2.1 : Int) = len c.1.2.1) ∧ ((c.1.2.1 : List Int) = c.1.2.1) ∧ ((w64 (len c.1.2.1 - 1) : Int) = w64 (len c.1.2.1 - 1)) ∧ (((2) = (2)) ∧ (((0) = (0)) ∧ ((true) = (true)))) ∧ (((1) = (1)) ∧ (((0) = (0)) ∧ ((true) = (true)))) ∧ True) <| .triv ((Qq (36 : TypeId) ∧ Qq z13) ∧ Qq true ∧ (Qq (53 : TypeId) ∧ Qq (0 : Int) ∧ Qq (0 : Int) ∧ True) ∧ Qq true ∧ (Qq (53 : TypeId) ∧ Qq x.1 ∧ Qq x.2.1 ∧ True) ∧ Qq true ∧ (Qq (96 : TypeId) ∧ Qq c.1.1 ∧ Qq c.1.2.1 ∧ Qq c.1.2.2.1 ∧ True) ∧ Qq true ∧ True) tv <| .ok (.inl ((z12, z13, ()))))
 (.tt <| .lt (w64 (i2.1 + 1) : Int) fun z14 => .lt (i2.2.1 : List (List UInt8 × List UInt8 × Unit)) fun z15 => .triv ((Qq 24 ∧ Qq 0 ∧ Qq (List.length z15) ∧ Qq true) ∧ Qq z14 ∧ Qq (len c.1.2.1) ∧ Qq c.1.2.1 ∧ Qq (w64 (len c.1.2.1 - 1)) ∧ (Qq 2 ∧ Qq 0 ∧ Qq true) ∧ (Qq 1 ∧ Qq 0 ∧ Qq true) ∧ True) tv <| .triv ((Qq (36 : TypeId) ∧ Qq z15) ∧ Qq true ∧ (Qq (53 : TypeId) ∧ Qq (0 : Int) ∧ Qq (0 : Int) ∧ True) ∧ Qq true ∧ (Qq (53 : TypeId) ∧ Qq x.1 ∧ Qq x.2.1 ∧ True) ∧ Qq true ∧ (Qq (96 : TypeId) ∧ Qq c.1.1 ∧ Qq c.1.2.1 ∧ Qq c.1.2.2.1 ∧ True) ∧ Qq true ∧ True) tv <| .ok (.inl ((z14, z15, ())))))
 (.call (S_c_around (List.take (List.length i2.2.1) i2.2.1, ())) Dd16 fun y12 =>
 .ok (.inr (.inr (((y12.1.1, y12.1.2.1, ()), y12.2.1, ())))))
def cc_tableBand_R1 (c : (Int × List Int × List (Int × Int × Int × Int × Int × Int × Unit) × Unit) × Unit) (x : Int × Int × Unit) (i : (Int) × Bool × (List (List UInt8 × List UInt8 × Unit)) × Unit) : TT (((Int) × Bool × (List (List UInt8 × List UInt8 × Unit)) × Unit) ⊕ ((Int × Int × Unit) × Int × Unit)) :=
 .ite (i.2.1)
 (.ite (decide (i.1 < 2))
 (.need (inb i.1 (↑2 : Int)) <| .call (S_c_over (gi [x.1, x.2.1] i.1 0, 1000000000000, ())) Dd19 fun y =>
 .call (S_cc_table (((c.1.1, c.1.2.1, c.1.2.2.1, ()), ()), y.1, ())) Dd14 fun y1 =>
 .ite (y1.2.1 != 0)
 (.ok (.inr (((0, 0, ()), y1.2.1, ()))))
 (.need (1 * 32 ≤ 140737488355328) <| .tt <| .lt (w64 (i.1 + 1) : Int) fun z => .lt ([(y1.1.1, y1.1.2.1, ())] : List (List UInt8 × List UInt8 × Unit)) fun z1 => .triv ((Qq 11 ∧ Qq 0 ∧ Qq 1 ∧ Qq true) ∧ Qq z ∧ Qq ([x.1, x.2.1] : List Int) ∧ (Qq 2 ∧ Qq 0 ∧ Qq true) ∧ (Qq 1 ∧ Qq 0 ∧ Qq true) ∧ (Qq 0 ∧ Qq 0 ∧ Qq true) ∧ True) tv <| .triv ((Qq (36 : TypeId) ∧ Qq z1) ∧ Qq true ∧ (Qq (53 : TypeId) ∧ Qq (0 : Int) ∧ Qq (0 : Int) ∧ True) ∧ Qq true ∧ (Qq (53 : TypeId) ∧ Qq x.1 ∧ Qq x.2.1 ∧ True) ∧ Qq true ∧ (Qq (96 : TypeId) ∧ Qq c.1.1 ∧ Qq c.1.2.1 ∧ Qq c.1.2.2.1 ∧ True) ∧ Qq true ∧ True) tv <| .ok (.inl ((z, false, z1, ())))))
 (.loop 1 (.tt <| .triv (True ∧ Qq (0 : Int) ∧ Qq (len c.1.2.1) ∧ Qq c.1.2.1 ∧ Qq (w64 (len c.1.2.1 - 1)) ∧ (Qq 2 ∧ Qq 0 ∧ Qq true) ∧ (Qq 1 ∧ Qq 0 ∧ Qq true) ∧ True) tv <| .triv ((Qq (53 : TypeId) ∧ Qq (0 : Int) ∧ Qq (0 : Int) ∧ True) ∧ Qq true ∧ (Qq (53 : TypeId) ∧ Qq x.1 ∧ Qq x.2.1 ∧ True) ∧ Qq true ∧ (Qq (96 : TypeId) ∧ Qq c.1.1 ∧ Qq c.1.2.1 ∧ Qq c.1.2.2.1 ∧ True) ∧ Qq true ∧ True) tv <| .ok ((0, true, [], ()))) (cc_tableBand_R2 c x i)))
 (.ite (decide (i.1 < 2))
 (.need (inb i.1 (↑2 : Int)) <| .call (S_c_over (gi [x.1, x.2.1] i.1 0, 1000000000000, ())) Dd19 fun y8 =>
 .call (S_cc_table (((c.1.1, c.1.2.1, c.1.2.2.1, ()), ()), y8.1, ())) Dd14 fun y9 =>
 .ite (y9.2.1 != 0)
 (.ok (.inr (((0, 0, ()), y9.2.1, ()))))
 (.need ((List.length i.2.2.1 + 1) * 32 ≤ 140737488355328) <| .tt <| .lt (w64 (i.1 + 1) : Int) fun z9 => .lt (List.take (List.length i.2.2.1) i.2.2.1 ++ [(y9.1.1, y9.1.2.1, ())] : List (List UInt8 × List UInt8 × Unit)) fun z10 => .need ((((11) = (11)) ∧ (((0) = (0)) ∧ ((List.length i.2.2.1 + 1 = List.length z10) ∧ ((true) = (true))))) ∧ ((z9 : Int) = z9) ∧ (([x.1, x.2.1] : List Int) = [x.1, x.2.1]) ∧ (((2) = (2)) ∧ (((0) = (0)) ∧ ((true) = (true)))) ∧ (((1) = (1)) ∧ (((0) = (0)) ∧ ((true) = (true)))) ∧ (((0) = (0)) ∧ (((0) = (0)) ∧ ((true) = (true)))) ∧ True) <| .triv ((Qq (36 : TypeId) ∧ Qq z10) ∧ Qq true ∧ (Qq (53 : TypeId) ∧ Qq (0 : Int) ∧ Qq (0 : Int) ∧ True) ∧ Qq true ∧ (Qq (53 : TypeId) ∧ Qq x.1 ∧ Qq x.2.1 ∧ True) ∧ Qq true ∧ (Qq (96 : TypeId) ∧ Qq c.1.1 ∧ Qq c.1.2.1 ∧ Qq c.1.2.2.1 ∧ True) ∧ Qq true ∧ True) tv <| .ok (.inl ((z9, false, z10, ())))))
 (.loop 2 (.tt <| .lt (i.2.2.1 : List (List UInt8 × List UInt8 × Unit)) fun z11 => .triv ((Qq 24 ∧ Qq 0 ∧ Qq (List.length z11) ∧ Qq true) ∧ Qq (0 : Int) ∧ Qq (len c.1.2.1) ∧ Qq c.1.2.1 ∧ Qq (w64 (len c.1.2.1 - 1)) ∧ (Qq 2 ∧ Qq 0 ∧ Qq true) ∧ (Qq 1 ∧ Qq 0 ∧ Qq true) ∧ True) tv <| .triv ((Qq (36 : TypeId) ∧ Qq z11) ∧ Qq true ∧ (Qq (53 : TypeId) ∧ Qq (0 : Int) ∧ Qq (0 : Int) ∧ True) ∧ Qq true ∧ (Qq (53 : TypeId) ∧ Qq x.1 ∧ Qq x.2.1 ∧ True) ∧ Qq true ∧ (Qq (96 : TypeId) ∧ Qq c.1.1 ∧ Qq c.1.2.1 ∧ Qq c.1.2.2.1 ∧ True) ∧ Qq true ∧ True) tv <| .ok ((0, z11, ()))) (cc_tableBand_R3 c x i)))
def cc_tableBand_t (c : (Int × List Int × List (Int × Int × Int × Int × Int × Int × Unit) × Unit) × Unit) (x : Int × Int × Unit) : TT ((Int × Int × Unit) × Int × Unit) :=
 .loop 0 (.tt <| .triv (True ∧ Qq (0 : Int) ∧ Qq ([x.1, x.2.1] : List Int) ∧ (Qq 2 ∧ Qq 0 ∧ Qq true) ∧ (Qq 1 ∧ Qq 0 ∧ Qq true) ∧ (Qq 0 ∧ Qq 0 ∧ Qq true) ∧ True) tv <| .triv ((Qq (53 : TypeId) ∧ Qq (0 : Int) ∧ Qq (0 : Int) ∧ True) ∧ Qq true ∧ (Qq (53 : TypeId) ∧ Qq x.1 ∧ Qq x.2.1 ∧ True) ∧ Qq true ∧ (Qq (96 : TypeId) ∧ Qq c.1.1 ∧ Qq c.1.2.1 ∧ Qq c.1.2.2.1 ∧ True) ∧ Qq true ∧ True) tv <| .ok ((0, true, [], ()))) (cc_tableBand_R1 c x)
end
end Go.Vs
namespace Go.Vs
open Go Go.Vg
theorem tabQ_small {l : List Int} (ht : tabOk l) {n : Int} (hn : inU n) :
  tabQ l (mkRat n 1000000000000) = some (mkRat (tabM l n) 65535000000000000) ∧ FitQ (mkRat (tabM l n) 65535000000000000) ∧ 0 ≤ tabM l n ∧ tabM l n ≤ 65535000000000000 := by
 have hl1 := ht.1
 have hl2 := ht.2.1
 obtain ⟨n1, n2⟩ := hn
 obtain ⟨P, hP⟩ : ∃ P, P = n * ((l.length - 1 : Nat) : Int) := ⟨_, rfl⟩
 have hP0 : 0 ≤ P := by rw [hP]; exact Int.mul_nonneg n1 (by omega)
 have hP1 : P ≤ 1000000000000 * ((l.length - 1 : Nat) : Int) := by rw [hP]; exact Int.mul_le_mul_of_nonneg_right n2 (by omega)
 obtain ⟨i, hi⟩ : ∃ i, i = placeI l n := ⟨_, rfl⟩
 have hi' : i = min (P / 1000000000000).toNat (l.length - 2) := by rw [hi, hP]; rfl
 have hi2 : i ≤ l.length - 2 := by omega
 obtain ⟨A, hA⟩ : ∃ A, A = P - (i : Int) * 1000000000000 := ⟨_, rfl⟩
 have hA0 : 0 ≤ A := by omega
 have hA1 : A ≤ 1000000000000 := by omega
 obtain ⟨v1, v2⟩ := tab_get ht (show i < l.length by omega)
 obtain ⟨w1, w2⟩ := tab_get ht (show i + 1 < l.length by omega)
 have hM : tabM l n = l.getD i 0 * 1000000000000 + A * (l.getD (i + 1) 0 - l.getD i 0) := by unfold tabM; rw [← hi, ← hP, ← hA]
 have hpl : placeN l (mkRat P 1000000000000) = i := by
  unfold placeN
  rw [Rat.floor_def, show (mkRat P 1000000000000).num / (mkRat P 1000000000000).den = fl (mkRat P 1000000000000) from rfl, fl_mkRat _ (by omega), hi']
  rfl
 obtain ⟨v, hv⟩ : ∃ v, v = l.getD i 0 := ⟨_, rfl⟩
 obtain ⟨w, hw⟩ : ∃ w, w = l.getD (i + 1) 0 := ⟨_, rfl⟩
 rw [← hv] at v1 v2 hM
 rw [← hw] at w1 w2 hM
 have q1 : 0 ≤ v * (1000000000000 - A) := Int.mul_nonneg v1 (by omega)
 have q2 : 0 ≤ w * A := Int.mul_nonneg w1 hA0
 have q3 : 0 ≤ (65535 - v) * (1000000000000 - A) := Int.mul_nonneg (by omega) (by omega)
 have q4 : 0 ≤ (65535 - w) * A := Int.mul_nonneg (by omega) hA0
 have eM : tabM l n = v * (1000000000000 - A) + w * A := by rw [hM]; grind
 have hM0 : 0 ≤ tabM l n := by omega
 have hM1 : tabM l n ≤ 65535000000000000 := by
  have : (65535 - v) * (1000000000000 - A) + (65535 - w) * A = 65535000000000000 - (v * (1000000000000 - A) + w * A) := by grind
  omega
 have hAd : A * (w - v) = w * A - v * A := by grind
 have r1 : 0 ≤ v * A := Int.mul_nonneg v1 hA0
 have r2 : v * A ≤ 65535 * A := Int.mul_le_mul_of_nonneg_right v2 hA0
 have r3 : w * A ≤ 65535 * A := Int.mul_le_mul_of_nonneg_right w2 hA0
 have f1 : FitQ (mkRat P 1000000000000) := fitQ_mk (by omega) (fit_30 (by omega) (by omega)) (fit_30 (by omega) (by omega))
 have f2 : FitQ (mkRat A 1000000000000) := fitQ_mk (by omega) (fit_30 (by omega) (by omega)) (fit_30 (by omega) (by omega))
 have f3 : FitQ (mkRat (A * (w - v)) 1000000000000) := fitQ_mk (by omega) (fit_30 (by omega) (by omega)) (fit_30 (by omega) (by omega))
 have f4 : FitQ (mkRat (tabM l n) 1000000000000) := fitQ_mk (by omega) (fit_30 (by omega) (by omega)) (fit_30 (by omega) (by omega))
 have f5 : FitQ (mkRat (tabM l n) 65535000000000000) := fitQ_mk (by omega) (fit_30 (by omega) (by omega)) (fit_30 (by omega) (by omega))
 refine ⟨?_, f5, hM0, hM1⟩
 unfold tabQ
 rw [Rat.mkRat_mul_mkRat, ← hP, Nat.mul_one]
 unfold stepQ
 rw [if_pos f1]
 simp only [Option.bind_some]
 rw [hpl, ← hv, ← hw]
 have g2 : mkRat P 1000000000000 - mkRat (i : Int) 1 = mkRat A 1000000000000 := by
  rw [Rat.sub_eq_add_neg, Rat.neg_mkRat, Rat.mkRat_add_mkRat _ _ (by omega) (by omega), Nat.mul_one, hA]
  congr 1; omega
 rw [g2, if_pos f2]
 simp only [Option.bind_some]
 rw [Rat.mkRat_mul_mkRat, Nat.mul_one, if_pos f3]
 simp only [Option.bind_some]
 have g4 : mkRat v 1 + mkRat (A * (w - v)) 1000000000000 = mkRat (tabM l n) 1000000000000 := by
  rw [Rat.mkRat_add_mkRat _ _ (by omega) (by omega), Nat.one_mul, hM]
  congr 1; omega
 rw [g4, if_pos f4]
 simp only [Option.bind_some]
 have g5 : mkRat (tabM l n) 1000000000000 / mkRat 65535 1 = mkRat (tabM l n) 65535000000000000 := by
  have hm : mkRat (tabM l n) 1000000000000 = mkRat (tabM l n) 65535000000000000 * mkRat 65535 1 := by
   rw [Rat.mkRat_mul_mkRat, Rat.mkRat_eq_iff (by omega) (by omega)]; omega
  rw [hm, Rat.div_def, Rat.mul_assoc, Rat.mul_inv_cancel _ (mk1_ne (by omega)), Rat.mul_one]
 rw [g5, if_pos f5]
theorem tight_tab {m : Int} (h0 : 0 ≤ m) (h1 : m ≤ 65535000000000000) : tight (mkRat m 65535000000000000) (mkRat m 65535000000000000) = (tabT m, 0, ()) := by
 rw [tight_mk _ (by omega)]
 have e1 : m * 1000000000000 / ((65535000000000000 : Nat) : Int) = m / 65535 := by omega
 have e2 : -(m * 1000000000000) / ((65535000000000000 : Nat) : Int) = -m / 65535 := by omega
 rw [e1, e2]
 unfold mkB tabT
 rw [if_pos ⟨by omega, by omega, by omega⟩]
end Go.Vs
namespace Go.Vs
open Go Go.Vg
theorem unitB_in {b : BdT} (h : okB b.1 b.2.1) : inU (unitB b).1 ∧ inU (unitB b).2.1 ∧ (unitB b).1 ≤ (unitB b).2.1 := by
 obtain ⟨h1, h2, h3⟩ := h
 unfold unitB inU inR
 dsimp only
 omega
theorem cc_identityBand_law (c : CvT × Unit) (x : BdT) (y) (h : S_cc_identityBand (c, x, ()) = some y) : (cc_identityBand_t c x).toO = some y := h
theorem c_Bands_law (c : CvT) (x : BdT) (y) (h : S_c_Bands (c, x, ()) = some y) : (c_Bands_t c x).toO = some y := by
 injection h with h
 subst h
 obtain ⟨kind, tab, l, u0⟩ := c
 obtain ⟨blo, bhi, u1⟩ := x
 unfold c_Bands_t
 dsimp only
 refine uC _ (L_c_Check (kind, tab, l, ())) ?_
 by_cases hr : rightC (kind, tab, l, ())
 case neg =>
  have hr' : ¬ rightC (kind, tab, l, u0) := hr
  rw [if_neg hr', if_neg hr]
  exact uT rfl rfl
 have hr' : rightC (kind, tab, l, u0) := hr
 rw [if_pos hr', if_pos hr]
 refine uF rfl ?_
 by_cases hb : okB blo bhi
 case neg =>
  rw [if_neg hb]
  refine uC ((0, 0, ()), 30, ()) (by unfold S_b_Clamp clampB; dsimp only; rw [if_neg hb]) ?_
  exact uT rfl rfl
 rw [if_pos hb]
 refine uC (unitB (blo, bhi, u1), 0, ()) (by unfold S_b_Clamp; exact congrArg some (clampB_unit (b := (blo, bhi, u1)) hb)) (uF rfl ?_)
 obtain ⟨g1, g2, g3⟩ := unitB_in (b := (blo, bhi, u1)) hb
 generalize unitB (blo, bhi, u1) = z at g1 g2 g3 ⊢
 unfold bandsC
 dsimp only
 rcases hr with ⟨k1, k2, k3⟩ | ⟨k1, k2, k3⟩ | ⟨k1, k2, k3⟩
 ·dsimp only at k1; subst k1
  exact uN ⟨by decide, by decide⟩ (uF rfl (uF rfl (uT rfl (uC (z, 0, ()) rfl rfl))))
 ·dsimp only at k1; subst k1
  exact uN ⟨by decide, by decide⟩ (uF rfl (uT rfl (uC (bandsT tab z.1 z.2.1, 0, ()) (by unfold S_cc_tableBand; exact if_pos ⟨k2, g1, g2, g3⟩) rfl)))
 ·dsimp only at k1; subst k1
  exact uN ⟨by decide, by decide⟩ (uT rfl (uC (bandsF l z.1 z.2.1) (by unfold S_cc_formulaBand; exact if_pos ⟨k3, g1, g2, g3⟩) rfl))
end Go.Vs
namespace Go.Vs
open Go Go.Vg
theorem unit_mul12 (m : Int) : mkRat m 1000000000000 * one12 = (m : Rat) := by
 rw [one12_mk, Rat.mkRat_mul_mkRat, Nat.mul_one, ← mkRat_one, Rat.mkRat_eq_iff (by omega) (by omega)]; omega
theorem unit_le (n m : Int) : mkRat n 1000000000000 ≤ mkRat m 1000000000000 ↔ n ≤ m := by
 rw [unit_le_iff, unit_mul12]; exact Rat.intCast_le_intCast
theorem unit_lt (n m : Int) : mkRat n 1000000000000 < mkRat m 1000000000000 ↔ n < m := by
 rw [← Rat.not_le, unit_le]; omega
theorem micro_unit (t : Int) : mkRat t 1000000 = mkRat (t * 1000000) 1000000000000 := by
 rw [Rat.mkRat_eq_iff (by omega) (by omega)]; omega
theorem partN_unit (n : Int) (l : List SegT) : partN (mkRat n 1000000000000) l = partI n l := by
 unfold partN partI
 congr 1
 funext s
 rw [micro_unit, decide_eq_decide]
 exact unit_le _ _
theorem unit_one : mkRat 1000000000000 1000000000000 = (1 : Rat) := by decide
theorem unit_le_one {n : Int} (h : inU n) : mkRat n 1000000000000 ≤ 1 := by
 rw [← unit_one, unit_le]; exact h.2
end Go.Vs
namespace Go.Vs
open Go Go.Vg
theorem int_le_mk {n X : Int} {d : Nat} (hd : d ≠ 0) : ((n : Int) : Rat) ≤ mkRat X d ↔ n * d ≤ X := by
 rw [← fl_le_iff, fl_mkRat _ hd, Int.le_ediv_iff_mul_le (by omega)]
theorem mk_le_int {n X : Int} {d : Nat} (hd : d ≠ 0) : mkRat X d ≤ ((n : Int) : Rat) ↔ X ≤ n * d := by
 rw [← Rat.neg_le_neg_iff, Rat.neg_mkRat, ← Rat.intCast_neg, int_le_mk hd, Int.neg_mul]; omega
theorem clampQ_unit {n : Int} (h : inU n) : clampQ (mkRat n 1000000000000) = mkRat n 1000000000000 := by
 have h0 : ¬ mkRat n 1000000000000 < 0 := by
  have : (0 : Rat) = mkRat 0 1000000000000 := by decide
  rw [this, unit_lt]; have := h.1; omega
 have h1 : ¬ mkRat n 1000000000000 > 1 := Rat.not_lt.2 (unit_le_one h)
 unfold clampQ
 rw [if_neg h0, if_neg h1]
theorem tab_at_mk (v : Int) : mkRat v 65535 = mkRat (v * 1000000000000) 65535000000000000 := by
 rw [Rat.mkRat_eq_iff (by omega) (by omega)]; omega
end Go.Vs
namespace Go.Vs
open Go Go.Vg
def tabQs (l : List Int) (lo hi : Int) (k : Nat) : List Rat := mkRat (tabM l lo) 65535000000000000 :: mkRat (tabM l hi) 65535000000000000 :: ((List.range k).filter (inTab l lo hi)).map (fun j => mkRat (l.getD j 0) 65535)
theorem tabQs_succ (l : List Int) (lo hi : Int) (k : Nat) : tabQs l lo hi (k + 1) = if inTab l lo hi k then tabQs l lo hi k ++ [mkRat (l.getD k 0) 65535] else tabQs l lo hi k := by
 unfold tabQs
 rw [List.range_succ, List.filter_append, List.map_append]
 cases h : inTab l lo hi k
 ·simp [List.filter, h]
 ·simp [List.filter, h]
theorem tabQs_len (l : List Int) (lo hi : Int) (k : Nat) : (tabQs l lo hi k).length ≤ k + 2 := by
 unfold tabQs
 have := List.length_filter_le (inTab l lo hi) (List.range k)
 simp only [List.length_cons, List.length_map, List.length_range] at *
 omega
theorem tabQs_fit {l : List Int} (ht : tabOk l) {lo hi : Int} (h1 : inU lo) (h2 : inU hi) {k : Nat} (hk : k ≤ l.length) : ∀ q ∈ tabQs l lo hi k, FitQ q ∧ (tight q q).2.1 = 0 := by
 intro q hq
 obtain ⟨-, a2, a3, a4⟩ := tabQ_small ht h1
 obtain ⟨-, b2, b3, b4⟩ := tabQ_small ht h2
 rcases List.mem_cons.1 hq with g | g
 ·subst g; exact ⟨a2, by rw [tight_tab a3 a4]⟩
 rcases List.mem_cons.1 g with g | g
 ·subst g; exact ⟨b2, by rw [tight_tab b3 b4]⟩
 obtain ⟨j, hj, rfl⟩ := List.mem_map.1 g
 have hj2 : j < k := List.mem_range.1 (List.mem_filter.1 hj).1
 obtain ⟨v1, v2⟩ := tab_get ht (show j < l.length by omega)
 rw [tab_at_mk]
 refine ⟨fitQ_mk (by omega) (fit_30 (by omega) (by omega)) (fit_30 (by omega) (by omega)), ?_⟩
 rw [tight_tab (by omega) (by omega)]
theorem tabQs_tight {l : List Int} (ht : tabOk l) {lo hi : Int} (h1 : inU lo) (h2 : inU hi) {k : Nat} (hk : k ≤ l.length) : (tabQs l lo hi k).map (fun q => (tight q q).1) = tabBs l lo hi k := by
 obtain ⟨-, a2, a3, a4⟩ := tabQ_small ht h1
 obtain ⟨-, b2, b3, b4⟩ := tabQ_small ht h2
 unfold tabQs tabBs
 rw [List.map_cons, List.map_cons, List.map_map, tight_tab a3 a4, tight_tab b3 b4]
 congr 2
 refine List.map_congr_left (fun j hj => ?_)
 have hj2 : j < k := List.mem_range.1 (List.mem_filter.1 hj).1
 obtain ⟨v1, v2⟩ := tab_get ht (show j < l.length by omega)
 show (tight (mkRat (l.getD j 0) 65535) (mkRat (l.getD j 0) 65535)).1 = _
 rw [tab_at_mk, tight_tab (by omega) (by omega)]
theorem L_c_around {r : List Rat} (h1 : r ≠ []) (h2 : r.length ≤ 1000000) (h3 : ∀ q ∈ r, FitQ q ∧ (tight q q).2.1 = 0) : S_c_around (r.map (fun q => fx q), ()) = some (hullL (r.map fun q => (tight q q).1), 0, ()) :=
 spec_at (enc := fun l : List Rat => (l.map (fun q => fx q), ())) r ⟨h1, h2, h3⟩ (fun b hb => List.map_inj_right (fun a b hab => fx_inj hab) |>.1 (Prod.mk.inj hb).1)
theorem cc_tableBand_R3_law (c : CvT × Unit) (x : BdT) (i : Int × Bool × List FxT × Unit) (l : List Int) (hc : c.1.2.1 = l) (ht : tabOk l) (hlo : inU x.1) (hhi : inU x.2.1) :
  loopO (fun i2 => (cc_tableBand_R3 c x i i2).toO) (0, (tabQs l x.1 x.2.1 0).map (fun q => fx q), ()) = some (.inr (bandsT l x.1 x.2.1, 0, ())) := by
 obtain ⟨lo, hi, u⟩ := x
 dsimp only at hlo hhi ⊢
 have hl1 := ht.1
 have hl2 := ht.2.1
 have w1 : w64 (len l - 1) = ((l.length - 1 : Nat) : Int) := by rw [len_eq, w64_id (by omega)]; omega
 have hw : ∀ n : Int, inU n → w64 (n * ((l.length - 1 : Nat) : Int)) = n * ((l.length - 1 : Nat) : Int) := by
  intro n hn
  have a1 : 0 ≤ n * ((l.length - 1 : Nat) : Int) := Int.mul_nonneg hn.1 (by omega)
  have a2 : n * ((l.length - 1 : Nat) : Int) ≤ 1000000000000 * ((l.length - 1 : Nat) : Int) := Int.mul_le_mul_of_nonneg_right hn.2 (by omega)
  exact w64_id (by omega)
 refine loopO_eq (fun i : Int × List FxT × Unit => ∃ k : Nat, k ≤ l.length ∧ i = ((k : Int), (tabQs l lo hi k).map (fun q => fx q), ())) (fun i => ((l.length : Int) - i.1).toNat) (fun _ => Sum.inr (bandsT l lo hi, 0, ())) ?_ _ ⟨0, by omega, rfl⟩
 rintro i ⟨k, k1, rfl⟩
 simp only [cc_tableBand_R3, hc, gi_nat, w1, hw lo hlo, hw hi hhi]
 have hlen := tabQs_len l lo hi k
 rcases Nat.lt_or_ge k l.length with hk | hk
 ·left
  have wk : w64 ((k : Int) + 1) = ((k + 1 : Nat) : Int) := by rw [w64_id (by omega)]; omega
  have wm : w64 ((k : Int) * 1000000000000) = (k : Int) * 1000000000000 := w64_id (by omega)
  have bv := tab_get ht hk
  have iv := inR_i64 bv (by omega) (by omega)
  refine ⟨(((k + 1 : Nat) : Int), (tabQs l lo hi (k + 1)).map (fun q => fx q), ()), ?_, ⟨k + 1, by omega, rfl⟩, by dsimp only; omega, (by first | exact True.intro | rfl)⟩
  rw [wk, wm]
  refine uT (decide_eq_true (by rw [len_eq]; omega)) (uN ⟨by omega, by rw [len_eq]; omega⟩ (uC (inTab l lo hi k, ()) rfl ?_))
  rw [tabQs_succ]
  cases hin : inTab l lo hi k
  ·exact uF rfl rfl
  ·refine uT rfl (uC _ (L_r9_of (d := 65535) iv (by omega) (by omega)) (uN (by simp only [List.length_map]; omega) ?_))
   refine uB (uB (uN (by simp) ?_))
   rw [List.take_length, if_pos rfl, List.map_append]; rfl
 ·right
  obtain rfl : k = l.length := by omega
  refine uF (decide_eq_false (by rw [len_eq]; omega)) (uC (bandsT l lo hi, 0, ()) ?_ rfl)
  rw [List.take_length, L_c_around (by unfold tabQs; simp) (by omega) (tabQs_fit ht hlo hhi (Nat.le_refl _)), tabQs_tight ht hlo hhi (Nat.le_refl _)]
  rfl
theorem cc_tableBand_law (c : CvT × Unit) (x : BdT) (y) (h : S_cc_tableBand (c, x, ()) = some y) : (cc_tableBand_t c x).toO = some y := by
 unfold S_cc_tableBand at h
 split at h
 case isFalse => cases h
 case isTrue hp =>
 obtain ⟨ht, hlo, hhi, hle⟩ := hp
 dsimp only at ht hlo hhi hle h
 injection h with h
 subst h
 obtain ⟨⟨kind, tab, l, u0⟩, u1⟩ := c
 obtain ⟨lo, hi, u2⟩ := x
 dsimp only at ht hlo hhi hle ⊢
 obtain ⟨a1, a2, a3, a4⟩ := tabQ_small ht hlo
 obtain ⟨b1, b2, b3, b4⟩ := tabQ_small ht hhi
 have hT : ∀ n : Int, inU n → S_cc_table (((kind, tab, l, ()), ()), fx (mkRat n 1000000000000), ()) = some (outF (tabQ tab (mkRat n 1000000000000))) := by
  intro n hn
  have h0 : 0 ≤ mkRat n 1000000000000 := by
   have : (0 : Rat) = mkRat 0 1000000000000 := by decide
   rw [this, unit_le]; exact hn.1
  exact L_cc_table (c := (kind, tab, l, ())) (fitQ_unit hn) h0 (unit_le_one hn) ht
 unfold cc_tableBand_t
 refine uO (0, true, [], ()) rfl ?_
 refine loopO_eq (fun i : Int × Bool × List FxT × Unit => i = (0, true, [], ()) ∨ i = (1, false, [fx (mkRat (tabM tab lo) 65535000000000000)], ()) ∨ i = (2, false, [fx (mkRat (tabM tab lo) 65535000000000000), fx (mkRat (tabM tab hi) 65535000000000000)], ())) (fun i => ((2 : Int) - i.1).toNat) (fun _ => (bandsT tab lo hi, 0, ())) ?_ _ (Or.inl rfl)
 rintro i (rfl | rfl | rfl)
 ·left
  refine ⟨(1, false, [fx (mkRat (tabM tab lo) 65535000000000000)], ()), ?_, Or.inr (Or.inl rfl), by dsimp only; omega, (by first | exact True.intro | rfl)⟩
  refine uT rfl (uT rfl (uN ⟨by decide, by decide⟩ (uC _ (L_c_over (d := 1000000000000) (inU_i64 hlo) (by omega) (by omega)) (uC _ (hT lo hlo) ?_))))
  rw [a1]
  exact uF rfl (uN (by decide) rfl)
 ·left
  refine ⟨(2, false, [fx (mkRat (tabM tab lo) 65535000000000000), fx (mkRat (tabM tab hi) 65535000000000000)], ()), ?_, Or.inr (Or.inr rfl), by dsimp only; omega, (by first | exact True.intro | rfl)⟩
  refine uF rfl (uT rfl (uN ⟨by dsimp only; omega, by dsimp only; omega⟩ (uC _ (L_c_over (d := 1000000000000) (inU_i64 hhi) (by omega) (by omega)) (uC _ (hT hi hhi) ?_))))
  rw [b1]
  refine uF rfl (uN (by simp) ?_)
  refine uB (uB (uN (by simp) rfl))
 ·right
  refine uF rfl (uF rfl ?_)
  refine uO (0, (tabQs tab lo hi 0).map (fun q => fx q), ()) rfl ?_
  exact cc_tableBand_R3_law _ (lo, hi, u2) _ tab rfl ht hlo hhi
end Go.Vs
set_option maxRecDepth 100000
namespace Go.Vs
open Go Go.Vg Go.Proofs
noncomputable section
def l9_of_L : LTab := []
def l9_of_t (n : Int) (d : Int) : TT ((List UInt8 × List UInt8 × Unit) × Unit) :=
 .call (S_r2_Of (n, d, ())) Dd14 fun y =>
 .ok (((y.1.1, y.1.2.1, ()), ()))
def l9_tent_L : LTab := []
def l9_tent_t : TT ((Int × List Int × List (Int × Int × Int × Int × Int × Int × Unit) × Unit) × Unit) :=
 .ok (((2, List.take 3 [0, 65535, 0], [], ()), ()))
def l9_steps_L : LTab := []
def l9_steps_t : TT ((Int × List Int × List (Int × Int × Int × Int × Int × Int × Unit) × Unit) × Unit) :=
 .ok (((3, [], List.take 2 [(500000, 1000000, 0, 1, 1, 0, ()), (1000000, 2000000, -1000000, 2, 1, 500000, ())], ()), ()))
def l9_root_L : LTab := []
def l9_root_t : TT ((Int × List Int × List (Int × Int × Int × Int × Int × Int × Unit) × Unit) × Unit) :=
 .ok (((3, [], [(1000000, 1000000, 0, 1, 2, 0, ())], ()), ()))
def l9_value_L : LTab := []
def l9_value_t (c : Int × List Int × List (Int × Int × Int × Int × Int × Int × Unit) × Unit) (x : List UInt8 × List UInt8 × Unit) (y : List UInt8 × List UInt8 × Unit) : TT (Bool × Unit) :=
 .call (S_c_Eval ((c.1, c.2.1, c.2.2.1, ()), (x.1, x.2.1, ()), ())) Dd14 fun y1 =>
 .ite (match y1.1.1 == y.1 with
| true =>
 match y1.1.2.1 == y.2.1 with
 | true => true
 | false => false
| false => false)
 (.ok ((y1.2.1 == 0, ())))
 (.ok ((false, ())))
def l9_wakes_L : LTab := []
def l9_wakes_t : TT (Bool × Unit) :=
 .call (S_l9_root ()) Dd27 fun y =>
 .call (S_l9_of (1, 4, ())) Dd19 fun y1 =>
 .call (S_c_Eval (y.1, y1.1, ())) Dd14 fun y2 =>
 .call (S_l9_root ()) Dd27 fun y3 =>
 .call (S_c_Bands (y3.1, (250000000000, 250000000000, ()), ())) Dd16 fun y4 =>
 .call (S_l9_tent ()) Dd27 fun y5 =>
 .call (S_c_Bands (y5.1, (250000000000, 750000000000, ()), ())) Dd16 fun y6 =>
 .call (S_l9_tent ()) Dd27 fun y7 =>
 .call (S_c_Trend (y7.1, ())) Dd15 fun y8 =>
 .call (S_l9_tent ()) Dd27 fun y9 =>
 .call (S_l9_of (1, 4, ())) Dd19 fun y10 =>
 .call (S_l9_of (1, 2, ())) Dd19 fun y11 =>
 .call (S_l9_value (y9.1, y10.1, y11.1, ())) Dd1 fun y12 =>
 .ite (y12.1)
 (.call (S_l9_tent ()) Dd27 fun y13 =>
 .call (S_l9_of (2, 1, ())) Dd19 fun y14 =>
 .call (S_l9_of (0, 1, ())) Dd19 fun y15 =>
 .call (S_l9_value (y13.1, y14.1, y15.1, ())) Dd1 fun y16 =>
 .ite (y16.1)
 (.call (S_l9_steps ()) Dd27 fun y17 =>
 .call (S_l9_of (3, 4, ())) Dd19 fun y18 =>
 .call (S_l9_of (3, 4, ())) Dd19 fun y19 =>
 .call (S_l9_value (y17.1, y18.1, y19.1, ())) Dd1 fun y20 =>
 .ite (y20.1)
 (.call (S_l9_steps ()) Dd27 fun y21 =>
 .call (S_l9_of (1, 2, ())) Dd19 fun y22 =>
 .call (S_l9_of (1, 2, ())) Dd19 fun y23 =>
 .call (S_l9_value (y21.1, y22.1, y23.1, ())) Dd1 fun y24 =>
 .ite (y24.1)
 (.ite (y2.2.1 == 5)
 (.ite (match y4.1.1 == 500000000000 with
| true =>
 match y4.1.2.1 == 500000000000 with
 | true => true
 | false => false
| false => false)
 (.ite (y4.2.1 == 0)
 (.ite (match y6.1.1 == 500000000000 with
| true =>
 match y6.1.2.1 == 1000000000000 with
 | true => true
 | false => false
| false => false)
 (.ite (y6.2.1 == 0)
 (.ite (y8.1 == 0)
 (.ite (y8.2.1 == 0)
 (.call (S_c_Check ((0, [], [], ()), ())) Dd6 fun y25 =>
 .ok ((y25.1 == 90, ())))
 (.ok ((false, ()))))
 (.ok ((false, ()))))
 (.ok ((false, ()))))
 (.ok ((false, ()))))
 (.ok ((false, ()))))
 (.ok ((false, ()))))
 (.ok ((false, ()))))
 (.ok ((false, ()))))
 (.ok ((false, ()))))
 (.ok ((false, ()))))
 (.ok ((false, ())))
end
end Go.Vs
namespace Go.Vs
open Go Go.Vg
theorem l9_of_law (n d : Int) (y) (h : S_l9_of (n, d, ()) = some y) : (l9_of_t n d).toO = some y := by
 unfold S_l9_of S_c_over at h
 split at h
 ·rename_i hp
  exact uC (ofQ n d) (by unfold S_r2_Of S_f_Of; rw [if_pos hp]) h
 ·cases h
theorem l9_tent_law (y) (h : S_l9_tent () = some y) : l9_tent_t.toO = some y := h
theorem l9_steps_law (y) (h : S_l9_steps () = some y) : l9_steps_t.toO = some y := h
theorem l9_root_law (y) (h : S_l9_root () = some y) : l9_root_t.toO = some y := h
theorem l9_value_law (c : CvT) (x z : FxT) (y) (h : S_l9_value (c, x, z, ()) = some y) : (l9_value_t c x z).toO = some y := by
 unfold S_l9_value at h
 dsimp only at h
 cases hr : S_c_Eval (c, x, ()) with
 | none => rw [hr] at h; cases h
 | some r =>
  rw [hr] at h
  injection h with h
  subst h
  unfold l9_value_t
  refine uC r hr ?_
  obtain ⟨⟨r1, r2, r3⟩, r4, r5⟩ := r
  obtain ⟨z1, z2, z3⟩ := z
  dsimp only
  by_cases c1 : r1 = z1
  ·subst c1
   by_cases c2 : r2 = z2
   ·subst c2
    refine uT (by simp) ?_
    rw [toO_ok]
    by_cases c3 : r4 = 0
    ·subst c3
     rw [eqb_true rfl]; rfl
    ·rw [eqb_false (fun h => c3 (by injection h with _ h; injection h with h _)), beq_eq_false_iff_ne.2 c3]
   ·rw [eqb_false (fun h => c2 (by injection h with h _; injection h with _ h; injection h with h _))]
    refine uF ?_ rfl
    simp [beq_eq_false_iff_ne.2 c2]
  ·rw [eqb_false (fun h => c1 (by injection h with h _; injection h with h _))]
   refine uF ?_ rfl
   simp [beq_eq_false_iff_ne.2 c1]
end Go.Vs
namespace Go.Vs
open Go Go.Vg
theorem right_tent : rightC tentC := by decide
theorem right_steps : rightC stepsC := by decide
theorem right_root : rightC rootC := by decide
theorem tab_tent : tabOk [0, 65535, 0] := by decide
theorem l9_of_val {n : Int} {d : Nat} (hn : inI64 n) (hd : d ≠ 0) (h2 : d ≤ 9223372036854775807) : S_l9_of (n, (d : Int), ()) = some (fx (mkRat n d), ()) := L_c_over hn hd h2
theorem tent_trend : S_c_Trend (tentC, ()) = some (0, 0, ()) := by
 unfold S_c_Trend; dsimp only; rw [if_pos right_tent]; decide
theorem eval_unit {c : CvT} (hr : rightC c) {n : Int} (hn : inU n) : S_c_Eval (c, fx (mkRat n 1000000000000), ()) = some (evalC c (mkRat n 1000000000000)) := by
 unfold S_c_Eval
 dsimp only
 rw [if_pos hr, rdF_fx (fitQ_unit hn)]
 dsimp only
 rw [clampQ_unit hn]
theorem tent_quarter : S_c_Eval (tentC, fx (mkRat 1 4), ()) = some (fx (mkRat 1 2), 0, ()) := by
 have e : mkRat 1 4 = mkRat 250000000000 1000000000000 := by rw [Rat.mkRat_eq_iff (by omega) (by omega)]; omega
 have hu : inU 250000000000 := ⟨by omega, by omega⟩
 rw [e, eval_unit right_tent hu]
 obtain ⟨q1, -⟩ := tabQ_small tab_tent hu
 have : evalC tentC (mkRat 250000000000 1000000000000) = outF (tabQ [0, 65535, 0] (mkRat 250000000000 1000000000000)) := rfl
 rw [this, q1]
 have hm : tabM [0, 65535, 0] 250000000000 = 32767500000000000 := by decide
 have e2 : mkRat 32767500000000000 65535000000000000 = mkRat 1 2 := by rw [Rat.mkRat_eq_iff (by omega) (by omega)]; omega
 rw [hm, e2]; rfl
theorem tent_two : S_c_Eval (tentC, fx (mkRat 2 1), ()) = some (fx (mkRat 0 1), 0, ()) := by
 have hf : FitQ (mkRat 2 1) := fitQ_int ⟨by omega, by omega⟩
 have hc : clampQ (mkRat 2 1) = mkRat 1000000000000 1000000000000 := by
  rw [unit_one]
  unfold clampQ
  rw [if_neg (by decide), if_pos (by decide)]
 have hu : inU 1000000000000 := ⟨by omega, by omega⟩
 unfold S_c_Eval
 dsimp only
 rw [if_pos right_tent, rdF_fx hf]
 dsimp only
 rw [hc]
 obtain ⟨q1, -⟩ := tabQ_small tab_tent hu
 have : evalC tentC (mkRat 1000000000000 1000000000000) = outF (tabQ [0, 65535, 0] (mkRat 1000000000000 1000000000000)) := rfl
 rw [this, q1]
 have hm : tabM [0, 65535, 0] 1000000000000 = 0 := by decide
 have e2 : mkRat 0 65535000000000000 = mkRat 0 1 := by rw [Rat.mkRat_eq_iff (by omega) (by omega)]; omega
 rw [hm, e2]; rfl
theorem tent_bands : S_c_Bands (tentC, (250000000000, 750000000000, ()), ()) = some ((500000000000, 1000000000000, ()), 0, ()) := by
 unfold S_c_Bands
 dsimp only
 rw [if_pos right_tent, if_pos (by decide)]
 have : bandsC tentC (unitB (250000000000, 750000000000, ())) = (bandsT [0, 65535, 0] 250000000000 750000000000, 0, ()) := rfl
 rw [this]
 have h2 : bandsT [0, 65535, 0] 250000000000 750000000000 = (500000000000, 1000000000000, ()) := by decide
 rw [h2]
theorem root_quarter : S_c_Eval (rootC, fx (mkRat 1 4), ()) = some (([], [], ()), 5, ()) := by
 have e : mkRat 1 4 = mkRat 250000000000 1000000000000 := by rw [Rat.mkRat_eq_iff (by omega) (by omega)]; omega
 have hu : inU 250000000000 := ⟨by omega, by omega⟩
 rw [e, eval_unit right_root hu]
 have : evalC rootC (mkRat 250000000000 1000000000000) = formC rootC.2.2.1 (mkRat 250000000000 1000000000000) := rfl
 rw [this]
 unfold formC
 rw [partN_unit]
 have hp : partI 250000000000 rootC.2.2.1 = 0 := by decide
 rw [hp, if_neg (by decide)]
theorem none_check : S_c_Check ((0, [], [], ()), ()) = some (90, ()) := by decide
end Go.Vs
namespace Go.Vs
open Go Go.Vg
theorem endV_quarter : endV 1 2 250000000000 = 500000000000 := by
 unfold endV
 exact iroot_of (by omega) (by decide) (by decide)
theorem powB_quarter : powB (250000000000, 250000000000, ()) 1 2 = ((500000000000, 500000000000, ()), 0, ()) := by
 unfold powB
 have hp : ∀ b : Bool, endP 1 2 250000000000 b = (500000000000, 0, ()) := by
  intro b
  unfold endP
  rw [endV_quarter, if_neg (by decide), if_neg (fun h => h.2 (by decide))]
  rfl
 have e1 : (1 : Int).toNat = 1 := rfl
 have e2 : (2 : Int).toNat = 2 := rfl
 have e3 : (250000000000 : Int).toNat = 250000000000 := rfl
 dsimp only
 rw [if_pos (by decide), if_pos (by decide), e1, e2, e3, hp, hp]
 decide
theorem root_bands : S_c_Bands (rootC, (250000000000, 250000000000, ()), ()) = some ((500000000000, 500000000000, ()), 0, ()) := by
 unfold S_c_Bands
 dsimp only
 rw [if_pos right_root, if_pos (by decide)]
 have h1 : bandsC rootC (unitB (250000000000, 250000000000, ())) = bandsF [(1000000, 1000000, 0, 1, 2, 0, ())] 250000000000 250000000000 := rfl
 rw [h1]
 unfold bandsF
 have hp : partI 250000000000 [((1000000, 1000000, 0, 1, 2, 0, ()) : SegT)] = 0 := by decide
 rw [hp]
 show some (bandsGo _ _ _ 1 0 []) = _
 have hs : segB [(1000000, 1000000, 0, 1, 2, 0, ())] 250000000000 250000000000 0 = ((500000000000, 500000000000, ()), 0, ()) := by
  unfold segB
  have e1 : max (250000000000 : Int) (beforeI [(1000000, 1000000, 0, 1, 2, 0, ())] 0 * 1000000) = 250000000000 := by decide
  have e2 : min (250000000000 : Int) ((([(1000000, 1000000, 0, 1, 2, 0, ())] : List SegT).getD 0 (0, 0, 0, 0, 0, 0, ())).1 * 1000000) = 250000000000 := by decide
  rw [e1, e2]
  show rootB (1000000, 1000000, 0, 1, 2, 0, ()) 250000000000 250000000000 = _
  unfold rootB
  have e3 : rootU (1000000, 1000000, 0, 1, 2, 0, ()) 250000000000 250000000000 = (250000000000, 250000000000, ()) := by decide
  rw [e3]
  dsimp only
  rw [powB_quarter]
  decide
 rw [bandsGo_succ, hs]
 decide
end Go.Vs
namespace Go.Vs
open Go Go.Vg
theorem fitQ_sm {n : Int} {d : Nat} (hd : d ≠ 0) (hn : inI64 n) (h2 : d ≤ 9223372036854775807) : FitQ (mkRat n d) := fitQ_mk hd (fit_small hn) (fit_small ⟨by omega, by omega⟩)
theorem steps_three : S_c_Eval (stepsC, fx (mkRat 3 4), ()) = some (fx (mkRat 3 4), 0, ()) := by
 have e : mkRat 3 4 = mkRat 750000000000 1000000000000 := by rw [Rat.mkRat_eq_iff (by omega) (by omega)]; omega
 have hu : inU 750000000000 := ⟨by omega, by omega⟩
 rw [e, eval_unit right_steps hu]
 have : evalC stepsC (mkRat 750000000000 1000000000000) = formC stepsC.2.2.1 (mkRat 750000000000 1000000000000) := rfl
 rw [this]
 unfold formC
 rw [partN_unit]
 have hp : partI 750000000000 stepsC.2.2.1 = 1 := by decide
 rw [hp, if_pos (by decide)]
 show some (outF (formQ (1000000, 2000000, -1000000, 2, 1, 500000, ()) (mkRat 750000000000 1000000000000))) = _
 unfold formQ
 dsimp only
 obtain ⟨l1, -⟩ := lineQ_small (m := 2000000) (a := -1000000) ⟨by omega, by omega⟩ ⟨by omega, by omega⟩ hu
 have hm : lineN 2000000 (-1000000) 750000000000 = 500000000000000000 := by decide
 have e2 : mkRat 500000000000000000 1000000000000000000 = mkRat 1 2 := by rw [Rat.mkRat_eq_iff (by omega) (by omega)]; omega
 rw [l1, hm, e2]
 simp only [Option.bind_some]
 have hpos : posQ (mkRat 1 2) = mkRat 1 2 := by unfold posQ; rw [if_neg (by decide)]
 have hn : ((2 : Int) - 1).toNat = 1 := rfl
 rw [hpos, hn]
 have hmul : mkRat 1 2 * mkRat 1 2 = mkRat 1 4 := by rw [Rat.mkRat_mul_mkRat]; rfl
 have h1 : powLoopQ (mkRat 1 2) 1 (mkRat 1 2) = some (mkRat 1 4) := by
  show (stepQ (mkRat 1 2 * mkRat 1 2)).bind some = _
  rw [hmul]; unfold stepQ
  rw [if_pos (fitQ_sm (by omega) ⟨by omega, by omega⟩ (by omega))]; rfl
 rw [h1]
 simp only [Option.bind_some]
 have hadd : mkRat 1 4 + mkRat 500000 1000000 = mkRat 3 4 := by
  rw [Rat.mkRat_add_mkRat _ _ (by omega) (by omega), Rat.mkRat_eq_iff (by omega) (by omega)]; decide
 have hc : clampQ (mkRat 3 4) = mkRat 3 4 := by rw [e]; exact clampQ_unit hu
 rw [hadd]
 unfold stepQ
 rw [if_pos (fitQ_sm (by omega) ⟨by omega, by omega⟩ (by omega))]
 show some (outF (some (clampQ (mkRat 3 4)))) = _
 rw [hc, ← e]; rfl
theorem steps_half : S_c_Eval (stepsC, fx (mkRat 1 2), ()) = some (fx (mkRat 1 2), 0, ()) := by
 have e : mkRat 1 2 = mkRat 500000000000 1000000000000 := by rw [Rat.mkRat_eq_iff (by omega) (by omega)]; omega
 have hu : inU 500000000000 := ⟨by omega, by omega⟩
 rw [e, eval_unit right_steps hu]
 have : evalC stepsC (mkRat 500000000000 1000000000000) = formC stepsC.2.2.1 (mkRat 500000000000 1000000000000) := rfl
 rw [this]
 unfold formC
 rw [partN_unit]
 have hp : partI 500000000000 stepsC.2.2.1 = 0 := by decide
 rw [hp, if_pos (by decide)]
 show some (outF (formQ (500000, 1000000, 0, 1, 1, 0, ()) (mkRat 500000000000 1000000000000))) = _
 unfold formQ
 dsimp only
 obtain ⟨l1, -⟩ := lineQ_small (m := 1000000) (a := 0) ⟨by omega, by omega⟩ ⟨by omega, by omega⟩ hu
 have hm : lineN 1000000 0 500000000000 = 500000000000000000 := by decide
 have e2 : mkRat 500000000000000000 1000000000000000000 = mkRat 1 2 := by rw [Rat.mkRat_eq_iff (by omega) (by omega)]; omega
 rw [l1, hm, e2]
 simp only [Option.bind_some]
 have hpos : posQ (mkRat 1 2) = mkRat 1 2 := by unfold posQ; rw [if_neg (by decide)]
 have hn : ((1 : Int) - 1).toNat = 0 := rfl
 rw [hpos, hn]
 have h1 : powLoopQ (mkRat 1 2) 0 (mkRat 1 2) = some (mkRat 1 2) := rfl
 rw [h1]
 simp only [Option.bind_some]
 have hadd : mkRat 1 2 + mkRat 0 1000000 = mkRat 1 2 := by
  rw [Rat.mkRat_add_mkRat _ _ (by omega) (by omega), Rat.mkRat_eq_iff (by omega) (by omega)]; decide
 have hc : clampQ (mkRat 1 2) = mkRat 1 2 := by rw [e]; exact clampQ_unit hu
 rw [hadd]
 unfold stepQ
 rw [if_pos (fitQ_sm (by omega) ⟨by omega, by omega⟩ (by omega))]
 show some (outF (some (clampQ (mkRat 1 2)))) = _
 rw [hc, ← e]; rfl
end Go.Vs
namespace Go.Vs
open Go Go.Vg
theorem value_of {c : CvT} {x z : FxT} (h : S_c_Eval (c, x, ()) = some (z, 0, ())) : S_l9_value (c, x, z, ()) = some (true, ()) := by
 unfold S_l9_value
 dsimp only
 rw [h]
 show some (eqb (z, 0, ()) (z, 0, ()), ()) = _
 rw [eqb_true rfl]
theorem l9_wakes_law (y) (h : S_l9_wakes () = some y) : l9_wakes_t.toO = some y := by
 injection h with h
 subst h
 unfold l9_wakes_t
 have o14 : S_l9_of (1, 4, ()) = some (fx (mkRat 1 4), ()) := l9_of_val (d := 4) ⟨by omega, by omega⟩ (by omega) (by omega)
 have o12 : S_l9_of (1, 2, ()) = some (fx (mkRat 1 2), ()) := l9_of_val (d := 2) ⟨by omega, by omega⟩ (by omega) (by omega)
 have o21 : S_l9_of (2, 1, ()) = some (fx (mkRat 2 1), ()) := l9_of_val (d := 1) ⟨by omega, by omega⟩ (by omega) (by omega)
 have o01 : S_l9_of (0, 1, ()) = some (fx (mkRat 0 1), ()) := l9_of_val (d := 1) ⟨by omega, by omega⟩ (by omega) (by omega)
 have o34 : S_l9_of (3, 4, ()) = some (fx (mkRat 3 4), ()) := l9_of_val (d := 4) ⟨by omega, by omega⟩ (by omega) (by omega)
 refine uC (rootC, ()) rfl (uC _ o14 (uC _ root_quarter (uC (rootC, ()) rfl (uC _ root_bands ?_))))
 refine uC (tentC, ()) rfl (uC _ tent_bands (uC (tentC, ()) rfl (uC _ tent_trend ?_)))
 refine uC (tentC, ()) rfl (uC _ o14 (uC _ o12 (uC _ (value_of tent_quarter) (uT rfl ?_))))
 refine uC (tentC, ()) rfl (uC _ o21 (uC _ o01 (uC _ (value_of tent_two) (uT rfl ?_))))
 refine uC (stepsC, ()) rfl (uC _ o34 (uC _ o34 (uC _ (value_of steps_three) (uT rfl ?_))))
 refine uC (stepsC, ()) rfl (uC _ o12 (uC _ o12 (uC _ (value_of steps_half) (uT rfl ?_))))
 refine uT rfl (uT rfl (uT rfl (uT rfl (uT rfl (uT rfl (uT rfl ?_))))))
 exact uC _ none_check rfl
end Go.Vs
set_option maxRecDepth 100000
namespace Go.Vs
open Go Go.Vg Go.Proofs
noncomputable section
def CurvePowers_L : LTab := []
def CurvePowers_t (num : Int) (mul : Int) (at0 : Int) : TT (Bool × Unit) :=
 .call (S_l9_wakes ()) Dd1 fun y =>
 .ite (!y.1)
 (.ok ((false, ())))
 (.triv (asT Int 36 ≠ 0) (by decide) <| .triv (asT Int 1001 ≠ 0) (by decide) <| .call (S_l9_of (w64 (w64 mul * 15), 1000000, ())) Dd19 fun y1 =>
 .call (S_l9_of (Int.tmod (w64 at0) 1001, 1000, ())) Dd19 fun y2 =>
 .call (S_r2_Mul (y1.1, y2.1, ())) Dd14 fun y3 =>
 .call (S_r2_Pow ((y3.1.1, y3.1.2.1, ()), w64 (1 + w64 (Int.tmod num 36)), ())) Dd14 fun y4 =>
 .call (S_c_Bands ((3, [], [(1000000, w64 (w64 mul * 15), 0, w64 (1 + w64 (Int.tmod num 36)), 1, 0, ())], ()), (w64 (Int.tmod (w64 at0) 1001 * 1000000000), w64 (Int.tmod (w64 at0) 1001 * 1000000000), ()), ())) Dd16 fun y5 =>
 .call (S_r3_Has ((y5.1.1, y5.1.2.1, ()), (y4.1.1, y4.1.2.1, ()), ())) Dd28 fun y6 =>
 .ite (y4.2.1 == 0)
 (.ite (y5.2.1 == 0)
 (.ite (y6.2.1 == 0)
 (.ite (y6.1)
 (.call (S_l9_of (Int.tmod (w64 at0) 1001, 1000, ())) Dd19 fun y7 =>
 .call (S_l9_value ((3, [], [(1000000, w64 (w64 mul * 15), 0, w64 (1 + w64 (Int.tmod num 36)), 1, 0, ())], ()), y7.1, (y4.1.1, y4.1.2.1, ()), ())) Dd1 fun y8 =>
 .ok ((y8.1, ())))
 (.ok ((false, ()))))
 (.ok ((false, ()))))
 (.ok ((false, ()))))
 (.ok ((false, ()))))
end
end Go.Vs
namespace Go.Vs
open Go Go.Vg
theorem fit_pow9 {z : Int} {j : Nat} (h : z.natAbs ≤ 1000000000) (hj : j ≤ 40) : Fit (z ^ j) := by
 unfold Fit
 obtain ⟨K, hK⟩ : ∃ K : Nat, K = 600 := ⟨_, rfl⟩
 rw [← hK]
 refine (decN_length_iff (by omega)).2 ?_
 rw [Int.natAbs_pow]
 have h1 : z.natAbs ^ j ≤ 1000000000 ^ j := Nat.pow_le_pow_left h j
 have h2 : 1000000000 ^ j = 10 ^ (9 * j) := by rw [Nat.pow_mul]
 have h3 : 10 ^ (9 * j) < 10 ^ K := Nat.pow_lt_pow_right (by omega) (by omega)
 omega
theorem fitQ_pow9 {u : Rat} {j : Nat} (h1 : u.num.natAbs ≤ 1000000000) (h2 : u.den ≤ 1000000000) (hj : j ≤ 40) : FitQ (u ^ j) := by
 refine ⟨?_, ?_⟩
 ·rw [Rat.num_pow]; exact fit_pow9 h1 hj
 ·rw [Rat.den_pow, Int.natCast_pow]; exact fit_pow9 (by omega) hj
theorem powLoopQ_small {u : Rat} (h1 : u.num.natAbs ≤ 1000000000) (h2 : u.den ≤ 1000000000) : ∀ (n j : Nat), j + n ≤ 40 → powLoopQ u n (u ^ j) = some (u ^ (j + n))
 | 0, _, _ => rfl
 | n + 1, j, h => by
  show (stepQ (u ^ j * u)).bind (powLoopQ u n) = _
  have e : u ^ j * u = u ^ (j + 1) := (Rat.pow_succ ..).symm
  rw [e]
  unfold stepQ
  rw [if_pos (fitQ_pow9 h1 h2 (by omega))]
  show powLoopQ u n (u ^ (j + 1)) = _
  rw [powLoopQ_small h1 h2 n (j + 1) (by omega), show j + 1 + n = j + (n + 1) by omega]
end Go.Vs
namespace Go.Vs
open Go Go.Vg
def powC (M : Int) (K : Nat) : CvT := (3, [], [(1000000, M, 0, (K : Int), 1, 0, ())], ())
theorem right_pow {M : Int} {K : Nat} (h1 : 0 ≤ M) (h2 : M ≤ 1000000) (h3 : 1 ≤ K) (h4 : K ≤ 36) : segLOk [((1000000, M, 0, (K : Int), 1, 0, ()) : SegT)] := by
 refine ⟨by simp, by simp, ⟨⟨⟨?_, ?_⟩, ⟨?_, ?_⟩, ⟨?_, ?_⟩, ⟨?_, ?_⟩, ⟨?_, ?_⟩, ?_⟩, ⟨?_, ?_⟩⟩, ?_⟩
 all_goals first | (dsimp only; omega) | (dsimp only; simp) | rfl
theorem num_bd (X : Int) {d : Nat} (hd : d ≠ 0) : (mkRat X d).num.natAbs ≤ X.natAbs ∧ (mkRat X d).den ≤ d := by
 constructor
 ·rw [Rat.num_mkRat, if_neg hd]; exact Int.natAbs_ediv_le_natAbs _ _
 ·rw [Rat.den_mkRat, if_neg hd]; exact Nat.div_le_self _ _
theorem rone_pow : ∀ K : Nat, (1 : Rat) ^ K = 1
 | 0 => rfl
 | K + 1 => by rw [Rat.pow_succ, rone_pow K, Rat.mul_one]
theorem pow_small {a : Int} {d : Nat} (ha : 0 ≤ a) (hd : d ≠ 0) (h : a ≤ d) (h9 : d ≤ 1000000000) (K : Nat) (hK : K ≤ 40) : FitQ (mkRat a d ^ K) ∧ 0 ≤ mkRat a d ^ K ∧ mkRat a d ^ K ≤ 1 := by
 obtain ⟨b1, b2⟩ := num_bd a hd
 have h0 : 0 ≤ mkRat a d := by
  have := (int_le_mk (n := 0) (X := a) hd).2 (by omega)
  exact this
 have h1 : mkRat a d ≤ 1 := by
  have := (mk_le_int (n := 1) (X := a) hd).2 (by omega)
  exact this
 refine ⟨fitQ_pow9 (by omega) (by omega) hK, Rat.pow_nonneg h0, ?_⟩
 have := rpow_le h0 h1 K
 rwa [rone_pow] at this
theorem clampQ_id {q : Rat} (h0 : 0 ≤ q) (h1 : q ≤ 1) : clampQ q = q := by
 unfold clampQ
 rw [if_neg (Rat.not_lt.2 h0), if_neg (Rat.not_lt.2 h1)]
theorem powers_eval {M N : Int} {K : Nat} (h1 : 0 ≤ M) (h2 : M ≤ 1000000) (h3 : 1 ≤ K) (h4 : K ≤ 36) (n1 : 0 ≤ N) (n2 : N ≤ 1000) : S_c_Eval (powC M K, fx (mkRat N 1000), ()) = some (fx (mkRat (M * N) 1000000000 ^ K), 0, ()) := by
 have e : mkRat N 1000 = mkRat (N * 1000000000) 1000000000000 := by rw [Rat.mkRat_eq_iff (by omega) (by omega)]; omega
 have hu : inU (N * 1000000000) := ⟨by omega, by omega⟩
 have hs := right_pow h1 h2 h3 h4
 have hr : rightC (powC M K) := Or.inr (Or.inr ⟨rfl, rfl, hs⟩)
 have hMN0 : 0 ≤ M * N := Int.mul_nonneg h1 n1
 have hMN1 : M * N ≤ 1000000 * 1000 := Int.le_trans (Int.mul_le_mul_of_nonneg_right h2 n1) (Int.mul_le_mul_of_nonneg_left n2 (by omega))
 rw [e, eval_unit hr hu]
 show some (formC [(1000000, M, 0, (K : Int), 1, 0, ())] (mkRat (N * 1000000000) 1000000000000)) = _
 unfold formC
 rw [partN_unit]
 have hp : partI (N * 1000000000) [((1000000, M, 0, (K : Int), 1, 0, ()) : SegT)] = 0 := by
  have := (partI_spec hs hu).1
  simp only [List.length_cons, List.length_nil] at this
  omega
 rw [hp]
 rw [if_pos (show (([((1000000, M, 0, (K : Int), 1, 0, ()) : SegT)].getD 0 (0, 0, 0, 0, 0, 0, ())).2.2.2.2.1 = 1) from rfl)]
 show some (outF (formQ (1000000, M, 0, (K : Int), 1, 0, ()) (mkRat (N * 1000000000) 1000000000000))) = _
 unfold formQ
 dsimp only
 obtain ⟨l1, -⟩ := lineQ_small (m := M) (a := 0) ⟨by omega, by omega⟩ ⟨by omega, by omega⟩ hu
 have hm : mkRat (lineN M 0 (N * 1000000000)) 1000000000000000000 = mkRat (M * N) 1000000000 := by
  rw [Rat.mkRat_eq_iff (by omega) (by omega)]
  unfold lineN
  rw [← Int.mul_assoc]
  generalize M * N = P
  omega
 rw [l1, hm]
 simp only [Option.bind_some]
 have hd9 : (1000000000 : Nat) ≠ 0 := by omega
 obtain ⟨f0, f1, f2⟩ := pow_small (d := 1000000000) hMN0 hd9 (by omega) (by omega) K (by omega)
 obtain ⟨g0, g1, g2⟩ := pow_small (d := 1000000000) hMN0 hd9 (by omega) (by omega) 1 (by omega)
 obtain ⟨b1, b2⟩ := num_bd (M * N) hd9
 have hpos : posQ (mkRat (M * N) 1000000000) = mkRat (M * N) 1000000000 ^ 1 := by
  rw [Rat.pow_one] at g1 ⊢
  unfold posQ; rw [if_neg (Rat.not_lt.2 g1)]
 have hn : ((K : Int) - 1).toNat = K - 1 := by omega
 rw [hn, hpos]
 have hpl := powLoopQ_small (u := mkRat (M * N) 1000000000) (by omega) (by omega) (K - 1) 1 (by omega)
 rw [show powLoopQ (mkRat (M * N) 1000000000 ^ 1) = powLoopQ (mkRat (M * N) 1000000000) by rw [Rat.pow_one], hpl, show 1 + (K - 1) = K by omega]
 simp only [Option.bind_some]
 rw [Rat.zero_mkRat, Rat.add_zero]
 unfold stepQ
 rw [if_pos f0]
 show some (outF (some (clampQ _))) = _
 rw [clampQ_id f1 f2]; rfl
end Go.Vs
namespace Go.Vs
open Go Go.Vg
theorem rmul_pow (a b : Rat) : ∀ n : Nat, (a * b) ^ n = a ^ n * b ^ n
 | 0 => by rw [Rat.pow_zero, Rat.pow_zero, Rat.pow_zero, Rat.mul_one]
 | n + 1 => by rw [Rat.pow_succ, Rat.pow_succ, Rat.pow_succ, rmul_pow a b n]; grind
theorem unit_pow (n q : Nat) : unitQ n ^ q * one12 ^ q = ((n ^ q : Nat) : Rat) := by
 rw [← rmul_pow]
 unfold unitQ
 rw [mkRat12]
 rw [Rat.natCast_pow]; rfl
theorem one12_pow (p : Nat) : one12 ^ p = ((10 ^ (12 * p) : Nat) : Rat) := by
 unfold one12
 rw [← Rat.natCast_pow, Nat.pow_mul]
theorem unit_pow_le (n q m p : Nat) : unitQ n ^ q ≤ unitQ m ^ p ↔ n ^ q * 10 ^ (12 * p) ≤ m ^ p * 10 ^ (12 * q) := by
 have hT : (0 : Rat) < one12 ^ q * one12 ^ p := Rat.mul_pos (Rat.pow_pos one12_pos) (Rat.pow_pos one12_pos)
 have e1 : unitQ n ^ q * (one12 ^ q * one12 ^ p) = ((n ^ q * 10 ^ (12 * p) : Nat) : Rat) := by
  rw [← Rat.mul_assoc, unit_pow, one12_pow p, ← Rat.natCast_mul]
 have e2 : unitQ m ^ p * (one12 ^ q * one12 ^ p) = ((m ^ p * 10 ^ (12 * q) : Nat) : Rat) := by
  rw [Rat.mul_comm (one12 ^ q), ← Rat.mul_assoc, unit_pow, one12_pow q, ← Rat.natCast_mul]
 constructor
 ·intro h
  have := Rat.mul_le_mul_of_nonneg_right h (Rat.le_of_lt hT)
  rw [e1, e2] at this
  exact Rat.natCast_le_natCast.1 this
 ·intro h
  refine Rat.le_of_mul_le_mul_right ?_ hT
  rw [e1, e2]
  exact Rat.natCast_le_natCast.2 h
end Go.Vs
namespace Go.Vs
open Go Go.Vg
theorem endV_one (K n : Nat) : endV K 1 n = n ^ K * 10 ^ (12 * 1) / 10 ^ (12 * K) := by
 unfold endV
 exact iroot_of (by omega) (by rw [Nat.pow_one]; exact Nat.le_refl _) (by rw [Nat.pow_one]; omega)
theorem powB_one {n K : Nat} (hn : n ≤ 1000000000000) (h1 : 1 ≤ K) (h2 : K ≤ 36) : ∃ Q d : Nat, powB ((n : Int), (n : Int), ()) (K : Int) 1 = (((Q : Int), (Q : Int) + (d : Int), ()), 0, ()) ∧ Q + d ≤ 1000000000000 ∧ Q * 10 ^ (12 * K) ≤ n ^ K * 10 ^ (12 * 1) ∧ n ^ K * 10 ^ (12 * 1) ≤ (Q + d) * 10 ^ (12 * K) := by
 obtain ⟨D, hD⟩ : ∃ D, D = 10 ^ (12 * K) := ⟨_, rfl⟩
 obtain ⟨A, hA⟩ : ∃ A, A = n ^ K * 10 ^ (12 * 1) := ⟨_, rfl⟩
 have hDp : 0 < D := by rw [hD]; exact Nat.pow_pos (by omega)
 have hAD : A ≤ 1000000000000 * D := by
  have e : D = 1000000000000 ^ K := by rw [hD, Nat.pow_mul]
  have : n ^ K ≤ 1000000000000 ^ K := Nat.pow_le_pow_left hn K
  rw [hA, e, Nat.mul_comm]
  exact Nat.mul_le_mul_left _ this
 obtain ⟨Q, hQ⟩ : ∃ Q, Q = A / D := ⟨_, rfl⟩
 have hQ1 : Q * D ≤ A := by rw [hQ]; exact Nat.div_mul_le_self _ _
 have hQ2 : A < (Q + 1) * D := by
  rw [hQ, Nat.mul_comm]; exact Nat.lt_mul_div_succ A hDp
 have hQ3 : Q ≤ 1000000000000 := by rw [hQ]; exact (Nat.div_le_iff_le_mul_add_pred hDp).2 (by rw [Nat.mul_comm]; omega)
 have hV : endV K 1 n = Q := by rw [endV_one, ← hA, ← hD, hQ]
 have hQle : ¬ Q > 1000000000000000000 := by omega
 have hf : endP K 1 n false = ((Q : Int), 0, ()) := by
  unfold endP; rw [hV, if_neg hQle]; simp
 have hup : ∃ d : Nat, endP K 1 n true = ((Q : Int) + (d : Int), 0, ()) ∧ Q + d ≤ 1000000000000 ∧ A ≤ (Q + d) * D := by
  by_cases c : Q * D = A
  ·refine ⟨0, ?_, by omega, by rw [Nat.add_zero]; omega⟩
   unfold endP
   rw [hV, if_neg hQle, if_neg (fun h => h.2 (by rw [Nat.pow_one, ← hD, ← hA]; exact c))]; rfl
  ·refine ⟨1, ?_, ?_, by omega⟩
   ·unfold endP
    rw [hV, if_neg hQle, if_pos ⟨rfl, by rw [Nat.pow_one, ← hD, ← hA]; exact c⟩]; rfl
   ·rcases Nat.lt_or_ge Q 1000000000000 with g | g
    ·omega
    ·obtain rfl : Q = 1000000000000 := by omega
     omega
 obtain ⟨d, hu, hd1, hd2⟩ := hup
 refine ⟨Q, d, ?_, hd1, by rw [← hD, ← hA]; exact hQ1, by rw [← hD, ← hA]; exact hd2⟩
 unfold powB
 dsimp only
 have e1 : ((K : Int)).toNat = K := by omega
 have e2 : (1 : Int).toNat = 1 := rfl
 have e3 : ((n : Int)).toNat = n := by omega
 rw [if_pos ⟨by omega, by omega, by omega⟩, if_pos ⟨⟨by omega, by omega, by omega, by omega⟩, by omega⟩, e1, e2, e3, hf, hu, if_neg (fun h => h rfl), if_neg (fun h => h rfl)]
 unfold mkB
 rw [if_pos ⟨by dsimp only; omega, by dsimp only; omega, by dsimp only; omega⟩]
theorem powers_bands {M N : Int} {K : Nat} (h1 : 0 ≤ M) (h2 : M ≤ 1000000) (h3 : 1 ≤ K) (h4 : K ≤ 36) (n1 : 0 ≤ N) (n2 : N ≤ 1000) :
  ∃ b : BdT, S_c_Bands (powC M K, (N * 1000000000, N * 1000000000, ()), ()) = some (b, 0, ()) ∧ hasB b (fx (mkRat (M * N) 1000000000 ^ K)) = (true, 0, ()) := by
 have hs := right_pow h1 h2 h3 h4
 have hr : rightC (powC M K) := Or.inr (Or.inr ⟨rfl, rfl, hs⟩)
 have hMN0 : 0 ≤ M * N := Int.mul_nonneg h1 n1
 have hMN1 : M * N ≤ 1000000 * 1000 := Int.le_trans (Int.mul_le_mul_of_nonneg_right h2 n1) (Int.mul_le_mul_of_nonneg_left n2 (by omega))
 obtain ⟨n, hn⟩ : ∃ n : Nat, M * N * 1000 = (n : Int) := Int.eq_ofNat_of_zero_le (by omega)
 obtain ⟨Q, d, hp, q1, q2, q3⟩ := powB_one (n := n) (by omega) h3 h4
 have hu : inU (N * 1000000000) := ⟨by omega, by omega⟩
 refine ⟨((Q : Int), (Q : Int) + (d : Int), ()), ?_, ?_⟩
 ·unfold S_c_Bands
  dsimp only
  rw [if_pos hr, if_pos ⟨by omega, by omega, by omega⟩]
  have hz : unitB (N * 1000000000, N * 1000000000, ()) = (N * 1000000000, N * 1000000000, ()) := by
   unfold unitB; dsimp only
   rw [show min (max (N * 1000000000) 0) 1000000000000 = N * 1000000000 by omega]
  rw [hz]
  show some (bandsF [(1000000, M, 0, (K : Int), 1, 0, ())] (N * 1000000000) (N * 1000000000)) = _
  unfold bandsF
  have hpi : partI (N * 1000000000) [((1000000, M, 0, (K : Int), 1, 0, ()) : SegT)] = 0 := by
   have := (partI_spec hs hu).1
   simp only [List.length_cons, List.length_nil] at this
   omega
  rw [hpi]
  show some (bandsGo _ _ _ 1 0 []) = _
  have hseg : segB [(1000000, M, 0, (K : Int), 1, 0, ())] (N * 1000000000) (N * 1000000000) 0 = (((Q : Int), (Q : Int) + (d : Int), ()), 0, ()) := by
   unfold segB
   have e1 : max (N * 1000000000) (beforeI [((1000000, M, 0, (K : Int), 1, 0, ()) : SegT)] 0 * 1000000) = N * 1000000000 := by
    show max (N * 1000000000) ((0 : Int) * 1000000) = _; omega
   have e2 : min (N * 1000000000) ((([(1000000, M, 0, (K : Int), 1, 0, ())] : List SegT).getD 0 (0, 0, 0, 0, 0, 0, ())).1 * 1000000) = N * 1000000000 := by
    show min (N * 1000000000) ((1000000 : Int) * 1000000) = _; omega
   rw [e1, e2]
   show rootB (1000000, M, 0, (K : Int), 1, 0, ()) (N * 1000000000) (N * 1000000000) = _
   unfold rootB
   have e3 : rootU (1000000, M, 0, (K : Int), 1, 0, ()) (N * 1000000000) (N * 1000000000) = ((n : Int), (n : Int), ()) := by
    unfold rootU lineN
    dsimp only
    rw [← Int.mul_assoc]
    generalize M * N = P at *
    have f1 : max (min ((P * 1000000000 + 0 * 1000000000000) / 1000000) ((P * 1000000000 + 0 * 1000000000000) / 1000000)) 0 = (n : Int) := by omega
    have f2 : max (max (-(-(P * 1000000000 + 0 * 1000000000000) / 1000000)) (-(-(P * 1000000000 + 0 * 1000000000000) / 1000000))) 0 = (n : Int) := by omega
    rw [f1, f2]
   rw [e3]
   dsimp only
   rw [hp]
   have e4 : addB ((Q : Int), (Q : Int) + (d : Int), ()) ((0 : Int) * 1000000, (0 : Int) * 1000000, ()) = (((Q : Int), (Q : Int) + (d : Int), ()), 0, ()) := by
    unfold addB mkB
    dsimp only
    rw [if_pos ⟨⟨by omega, by omega, by omega⟩, ⟨by omega, by omega, by omega⟩⟩, if_pos ⟨by omega, by omega, by omega⟩]
    rw [show (Q : Int) + 0 * 1000000 = (Q : Int) by omega, show (Q : Int) + (d : Int) + 0 * 1000000 = (Q : Int) + (d : Int) by omega]
   dsimp only
   rw [e4, if_neg (fun h => h rfl), if_neg (fun h => h rfl)]
   unfold unitB
   dsimp only
   rw [show min (max (Q : Int) 0) 1000000000000 = (Q : Int) by omega, show min (max ((Q : Int) + (d : Int)) 0) 1000000000000 = (Q : Int) + (d : Int) by omega]
  rw [bandsGo_succ, hseg, if_neg (fun h => h rfl)]
  rfl
 ·have hq : mkRat (M * N) 1000000000 = unitQ n := by
   unfold unitQ
   rw [← hn, Rat.mkRat_eq_iff (by omega) (by omega)]
   generalize M * N = P
   omega
  obtain ⟨f0, -, -⟩ := pow_small (d := 1000000000) hMN0 (by omega) (by omega) (by omega) K (by omega)
  rw [hq] at f0 ⊢
  unfold hasB
  dsimp only
  rw [if_pos ⟨by omega, by omega, by omega⟩, rdF_fx f0]
  dsimp only
  have a1 : unitQ Q ^ 1 ≤ unitQ n ^ K := (unit_pow_le _ _ _ _).2 (by rw [Nat.pow_one]; exact q2)
  have a2 : unitQ n ^ K ≤ unitQ (Q + d) ^ 1 := (unit_pow_le _ _ _ _).2 (by rw [Nat.pow_one]; exact q3)
  rw [Rat.pow_one] at a1 a2
  have b1 := (unit_le_iff (Q : Int) _).1 a1
  have b2 := (le_unit_iff ((Q + d : Nat) : Int) _).1 a2
  exact congrArg (fun z => (z, (0 : Int), ())) (decide_eq_true ⟨b1, b2⟩)
end Go.Vs
namespace Go.Vs
open Go Go.Vg
theorem CurvePowers_law (num mul at0 : Int) (y) (h : S_CurvePowers (num, mul, at0, ()) = some y) : (CurvePowers_t num mul at0).toO = some y := by
 unfold S_CurvePowers at h
 split at h
 case isFalse => cases h
 case isTrue hp =>
 injection h with h
 subst h
 obtain ⟨⟨a1, a2⟩, ⟨b1, b2⟩, c1, c2⟩ := hp
 dsimp only at a1 a2 b1 b2 c1 c2
 have d1 : Int.tmod num 36 = num % 36 := Int.tmod_eq_emod_of_nonneg a1
 have d2 : Int.tmod at0 1001 = at0 % 1001 := Int.tmod_eq_emod_of_nonneg c1
 obtain ⟨K, hK⟩ : ∃ K : Nat, 1 + num % 36 = (K : Int) := Int.eq_ofNat_of_zero_le (by omega)
 obtain ⟨M, hM⟩ : ∃ M, M = mul * 15 := ⟨_, rfl⟩
 obtain ⟨N, hN⟩ : ∃ N, N = at0 % 1001 := ⟨_, rfl⟩
 have e1 : w64 mul = mul := w64_id (by omega)
 have e2 : w64 (mul * 15) = M := by rw [w64_id (by omega), hM]
 have e3 : w64 at0 = at0 := w64_id (by omega)
 have e4 : w64 (num % 36) = num % 36 := w64_id (by omega)
 have e5 : w64 (1 + num % 36) = (K : Int) := by rw [w64_id (by omega), hK]
 have e6 : w64 (N * 1000000000) = N * 1000000000 := w64_id (by omega)
 have k1 : 1 ≤ K := by omega
 have k2 : K ≤ 36 := by omega
 have m1 : 0 ≤ M := by omega
 have m2 : M ≤ 1000000 := by omega
 have n1 : 0 ≤ N := by omega
 have n2 : N ≤ 1000 := by omega
 unfold CurvePowers_t
 rw [e1, e2, e3, d1, d2, e4, e5, ← hN, e6]
 have hMN0 : 0 ≤ M * N := Int.mul_nonneg m1 n1
 have hMN1 : M * N ≤ 1000000 * 1000 := Int.le_trans (Int.mul_le_mul_of_nonneg_right m2 n1) (Int.mul_le_mul_of_nonneg_left n2 (by omega))
 have iM : inI64 M := ⟨by omega, by omega⟩
 have iN : inI64 N := ⟨by omega, by omega⟩
 have oM : S_l9_of (M, 1000000, ()) = some (fx (mkRat M 1000000), ()) := l9_of_val (d := 1000000) iM (by omega) (by omega)
 have oN : S_l9_of (N, 1000, ()) = some (fx (mkRat N 1000), ()) := l9_of_val (d := 1000) iN (by omega) (by omega)
 have fM : FitQ (mkRat M 1000000) := fitQ_sm (by omega) iM (by omega)
 have fN : FitQ (mkRat N 1000) := fitQ_sm (by omega) iN (by omega)
 have fu : FitQ (mkRat (M * N) 1000000000) := fitQ_sm (by omega) ⟨by omega, by omega⟩ (by omega)
 obtain ⟨fp, -, -⟩ := pow_small (d := 1000000000) hMN0 (by omega) (by omega) (by omega) K (by omega)
 have hmul : S_r2_Mul (fx (mkRat M 1000000), fx (mkRat N 1000), ()) = some (fx (mkRat (M * N) 1000000000), 0, ()) := by
  rw [L_r2_MulS fM fN, Rat.mkRat_mul_mkRat]
  unfold stepQ
  rw [if_pos fu]; rfl
 have hpow : S_r2_Pow (fx (mkRat (M * N) 1000000000), (K : Int), ()) = some (fx (mkRat (M * N) 1000000000 ^ K), 0, ()) := by
  unfold S_r2_Pow
  rw [if_pos (shF_fx fu)]
  dsimp only
  rw [rdF_fx fu]
  dsimp only
  rw [if_neg (by omega), show ((K : Int)).toNat = K by omega]
  unfold wrF
  rw [if_pos fp]
 obtain ⟨b, hb1, hb2⟩ := powers_bands m1 m2 k1 k2 n1 n2
 refine uC (true, ()) rfl (uF rfl (uC _ oM (uC _ oN (uC _ hmul (uC _ hpow (uC _ hb1 ?_))))))
 refine uC (true, 0, ()) (by unfold S_r3_Has; rw [if_pos (shF_fx fp)]; exact congrArg some hb2) ?_
 exact uT rfl (uT rfl (uT rfl (uT rfl (uC _ oN (uC _ (value_of (powers_eval m1 m2 k1 k2 n1 n2)) rfl)))))
end Go.Vs
set_option maxRecDepth 100000
namespace Go.Vs
open Go Go.Vg Go.Proofs
noncomputable section
def w_Int_L : LTab := []
def w_Int_t (a : List UInt8) : TT (Int × Int × Unit) :=
 .call (S_w_Check (a, ())) Dd6 fun y =>
 .ite (y.1 != 0)
 (.ok ((0, y.1, ())))
 (.call (S_prsi (a, 10, 64, ())) Dd29 fun y1 =>
 .ite (y1.2.1)
 (.ok ((0, 6, ())))
 (.ok ((y1.1, 0, ()))))
def cc_table_L : LTab := []
def cc_table_t_k1 (y3 : (Int) × (Bool) × Unit) (c : (Int × List Int × List (Int × Int × Int × Int × Int × Int × Unit) × Unit) × Unit) (y1 : ((List UInt8) × (List UInt8) × Unit) × (Int) × Unit) : TT ((List UInt8 × List UInt8 × Unit) × Int × Unit) :=
 .tt <| .tt <| .tt <| .tt <| .tt <| .tt <| .ite (y3.1 != y3.1)
 (.ite (w64 (w64 (len c.1.2.1 - 1) - 1) != w64 (w64 (len c.1.2.1 - 1) - 1))
 (.call (S_c_integer (y3.1, ())) Dd19 fun y20 =>
 .call (S_f_Sub ((y1.1.1, y1.1.2.1, ()), y20.1, ())) Dd14 fun y21 =>
 .ite (y21.2.1 != 0)
 (.ok (((#[].toList, #[].toList, ()), y21.2.1, ())))
 (.need (inb (w64 (y3.1 + 1)) (len c.1.2.1)) <| .need (inb y3.1 (len c.1.2.1)) <| .call (S_c_integer (w64 (gi c.1.2.1 (w64 (y3.1 + 1)) 0 - gi c.1.2.1 y3.1 0), ())) Dd19 fun y22 =>
 .call (S_f_Mul (y22.1, (y21.1.1, y21.1.2.1, ()), ())) Dd14 fun y23 =>
 .ite (y23.2.1 != 0)
 (.ok (((#[].toList, #[].toList, ()), y23.2.1, ())))
 (.need (inb y3.1 (len c.1.2.1)) <| .call (S_c_integer (gi c.1.2.1 y3.1 0, ())) Dd19 fun y24 =>
 .call (S_f_Add (y24.1, (y23.1.1, y23.1.2.1, ()), ())) Dd14 fun y25 =>
 .ite (y25.2.1 != 0)
 (.ok (((#[].toList, #[].toList, ()), y25.2.1, ())))
 (.call (S_c_integer (65535, ())) Dd19 fun y26 =>
 .call (S_f_Div ((y25.1.1, y25.1.2.1, ()), y26.1, ())) Dd14 fun y27 =>
 .ok (((y27.1.1, y27.1.2.1, ()), y27.2.1, ()))))))
 (.call (S_c_integer (y3.1, ())) Dd19 fun y28 =>
 .call (S_f_Sub ((y1.1.1, y1.1.2.1, ()), y28.1, ())) Dd14 fun y29 =>
 .ite (y29.2.1 != 0)
 (.ok (((#[].toList, #[].toList, ()), y29.2.1, ())))
 (.need (inb (w64 (y3.1 + 1)) (len c.1.2.1)) <| .need (inb y3.1 (len c.1.2.1)) <| .call (S_c_integer (w64 (gi c.1.2.1 (w64 (y3.1 + 1)) 0 - gi c.1.2.1 y3.1 0), ())) Dd19 fun y30 =>
 .call (S_f_Mul (y30.1, (y29.1.1, y29.1.2.1, ()), ())) Dd14 fun y31 =>
 .ite (y31.2.1 != 0)
 (.ok (((#[].toList, #[].toList, ()), y31.2.1, ())))
 (.need (inb y3.1 (len c.1.2.1)) <| .call (S_c_integer (gi c.1.2.1 y3.1 0, ())) Dd19 fun y32 =>
 .call (S_f_Add (y32.1, (y31.1.1, y31.1.2.1, ()), ())) Dd14 fun y33 =>
 .ite (y33.2.1 != 0)
 (.ok (((#[].toList, #[].toList, ()), y33.2.1, ())))
 (.call (S_c_integer (65535, ())) Dd19 fun y34 =>
 .call (S_f_Div ((y33.1.1, y33.1.2.1, ()), y34.1, ())) Dd14 fun y35 =>
 .ok (((y35.1.1, y35.1.2.1, ()), y35.2.1, ())))))))
 (.ite (w64 (w64 (len c.1.2.1 - 1) - 1) != w64 (w64 (len c.1.2.1 - 1) - 1))
 (.call (S_c_integer (w64 (w64 (len c.1.2.1 - 1) - 1), ())) Dd19 fun y36 =>
 .call (S_f_Sub ((y1.1.1, y1.1.2.1, ()), y36.1, ())) Dd14 fun y37 =>
 .ite (y37.2.1 != 0)
 (.ok (((#[].toList, #[].toList, ()), y37.2.1, ())))
 (.need (inb (w64 (w64 (w64 (len c.1.2.1 - 1) - 1) + 1)) (len c.1.2.1)) <| .need (inb (w64 (w64 (len c.1.2.1 - 1) - 1)) (len c.1.2.1)) <| .call (S_c_integer (w64 (gi c.1.2.1 (w64 (w64 (w64 (len c.1.2.1 - 1) - 1) + 1)) 0 - gi c.1.2.1 (w64 (w64 (len c.1.2.1 - 1) - 1)) 0), ())) Dd19 fun y38 =>
 .call (S_f_Mul (y38.1, (y37.1.1, y37.1.2.1, ()), ())) Dd14 fun y39 =>
 .ite (y39.2.1 != 0)
 (.ok (((#[].toList, #[].toList, ()), y39.2.1, ())))
 (.need (inb (w64 (w64 (len c.1.2.1 - 1) - 1)) (len c.1.2.1)) <| .call (S_c_integer (gi c.1.2.1 (w64 (w64 (len c.1.2.1 - 1) - 1)) 0, ())) Dd19 fun y40 =>
 .call (S_f_Add (y40.1, (y39.1.1, y39.1.2.1, ()), ())) Dd14 fun y41 =>
 .ite (y41.2.1 != 0)
 (.ok (((#[].toList, #[].toList, ()), y41.2.1, ())))
 (.call (S_c_integer (65535, ())) Dd19 fun y42 =>
 .call (S_f_Div ((y41.1.1, y41.1.2.1, ()), y42.1, ())) Dd14 fun y43 =>
 .ok (((y43.1.1, y43.1.2.1, ()), y43.2.1, ()))))))
 (.ite (decide (y3.1 < w64 (w64 (len c.1.2.1 - 1) - 1)))
 (.call (S_c_integer (y3.1, ())) Dd19 fun y44 =>
 .call (S_f_Sub ((y1.1.1, y1.1.2.1, ()), y44.1, ())) Dd14 fun y45 =>
 .ite (y45.2.1 != 0)
 (.ok (((#[].toList, #[].toList, ()), y45.2.1, ())))
 (.need (inb (w64 (y3.1 + 1)) (len c.1.2.1)) <| .need (inb y3.1 (len c.1.2.1)) <| .call (S_c_integer (w64 (gi c.1.2.1 (w64 (y3.1 + 1)) 0 - gi c.1.2.1 y3.1 0), ())) Dd19 fun y46 =>
 .call (S_f_Mul (y46.1, (y45.1.1, y45.1.2.1, ()), ())) Dd14 fun y47 =>
 .ite (y47.2.1 != 0)
 (.ok (((#[].toList, #[].toList, ()), y47.2.1, ())))
 (.need (inb y3.1 (len c.1.2.1)) <| .call (S_c_integer (gi c.1.2.1 y3.1 0, ())) Dd19 fun y48 =>
 .call (S_f_Add (y48.1, (y47.1.1, y47.1.2.1, ()), ())) Dd14 fun y49 =>
 .ite (y49.2.1 != 0)
 (.ok (((#[].toList, #[].toList, ()), y49.2.1, ())))
 (.call (S_c_integer (65535, ())) Dd19 fun y50 =>
 .call (S_f_Div ((y49.1.1, y49.1.2.1, ()), y50.1, ())) Dd14 fun y51 =>
 .ok (((y51.1.1, y51.1.2.1, ()), y51.2.1, ()))))))
 (.ite (decide (y3.1 > w64 (w64 (len c.1.2.1 - 1) - 1)))
 (.call (S_c_integer (w64 (w64 (len c.1.2.1 - 1) - 1), ())) Dd19 fun y52 =>
 .call (S_f_Sub ((y1.1.1, y1.1.2.1, ()), y52.1, ())) Dd14 fun y53 =>
 .ite (y53.2.1 != 0)
 (.ok (((#[].toList, #[].toList, ()), y53.2.1, ())))
 (.need (inb (w64 (w64 (w64 (len c.1.2.1 - 1) - 1) + 1)) (len c.1.2.1)) <| .need (inb (w64 (w64 (len c.1.2.1 - 1) - 1)) (len c.1.2.1)) <| .call (S_c_integer (w64 (gi c.1.2.1 (w64 (w64 (w64 (len c.1.2.1 - 1) - 1) + 1)) 0 - gi c.1.2.1 (w64 (w64 (len c.1.2.1 - 1) - 1)) 0), ())) Dd19 fun y54 =>
 .call (S_f_Mul (y54.1, (y53.1.1, y53.1.2.1, ()), ())) Dd14 fun y55 =>
 .ite (y55.2.1 != 0)
 (.ok (((#[].toList, #[].toList, ()), y55.2.1, ())))
 (.need (inb (w64 (w64 (len c.1.2.1 - 1) - 1)) (len c.1.2.1)) <| .call (S_c_integer (gi c.1.2.1 (w64 (w64 (len c.1.2.1 - 1) - 1)) 0, ())) Dd19 fun y56 =>
 .call (S_f_Add (y56.1, (y55.1.1, y55.1.2.1, ()), ())) Dd14 fun y57 =>
 .ite (y57.2.1 != 0)
 (.ok (((#[].toList, #[].toList, ()), y57.2.1, ())))
 (.call (S_c_integer (65535, ())) Dd19 fun y58 =>
 .call (S_f_Div ((y57.1.1, y57.1.2.1, ()), y58.1, ())) Dd14 fun y59 =>
 .ok (((y59.1.1, y59.1.2.1, ()), y59.2.1, ()))))))
 (.call (S_c_integer (y3.1, ())) Dd19 fun y60 =>
 .call (S_f_Sub ((y1.1.1, y1.1.2.1, ()), y60.1, ())) Dd14 fun y61 =>
 .ite (y61.2.1 != 0)
 (.ok (((#[].toList, #[].toList, ()), y61.2.1, ())))
 (.need (inb (w64 (y3.1 + 1)) (len c.1.2.1)) <| .need (inb y3.1 (len c.1.2.1)) <| .call (S_c_integer (w64 (gi c.1.2.1 (w64 (y3.1 + 1)) 0 - gi c.1.2.1 y3.1 0), ())) Dd19 fun y62 =>
 .call (S_f_Mul (y62.1, (y61.1.1, y61.1.2.1, ()), ())) Dd14 fun y63 =>
 .ite (y63.2.1 != 0)
 (.ok (((#[].toList, #[].toList, ()), y63.2.1, ())))
 (.need (inb y3.1 (len c.1.2.1)) <| .call (S_c_integer (gi c.1.2.1 y3.1 0, ())) Dd19 fun y64 =>
 .call (S_f_Add (y64.1, (y63.1.1, y63.1.2.1, ()), ())) Dd14 fun y65 =>
 .ite (y65.2.1 != 0)
 (.ok (((#[].toList, #[].toList, ()), y65.2.1, ())))
 (.call (S_c_integer (65535, ())) Dd19 fun y66 =>
 .call (S_f_Div ((y65.1.1, y65.1.2.1, ()), y66.1, ())) Dd14 fun y67 =>
 .ok (((y67.1.1, y67.1.2.1, ()), y67.2.1, ())))))))))
def cc_table_t_k2 (y1 : ((List UInt8) × (List UInt8) × Unit) × (Int) × Unit) (c : (Int × List Int × List (Int × Int × Int × Int × Int × Int × Unit) × Unit) × Unit) : TT ((List UInt8 × List UInt8 × Unit) × Int × Unit) :=
 .call (S_c_integer (0, ())) Dd19 fun y4 =>
 .call (S_f_Sub ((y1.1.1, y1.1.2.1, ()), y4.1, ())) Dd14 fun y5 =>
 .ite (y5.2.1 != 0)
 (.ok (((#[].toList, #[].toList, ()), y5.2.1, ())))
 (.need (inb (w64 (0 + 1)) (len c.1.2.1)) <| .need (asT Int 0 ≤ 0 ∧ 0 < len c.1.2.1) <| .call (S_c_integer (w64 (gi c.1.2.1 (w64 (0 + 1)) 0 - gi c.1.2.1 0 0), ())) Dd19 fun y6 =>
 .call (S_f_Mul (y6.1, (y5.1.1, y5.1.2.1, ()), ())) Dd14 fun y7 =>
 .ite (y7.2.1 != 0)
 (.ok (((#[].toList, #[].toList, ()), y7.2.1, ())))
 (.need (asT Int 0 ≤ 0 ∧ 0 < len c.1.2.1) <| .call (S_c_integer (gi c.1.2.1 0 0, ())) Dd19 fun y8 =>
 .call (S_f_Add (y8.1, (y7.1.1, y7.1.2.1, ()), ())) Dd14 fun y9 =>
 .ite (y9.2.1 != 0)
 (.ok (((#[].toList, #[].toList, ()), y9.2.1, ())))
 (.call (S_c_integer (65535, ())) Dd19 fun y10 =>
 .call (S_f_Div ((y9.1.1, y9.1.2.1, ()), y10.1, ())) Dd14 fun y11 =>
 .ok (((y11.1.1, y11.1.2.1, ()), y11.2.1, ())))))
def cc_table_t (c : (Int × List Int × List (Int × Int × Int × Int × Int × Int × Unit) × Unit) × Unit) (x : List UInt8 × List UInt8 × Unit) : TT ((List UInt8 × List UInt8 × Unit) × Int × Unit) :=
 .call (S_c_integer (w64 (len c.1.2.1 - 1), ())) Dd19 fun y =>
 .call (S_f_Mul ((x.1, x.2.1, ()), y.1, ())) Dd14 fun y1 =>
 .ite (y1.2.1 != 0)
 (.ok (((#[].toList, #[].toList, ()), y1.2.1, ())))
 (.call (S_f_Floor ((y1.1.1, y1.1.2.1, ()), ())) Dd11 fun y2 =>
  .ite (y2.2.1 != 0)
  (.ok (((#[].toList, #[].toList, ()), y2.2.1, ())))
  (.call (S_atoi (y2.1, ())) Dd29 fun y3 =>
   .ite (y3.2.1)
   (.tt <| .tt <| .tt <| .tt <| .tt <| .tt <| .tt <| .tt <| .ite (y3.1 != y3.1)
    (cc_table_t_k2 y1 c)
    (.ite (decide (y3.1 < 0))
     (cc_table_t_k2 y1 c)
     (.ite (decide (y3.1 > 0))
      (cc_table_t_k1 y3 c y1)
      (cc_table_t_k1 y3 c y1))))
   (.tt <| .tt <| .tt <| .tt <| .tt <| .tt <| .tt <| .tt <| .ite (y3.1 != y3.1)
    (cc_table_t_k2 y1 c)
    (.ite (decide (y3.1 < 0))
     (cc_table_t_k2 y1 c)
     (.ite (decide (y3.1 > 0))
      (cc_table_t_k1 y3 c y1)
      (cc_table_t_k1 y3 c y1))))))
end
end Go.Vs
