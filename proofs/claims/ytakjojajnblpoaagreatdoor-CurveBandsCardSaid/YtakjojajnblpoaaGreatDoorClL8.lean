/-
  Trees of what the functions compute, and their laws. Own work; no condition.
-/
import Derived.Test.YtakjojajnblpoaaGreatDoorClL7
import Derived.Test.YtakjojajnblpoaaGreatDoorProg
set_option linter.unusedVariables false
set_option linter.unusedSimpArgs false
set_option maxRecDepth 100000
namespace Go.Vs
open Go Go.Vg Go.Proofs
noncomputable section
def axK : LTab := [(128, 14, 17409, ⟨0, (Int) × (Int) × Bool × (List uv) × Unit, .dat (.s 9) uq <| .dat (.s 3) uq <| .appN (.c 4 0) 17 53 sb <| .nil, [8, 7, 0], [11, 7, 4, 3, 2, 1, 0], 1⟩)]
def ae9 (x : Int × Int × Unit) (c : uw × Unit) (i : (Int) × (Int) × Bool × (List uv) × Unit) : TT tE :=
 .ite (decide (x.1 > w64 ((gi c.1.2.2.1 i.1 (0, 0, 0, 0, 0, 0, ())).1 * 1000000)))
 (.tt <| .lt (w64 (i.1 + 1) : Int) fun z15 => .lt ((gi c.1.2.2.1 i.1 (0, 0, 0, 0, 0, 0, ())).1 : Int) fun z16 => .lt (i.2.2.2.1 : List uv) fun z17 => .vW (ue z16 z15 (len c.1.2.2.1) c.1.2.2.1 <| tP ∧ True) <| .vW (vV (ua 53 z17) <| vV (ul (LoopState.ready : LoopState) (none : Option Code) 64 (#[13] : Array Tmp) (ap4 (aeB Tryz.f58) [1, 1, 0, 1, 0, 0]) (ap4 (aeB Tryz.f58) [1, 1, 0, 1, 0, 1]) <| (vX (128 : FuncId) <| True ∧ tQ ∧ True) ∧ (vX ((c.1.1, c.1.2.1, c.1.2.2.1, ()) : Int × List Int × List uo × Unit) <| ux ∧ tk ∧ uM ∧ uK ∧ uD ∧ ux ∧ ui c x)) <| vV (vY 42 c.1.1 c.1.2.1 c.1.2.2.1) <| vV (vX 169 <| (ub 17 0 (List.length z17) true) ∧ True) <| vV tT <| vV uz <| vV (vZ 53 x.1 x.2.1) <| vV (vY 96 c.1.1 c.1.2.1 c.1.2.2.1) True) <| .ok (.inl ((z15, z16, false, z17, ()))))
 (.call (aeP ((((gi c.1.2.2.1 i.1 (0, 0, 0, 0, 0, 0, ())).1, (gi c.1.2.2.1 i.1 (0, 0, 0, 0, 0, 0, ())).2.1, (gi c.1.2.2.1 i.1 (0, 0, 0, 0, 0, 0, ())).2.2.1, (gi c.1.2.2.1 i.1 (0, 0, 0, 0, 0, 0, ())).2.2.2.1, (gi c.1.2.2.1 i.1 (0, 0, 0, 0, 0, 0, ())).2.2.2.2.1, (gi c.1.2.2.1 i.1 (0, 0, 0, 0, 0, 0, ())).2.2.2.2.2.1, ()), i.2.1, i.1 == 0, ()), if w64 (i.2.1 * 1000000) > x.1 then w64 (i.2.1 * 1000000) else x.1, if w64 ((gi c.1.2.2.1 i.1 (0, 0, 0, 0, 0, 0, ())).1 * 1000000) < x.2.1 then w64 ((gi c.1.2.2.1 i.1 (0, 0, 0, 0, 0, 0, ())).1 * 1000000) else x.2.1, ())) am9 fun y3 =>
 .ite (y3.2.1 != 0)
 (.ok (.inr (((0, 0, ()), y3.2.1, ()))))
 (.need ((List.length i.2.2.2.1 + 1) * 16 ≤ 140737488355328) <| .tt <| .lt (w64 (i.1 + 1) : Int) fun z18 => .lt ((gi c.1.2.2.1 i.1 (0, 0, 0, 0, 0, 0, ())).1 : Int) fun z19 => .lt (List.take (List.length i.2.2.2.1) i.2.2.2.1 ++ [(y3.1.1, y3.1.2.1, ())] : List uv) fun z20 => .vW (ue z19 z18 (len c.1.2.2.1) c.1.2.2.1 <| tP ∧ True) <| .need ((((53 : TypeId) = 53) ∧ ((z20 : List uv) = z20)) ∧ (true = true) ∧ (((LoopState.ready : LoopState) = LoopState.ready) ∧ (((none : Option Code) = none) ∧ (((64) = (64)) ∧ (((#[13] : Array Tmp) = #[13]) ∧ (((ap4 (aeB Tryz.f58) [1, 1, 0, 1, 0, 0]) = (ap4 (aeB Tryz.f58) [1, 1, 0, 1, 0, 0])) ∧ (((ap4 (aeB Tryz.f58) [1, 1, 0, 1, 0, 1]) = (ap4 (aeB Tryz.f58) [1, 1, 0, 1, 0, 1])) ∧ ((((128 : FuncId) = 128) ∧ (True ∧ ((((7) = (7)) ∧ (((0) = (0)) ∧ ((true) = (true)))) ∧ True))) ∧ ((((c.1.1, c.1.2.1, c.1.2.2.1, ()) : Int × List Int × List uo × Unit) = (c.1.1, c.1.2.1, c.1.2.2.1, ())) ∧ ((((0) = (0)) ∧ (((0) = (0)) ∧ ((true) = (true)))) ∧ ((((4) = (4)) ∧ (((0) = (0)) ∧ ((true) = (true)))) ∧ ((((3) = (3)) ∧ (((0) = (0)) ∧ ((true) = (true)))) ∧ ((((2) = (2)) ∧ (((0) = (0)) ∧ ((true) = (true)))) ∧ ((((1) = (1)) ∧ (((0) = (0)) ∧ ((true) = (true)))) ∧ ((((0) = (0)) ∧ (((0) = (0)) ∧ ((true) = (true)))) ∧ (((c) = (c)) ∧ (((x) = (x)) ∧ True)))))))))))))))) ∧ (true = true) ∧ (((42 : TypeId) = 42) ∧ (((c.1.1 : Int) = c.1.1) ∧ (((c.1.2.1 : List Int) = c.1.2.1) ∧ (((c.1.2.2.1 : List uo) = c.1.2.2.1) ∧ True)))) ∧ (true = true) ∧ (((169 : TypeId) = 169) ∧ ((((17) = (17)) ∧ (((0) = (0)) ∧ ((List.length i.2.2.2.1 + 1 = List.length z20) ∧ ((true) = (true))))) ∧ True)) ∧ (true = true) ∧ (((48 : TypeId) = 48) ∧ (((0 : Int) = 0) ∧ True)) ∧ (true = true) ∧ (((53 : TypeId) = 53) ∧ (((0 : Int) = 0) ∧ (((0 : Int) = 0) ∧ True))) ∧ (true = true) ∧ (((53 : TypeId) = 53) ∧ (((x.1 : Int) = x.1) ∧ (((x.2.1 : Int) = x.2.1) ∧ True))) ∧ (true = true) ∧ (((96 : TypeId) = 96) ∧ (((c.1.1 : Int) = c.1.1) ∧ (((c.1.2.1 : List Int) = c.1.2.1) ∧ (((c.1.2.2.1 : List uo) = c.1.2.2.1) ∧ True)))) ∧ (true = true) ∧ True) <| .ok (.inl ((z18, z19, false, z20, ())))))
def ae8 (x : Int × Int × Unit) (c : uw × Unit) (i : (Int) × (Int) × Bool × (List uv) × Unit) : TT tE :=
 .ite (decide (x.1 > w64 ((gi c.1.2.2.1 i.1 (0, 0, 0, 0, 0, 0, ())).1 * 1000000)))
 (.tt <| .lt (w64 (i.1 + 1) : Int) fun z2 => .lt ((gi c.1.2.2.1 i.1 (0, 0, 0, 0, 0, 0, ())).1 : Int) fun z3 => .vW (ue z3 z2 (len c.1.2.2.1) c.1.2.2.1 <| tP ∧ True) <| .vW (vV (ul (LoopState.ready : LoopState) (none : Option Code) 64 (#[13] : Array Tmp) (ap4 (aeB Tryz.f58) [1, 1, 0, 1, 0, 0]) (ap4 (aeB Tryz.f58) [1, 1, 0, 1, 0, 1]) <| (vX (128 : FuncId) <| True ∧ tQ ∧ True) ∧ (vX ((c.1.1, c.1.2.1, c.1.2.2.1, ()) : Int × List Int × List uo × Unit) <| ux ∧ tk ∧ uM ∧ uK ∧ uD ∧ ux ∧ ui c x)) <| vV (vY 42 c.1.1 c.1.2.1 c.1.2.2.1) <| vV sE <| vV tT <| vV uz <| vV (vZ 53 x.1 x.2.1) <| vV (vY 96 c.1.1 c.1.2.1 c.1.2.2.1) True) <| .ok (.inl ((z2, z3, true, [], ()))))
 (.call (aeP ((((gi c.1.2.2.1 i.1 (0, 0, 0, 0, 0, 0, ())).1, (gi c.1.2.2.1 i.1 (0, 0, 0, 0, 0, 0, ())).2.1, (gi c.1.2.2.1 i.1 (0, 0, 0, 0, 0, 0, ())).2.2.1, (gi c.1.2.2.1 i.1 (0, 0, 0, 0, 0, 0, ())).2.2.2.1, (gi c.1.2.2.1 i.1 (0, 0, 0, 0, 0, 0, ())).2.2.2.2.1, (gi c.1.2.2.1 i.1 (0, 0, 0, 0, 0, 0, ())).2.2.2.2.2.1, ()), i.2.1, i.1 == 0, ()), if w64 (i.2.1 * 1000000) > x.1 then w64 (i.2.1 * 1000000) else x.1, if w64 ((gi c.1.2.2.1 i.1 (0, 0, 0, 0, 0, 0, ())).1 * 1000000) < x.2.1 then w64 ((gi c.1.2.2.1 i.1 (0, 0, 0, 0, 0, 0, ())).1 * 1000000) else x.2.1, ())) am9 fun y =>
 .ite (y.2.1 != 0)
 (.ok (.inr (((0, 0, ()), y.2.1, ()))))
 (.need (1 * 16 ≤ 140737488355328) <| .tt <| .lt (w64 (i.1 + 1) : Int) fun z4 => .lt ((gi c.1.2.2.1 i.1 (0, 0, 0, 0, 0, 0, ())).1 : Int) fun z5 => .lt ([(y.1.1, y.1.2.1, ())] : List uv) fun z6 => .vW (ue z5 z4 (len c.1.2.2.1) c.1.2.2.1 <| tP ∧ True) <| .vW (vV (ua 53 z6) <| vV (ul (LoopState.ready : LoopState) (none : Option Code) 64 (#[13] : Array Tmp) (ap4 (aeB Tryz.f58) [1, 1, 0, 1, 0, 0]) (ap4 (aeB Tryz.f58) [1, 1, 0, 1, 0, 1]) <| (vX (128 : FuncId) <| True ∧ tQ ∧ True) ∧ (vX ((c.1.1, c.1.2.1, c.1.2.2.1, ()) : Int × List Int × List uo × Unit) <| ux ∧ tk ∧ uM ∧ uK ∧ uD ∧ ux ∧ ui c x)) <| vV (vY 42 c.1.1 c.1.2.1 c.1.2.2.1) <| vV (vX 169 <| (ub 17 0 1 true) ∧ True) <| vV tT <| vV uz <| vV (vZ 53 x.1 x.2.1) <| vV (vY 96 c.1.1 c.1.2.1 c.1.2.2.1) True) <| .ok (.inl ((z4, z5, false, z6, ())))))
def ak0 (c : uw × Unit) (x : Int × Int × Unit) (i : (Int) × (Int) × Bool × (List uv) × Unit) : TT tE :=
 .ite (i.2.2.1)
 (.ite (decide (i.1 < len c.1.2.2.1))
  (.need (inb i.1 (len c.1.2.2.1)) <| .ite (!i.1 == 0)
   (.ite (decide (x.2.1 ≤ w64 (i.2.1 * 1000000)))
    (.tt <| .lt (w64 (i.1 + 1) : Int) fun z => .lt ((gi c.1.2.2.1 i.1 (0, 0, 0, 0, 0, 0, ())).1 : Int) fun z1 => .vW (ue z1 z (len c.1.2.2.1) c.1.2.2.1 <| tP ∧ True) <| .vW (vV (ul (LoopState.ready : LoopState) (none : Option Code) 64 (#[13] : Array Tmp) (ap4 (aeB Tryz.f58) [1, 1, 0, 1, 0, 0]) (ap4 (aeB Tryz.f58) [1, 1, 0, 1, 0, 1]) <| (vX (128 : FuncId) <| True ∧ tQ ∧ True) ∧ (vX ((c.1.1, c.1.2.1, c.1.2.2.1, ()) : Int × List Int × List uo × Unit) <| ux ∧ tk ∧ uM ∧ uK ∧ uD ∧ ux ∧ ui c x)) <| vV (vY 42 c.1.1 c.1.2.1 c.1.2.2.1) <| vV sE <| vV tT <| vV uz <| vV (vZ 53 x.1 x.2.1) <| vV (vY 96 c.1.1 c.1.2.1 c.1.2.2.1) True) <| .ok (.inl ((z, z1, true, [], ()))))
    (ae8 x c i))
   (ae8 x c i))
  (.call (aj2 ([], ())) am9 fun y2 =>
   .ok (.inr (((y2.1.1, y2.1.2.1, ()), y2.2.1, ())))))
 (.ite (decide (i.1 < len c.1.2.2.1))
  (.need (inb i.1 (len c.1.2.2.1)) <| .ite (!i.1 == 0)
   (.ite (decide (x.2.1 ≤ w64 (i.2.1 * 1000000)))
    (.tt <| .lt (w64 (i.1 + 1) : Int) fun z12 => .lt ((gi c.1.2.2.1 i.1 (0, 0, 0, 0, 0, 0, ())).1 : Int) fun z13 => .lt (i.2.2.2.1 : List uv) fun z14 => .vW (ue z13 z12 (len c.1.2.2.1) c.1.2.2.1 <| tP ∧ True) <| .vW (vV (ua 53 z14) <| vV (ul (LoopState.ready : LoopState) (none : Option Code) 64 (#[13] : Array Tmp) (ap4 (aeB Tryz.f58) [1, 1, 0, 1, 0, 0]) (ap4 (aeB Tryz.f58) [1, 1, 0, 1, 0, 1]) <| (vX (128 : FuncId) <| True ∧ tQ ∧ True) ∧ (vX ((c.1.1, c.1.2.1, c.1.2.2.1, ()) : Int × List Int × List uo × Unit) <| ux ∧ tk ∧ uM ∧ uK ∧ uD ∧ ux ∧ ui c x)) <| vV (vY 42 c.1.1 c.1.2.1 c.1.2.2.1) <| vV (vX 169 <| (ub 17 0 (List.length z14) true) ∧ True) <| vV tT <| vV uz <| vV (vZ 53 x.1 x.2.1) <| vV (vY 96 c.1.1 c.1.2.1 c.1.2.2.1) True) <| .ok (.inl ((z12, z13, false, z14, ()))))
    (ae9 x c i))
   (ae9 x c i))
  (.call (aj2 (List.take (List.length i.2.2.2.1) i.2.2.2.1, ())) am9 fun y5 =>
   .ok (.inr (((y5.1.1, y5.1.2.1, ()), y5.2.1, ())))))
def ahX (c : uw × Unit) (x : Int × Int × Unit) : TT uH :=
 .tt <| .tt <| .tt <| .tt <| .loop 0 (.tt <| .vW (ue (0 : Int) (0 : Int) (len c.1.2.2.1) c.1.2.2.1 <| tP ∧ True) <| .vW (vV (ul (LoopState.ready : LoopState) (none : Option Code) 64 (#[13] : Array Tmp) (ap4 (aeB Tryz.f58) [1, 1, 0, 1, 0, 0]) (ap4 (aeB Tryz.f58) [1, 1, 0, 1, 0, 1]) <| (vX (128 : FuncId) <| True ∧ tQ ∧ True) ∧ (vX ((c.1.1, c.1.2.1, c.1.2.2.1, ()) : Int × List Int × List uo × Unit) <| ux ∧ tk ∧ uM ∧ uK ∧ uD ∧ ux ∧ ui c x)) <| vV (vY 42 c.1.1 c.1.2.1 c.1.2.2.1) <| vV sE <| vV tT <| vV uz <| vV (vZ 53 x.1 x.2.1) <| vV (vY 96 c.1.1 c.1.2.1 c.1.2.2.1) True) <| .ok ((0, 0, true, [], ()))) (ak0 c x)
end
open Go Go.Vg
theorem aqL : ∀ (l : List adI) (last : Int), ahJ last l → ∀ j, j < l.length → last < (l.getD j zs).1 ∧ (j + 1 < l.length → (l.getD j zs).1 < (l.getD (j + 1) zs).1)
 | [], _, _, j, hj => by cases hj
 | s :: r, last, h, 0, _ => by
  refine ⟨by have := h.1.2.1; show last < s.1; omega, fun h2 => ?_⟩
  have := (aqL r s.1 h.2 0 (by simpa using h2)).1
  exact this
 | s :: r, last, h, j + 1, hj => by
  have := aqL r s.1 h.2 j (by simpa using hj)
  refine ⟨by have := h.1.2.1; have := this; show last < (r.getD j zs).1; omega, fun h2 => this.2 (by simpa using h2)⟩
theorem aUa {l : List adI} (h : acA l) {i j : Nat} (hij : i < j) (hj : j < l.length) : (l.getD i zs).1 < (l.getD j zs).1 := by
 induction j with
 | zero => omega
 | succ j ih =>
  have h1 := (aqL l 0 h.2.2 j zc).2 hj
  rcases zr i j with g | g
  ·have := ih g zc; omega
  ·obtain rfl : i = j := zc
   exact h1
theorem akP {n : Int} {l : List adI} (h : acA l) (hn : inU n) : aaY n l < l.length ∧ n ≤ (l.getD (aaY n l) zs).1 * 1000000 ∧ ∀ j, j < aaY n l → ¬ n ≤ (l.getD j zs).1 * 1000000 := by
 have h1 : aaY n l < l.length := by
  obtain ⟨s, hs, e⟩ := aqM l 0 h.2.2 zc
  exact List.findIdx_lt_length_of_exists ⟨s, hs, zo (by rw [e]; exact hn.2)⟩
 refine ⟨h1, ?_, fun j hj => ?_⟩
 ·have := List.findIdx_getElem (p := fun s : adI => decide (n ≤ s.1 * 1000000)) (xs := l) (w := h1)
  rw [avB h1]
  exact of_decide_eq_true this
 ·have := List.not_of_lt_findIdx (p := fun s : adI => decide (n ≤ s.1 * 1000000)) (xs := l) hj
  rw [avB (show j < l.length by omega)]
  simpa using this
theorem agR {n : Int} {l : List adI} (h : acA l) (hn : inU n) {k : Nat} (hk : k < l.length) : n ≤ (l.getD k zs).1 * 1000000 ↔ aaY n l ≤ k := by
 obtain ⟨h1, h2, h3⟩ := akP h hn
 constructor
 ·intro g
  rcases zr k (aaY n l) with c | c
  ·exact absurd g (h3 k c)
  ·exact c
 ·intro g
  rcases zr (aaY n l) k with c | c
  ·have := aUa h c hk; omega
  ·obtain rfl : aaY n l = k := zc
   exact h2
theorem agZ {n : Int} {l : List adI} (h : acA l) (hn : inU n) {k : Nat} (hk0 : k ≠ 0) (hk : k < l.length) : n ≤ abC l k * 1000000 ↔ aaY n l < k := by
 unfold abC
 rw [if_neg hk0, agR h hn (show k - 1 < l.length by omega)]
 omega
theorem aDb {l : List adI} (h : acA l) {k : Nat} (hk : k ≤ l.length) : inR (abC l k) 0 1000000 := by
 unfold abC
 split
 ·exact ⟨by omega, by omega⟩
 ·exact (aqN h (show k - 1 < l.length by omega)).2
theorem aSk {s : adI} {a b : Int} (h : (auE s a b).2.1 = 0) : okB (auE s a b).1.1 (auE s a b).1.2.1 := by
 unfold auE at *
 generalize aH2 (auD s a b) s.2.2.2.1 s.2.2.2.2.1 = w at *
 by_cases c1 : w.2.1 = 0
 case neg => rw [if_pos c1] at h; exact absurd h c1
 rw [if_neg (fun h => h c1)] at h ⊢
 have hok := @aLq w.1 (s.2.2.2.2.2.1 * 1000000, s.2.2.2.2.2.1 * 1000000, ())
 generalize aKh w.1 (s.2.2.2.2.2.1 * 1000000, s.2.2.2.2.2.1 * 1000000, ()) = z at *
 by_cases c2 : z.2.1 = 0
 case neg => rw [if_pos c2] at h; exact absurd h c2
 rw [if_neg (fun h => h c2)]
 obtain ⟨o1, o2, o3⟩ := hok c2
 unfold am6 okB
 dsimp only
 omega
theorem aKl {p : PcT} {lo hi : Int} (h1 : adL p.1) (h2 : inU lo) (h3 : inU hi) : aeP (p, lo, hi, ()) = some (auE p.1 lo hi) := by
 unfold aeP; exact if_pos ⟨h1, h2, h3⟩
theorem ajS (l : List adI) (lo hi : Int) (n k : Nat) (acc : List BdT) : arH l lo hi (n + 1) k acc = if (am8 l lo hi k).2.1 ≠ 0 then ((0, 0, ()), (am8 l lo hi k).2.1, ()) else arH l lo hi n (k + 1) (acc ++ [(am8 l lo hi k).1]) := rfl
theorem as2 (c : CvT × Unit) (x : BdT) (y) (h : adX (c, x, ()) = some y) : (ahX c x).toO = some y := by
 unfold adX at h
 split at h
 case isFalse => cases h
 case isTrue hp =>
 obtain ⟨hl, hlo, hhi, hle⟩ := hp
 dsimp only at hl hlo hhi hle h
 injection h with h
 subst h
 obtain ⟨⟨kind, tab, l, u0⟩, u1⟩ := c
 obtain ⟨lo, hi, u2⟩ := x
 dsimp only at hl hlo hhi hle ⊢
 have hlen := hl.2.1
 obtain ⟨pf1, pf2, pf3⟩ := akP hl hlo
 obtain ⟨pl1, pl2, pl3⟩ := akP hl hhi
 have hfl : aaY lo l ≤ aaY hi l := (agR hl hlo pl1).1 zc
 have hlo1 := hlo.1
 have hlo2 := hlo.2
 have hhi1 := hhi.1
 have hhi2 := hhi.2
 unfold ahX
 refine uO (0, 0, true, [], ()) rfl ?_
 refine aaK (fun i : Int × Int × Bool × List BdT × Unit => ∃ (k : Nat) (acc : List BdT), k ≤ l.length ∧ i = ((k : Int), abC l k, acc.isEmpty, acc, ()) ∧ (k ≤ aaY lo l → acc = []) ∧ (aaY lo l < k → acc ≠ []) ∧ acc.length ≤ k ∧ (∀ b ∈ acc, okB b.1 b.2.1) ∧ aoG l lo hi = arH l lo hi (aaY hi l + 1 - max k (aaY lo l)) (max k (aaY lo l)) acc) (fun i => ((l.length : Int) - i.1).toNat) (fun _ => aoG l lo hi) ?_ _ ⟨0, [], by omega, rfl, fun _ => rfl, fun h => by omega, by simp, by simp, by unfold aoG; rw [show max 0 (aaY lo l) = aaY lo l by omega]⟩
 rintro i ⟨k, acc, k1, rfl, k2, k3, k4, k5, k6⟩
 simp only [ak0, ae8, ae9, aaL]
 rcases zr k l.length with hk | hk
 ·obtain ⟨hn, ht1, ht2⟩ := aqN hl hk
  obtain ⟨hb1, hb2⟩ := aDb hl k1
  have hb3 : abC l (k + 1) = (l.getD k zs).1 := by unfold abC; rw [if_neg zc, xB]
  have hpf := agR hl hlo hk
  have hpl := agR hl hhi hk
  have wb : w64 (abC l k * 1000000) = abC l k * 1000000 := aaA zc
  have wt : w64 ((l.getD k zs).1 * 1000000) = (l.getD k zs).1 * 1000000 := aaA zc
  have wk : w64 ((k : Int) + 1) = ((k + 1 : Nat) : Int) := by rw [aaA zc]; omega
  have e1 : (if abC l k * 1000000 > lo then abC l k * 1000000 else lo) = max lo (abC l k * 1000000) := by split <;> omega
  have e2 : (if (l.getD k zs).1 * 1000000 < hi then (l.getD k zs).1 * 1000000 else hi) = min hi ((l.getD k zs).1 * 1000000) := by split <;> omega
  have hcall : ∀ b : Bool, aeP ((l.getD k zs, abC l k, b, ()), (if abC l k * 1000000 > lo then abC l k * 1000000 else lo), (if (l.getD k zs).1 * 1000000 < hi then (l.getD k zs).1 * 1000000 else hi), ()) = some (am8 l lo hi k) := by
   intro b
   rw [e1, e2]
   exact aKl (p := (l.getD k zs, abC l k, b, ())) hn ⟨by omega, by omega⟩ ⟨by omega, by omega⟩
  have hok : (am8 l lo hi k).2.1 = 0 → okB (am8 l lo hi k).1.1 (am8 l lo hi k).1.2.1 := aSk
  rw [wb, wt, wk]
  by_cases ha : acc = []
  ·subst ha
   have hkf : k ≤ aaY lo l := by
    rcases zr (aaY lo l) k with g | g
    ·exact absurd rfl (k3 g)
    ·exact g
   refine (fun (hskip : k < aaY lo l → ((l.getD k zs).1 * 1000000 < lo)) (hcallc : ¬ k < aaY lo l → ¬ (l.getD k zs).1 * 1000000 < lo) => ?_) (fun g => by omega) (fun g => by omega)
   rw [show max k (aaY lo l) = aaY lo l by omega] at k6
   by_cases hkf2 : k < aaY lo l
   ·left
    refine ⟨(((k + 1 : Nat) : Int), (l.getD k zs).1, true, [], ()), ?_, ⟨k + 1, [], by omega, by rw [hb3]; rfl, fun _ => rfl, fun g => by omega, by simp, by simp, by rw [show max (k + 1) (aaY lo l) = aaY lo l by omega]; exact k6⟩, by dsimp only; omega, ze⟩
    refine uT rfl (uT (zo (by rw [aaB]; omega)) (uN ⟨by omega, by rw [aaB]; omega⟩ ?_))
    by_cases h0 : k = 0
    ·exact uF (by rw [h0]; rfl) (uT (zo (hskip hkf2)) rfl)
    ·have hbl := agZ hl hhi h0 hk
     exact uT (by rw [zT, beq_eq_false_iff_ne]; omega) (uF sd (uT (zo (hskip hkf2)) rfl))
   ·obtain rfl : k = aaY lo l := zc
    obtain ⟨m, hm⟩ : ∃ m, aaY hi l + 1 - aaY lo l = m + 1 := ⟨aaY hi l - aaY lo l, by omega⟩
    rw [hm, ajS] at k6
    by_cases he : (am8 l lo hi (aaY lo l)).2.1 = 0
    ·rw [if_neg (fun h => h he)] at k6
     left
     refine ⟨(((aaY lo l + 1 : Nat) : Int), (l.getD (aaY lo l) zs).1, false, [(am8 l lo hi (aaY lo l)).1], ()), ?_, ⟨aaY lo l + 1, [(am8 l lo hi (aaY lo l)).1], by omega, by rw [hb3]; rfl, fun g => by omega, fun _ => by simp, by simp, fun b hb => by rw [ya.1 hb]; exact hok he, by rw [show max (aaY lo l + 1) (aaY lo l) = aaY lo l + 1 by omega, show aaY hi l + 1 - (aaY lo l + 1) = m by omega]; exact k6⟩, by dsimp only; omega, ze⟩
     refine uT rfl (uT (zo (by rw [aaB]; omega)) (uN ⟨by omega, by rw [aaB]; omega⟩ ?_))
     by_cases h0 : aaY lo l = 0
     ·exact uF (by rw [h0]; rfl) (uF (zn (hcallc hkf2)) (uC _ (hcall _) (uF (by rw [he]; rfl) (uN zf rfl))))
     ·have hbl := agZ hl hhi h0 hk
      exact uT (by rw [zT, beq_eq_false_iff_ne]; omega) (uF sd (uF (zn (hcallc hkf2)) (uC _ (hcall _) (uF (by rw [he]; rfl) (uN zf rfl)))))
    ·rw [if_pos he] at k6
     right
     rw [k6]
     refine uT rfl (uT (zo (by rw [aaB]; omega)) (uN ⟨by omega, by rw [aaB]; omega⟩ ?_))
     by_cases h0 : aaY lo l = 0
     ·exact uF (by rw [h0]; rfl) (uF (zn (hcallc hkf2)) (uC _ (hcall _) (uT (by simpa using he) rfl)))
     ·have hbl := agZ hl hhi h0 hk
      exact uT (by rw [zT, beq_eq_false_iff_ne]; omega) (uF sd (uF (zn (hcallc hkf2)) (uC _ (hcall _) (uT (by simpa using he) rfl))))
  ·have hkf : aaY lo l < k := by
    rcases zr (aaY lo l) k with g | g
    ·exact g
    ·exact absurd (k2 g) ha
   have hne : acc.isEmpty = false := by cases acc with | nil => exact absurd rfl ha | cons a b => rfl
   rw [show max k (aaY lo l) = k by omega] at k6
   have h0 : k ≠ 0 := zc
   have hbl := agZ hl hhi h0 hk
   by_cases hla : aaY hi l < k
   ·left
    refine ⟨(((k + 1 : Nat) : Int), (l.getD k zs).1, acc.isEmpty, acc, ()), ?_, ⟨k + 1, acc, by omega, by rw [hb3], fun g => by omega, fun _ => ha, by omega, k5, by rw [k6, show max (k + 1) (aaY lo l) = k + 1 by omega, show aaY hi l + 1 - k = 0 by omega, show aaY hi l + 1 - (k + 1) = 0 by omega]; rfl⟩, by dsimp only; omega, ze⟩
    rw [hne]
    exact uF rfl (uT (zo (by rw [aaB]; omega)) (uN ⟨by omega, by rw [aaB]; omega⟩ (uT (by rw [zT, beq_eq_false_iff_ne]; omega) (uT sd rfl))))
   ·obtain ⟨m, hm⟩ : ∃ m, aaY hi l + 1 - k = m + 1 := ⟨aaY hi l - k, by omega⟩
    rw [hm, ajS] at k6
    by_cases he : (am8 l lo hi k).2.1 = 0
    ·rw [if_neg (fun h => h he)] at k6
     left
     refine ⟨(((k + 1 : Nat) : Int), (l.getD k zs).1, false, acc ++ [(am8 l lo hi k).1], ()), ?_, ⟨k + 1, acc ++ [(am8 l lo hi k).1], by omega, by rw [hb3]; simp, fun g => by omega, fun _ => by simp, by simp; omega, fun b hb => ?_, by rw [show max (k + 1) (aaY lo l) = k + 1 by omega, show aaY hi l + 1 - (k + 1) = m by omega]; exact k6⟩, by dsimp only; omega, ze⟩
     ·rw [hne]
      refine uF rfl (uT (zo (by rw [aaB]; omega)) (uN ⟨by omega, by rw [aaB]; omega⟩ (uT (by rw [zT, beq_eq_false_iff_ne]; omega) (uF sd (uF sd (uC _ (hcall _) (uF (by rw [he]; rfl) (uN zc ?_))))))))
      refine uB (uB (uB (uN zi ?_)))
      rw [zt]; rfl
     ·rcases zJ.1 hb with g | g
      ·exact k5 b g
      ·rw [ya.1 g]; exact hok he
    ·rw [if_pos he] at k6
     right
     rw [k6, hne]
     exact uF rfl (uT (zo (by rw [aaB]; omega)) (uN ⟨by omega, by rw [aaB]; omega⟩ (uT (by rw [zT, beq_eq_false_iff_ne]; omega) (uF sd (uF sd (uC _ (hcall _) (uT (by simpa using he) rfl)))))))
 ·right
  have ha : acc ≠ [] := k3 zc
  have hne : acc.isEmpty = false := by cases acc with | nil => exact absurd rfl ha | cons a b => rfl
  rw [hne, k6, show aaY hi l + 1 - max k (aaY lo l) = 0 by omega]
  refine uF rfl (uF (zn (by rw [aaB]; omega)) (uC (ad4 acc, 0, ()) ?_ rfl))
  rw [zt]
  unfold aj2
  exact if_pos ⟨ha, by dsimp only; omega, k5⟩
set_option maxRecDepth 100000
open Go Go.Vg Go.Proofs
noncomputable section
def aOX : LTab := [(62, 250, 27648, ⟨0, (Int) × (Int) × (Int) × Unit, .dat (.s 12) uq <| .dat (.c 25 0) uq <| .dat (.c 25 1) uq <| .nil, [11, 6, 5, 4, 3], [25, 3, 2, 1, 0], 0⟩)]
def alZ (i : (Int) × (Int) × (Int) × Unit) (high : List UInt8 × List UInt8 × Unit) (low : List UInt8 × List UInt8 × Unit) (c : Int × List Int × List uo × Unit) : TT (tJ ⊕ sC) :=
 .tt <| .lt (w64 (i.1 + 1) : Int) fun z5 => .lt (i.2.1 : Int) fun z6 => .lt (i.2.2.1 : Int) fun z7 => .vW (vX z5 <| (uk 25 0 true) ∧ uM ∧ uK ∧ uD ∧ ux ∧ True) <| .vW (vV (vZ 53 z6 z7) <| vV uz <| vV (vZ 36 high.1 high.2.1) <| vV (vZ 36 low.1 low.2.1) <| vV (vY 42 c.1 c.2.1 c.2.2.1) True) <| .ok (.inl ((z5, z6, z7, ())))
def aB7 (c : Int × List Int × List uo × Unit) (low : List UInt8 × List UInt8 × Unit) (high : List UInt8 × List UInt8 × Unit) (y : ur × Int × Unit) (y1 : ur × Int × Unit) (y2 : uv × Unit) (y3 : uv × Unit) (y4 : uv × Unit) (i : (Int) × (Int) × (Int) × Unit) : TT (tJ ⊕ sC) :=
 .ite (decide (i.1 < len c.2.1))
 (.call (abT (i.1, w64 (len c.2.1 - 1), ())) ac5 fun y5 =>
  .call (agK ((low.1, low.2.1, ()), (y5.1.1, y5.1.2.1, ()), ())) Dd1 fun y6 =>
  .ite (y6.1)
  (.call (agK ((y5.1.1, y5.1.2.1, ()), (high.1, high.2.1, ()), ())) Dd1 fun y7 =>
   .ite (y7.1)
   (.need (inb i.1 (len c.2.1)) <| .call (abT (gi c.2.1 i.1 0, 65535, ())) ac5 fun y8 =>
    .call (adN (y8.1, ())) aOd fun y9 =>
    .call (ak7 ((i.2.1, i.2.2.1, ()), y9.1, ())) aOd fun y10 =>
    .tt <| .lt (w64 (i.1 + 1) : Int) fun z2 => .lt (y10.1.1 : Int) fun z3 => .lt (y10.1.2.1 : Int) fun z4 => .vW (vX z2 <| (uk 25 0 true) ∧ uM ∧ uK ∧ uD ∧ ux ∧ True) <| .vW (vV (vZ 53 z3 z4) <| vV uz <| vV (vZ 36 high.1 high.2.1) <| vV (vZ 36 low.1 low.2.1) <| vV (vY 42 c.1 c.2.1 c.2.2.1) True) <| .ok (.inl ((z2, z3, z4, ()))))
   (alZ i high low c))
  (alZ i high low c))
 (.ok (.inr (((i.2.1, i.2.2.1, ()), ()))))
def ayQ (c : Int × List Int × List uo × Unit) (low : List UInt8 × List UInt8 × Unit) (high : List UInt8 × List UInt8 × Unit) : TT sC :=
 .call (ahS ((c.1, c.2.1, c.2.2.1, ()), (low.1, low.2.1, ()), ())) adZ fun y =>
 .call (ahS ((c.1, c.2.1, c.2.2.1, ()), (high.1, high.2.1, ()), ())) adZ fun y1 =>
 .call (adN ((y.1.1, y.1.2.1, ()), ())) aOd fun y2 =>
 .call (adN ((y1.1.1, y1.1.2.1, ()), ())) aOd fun y3 =>
 .call (ak7 (y2.1, y3.1, ())) aOd fun y4 =>
 .loop 0 (.tt <| .lt (y4.1.1 : Int) fun z => .lt (y4.1.2.1 : Int) fun z1 => .vW (vX (0 : Int) <| (uk 25 0 true) ∧ uM ∧ uK ∧ uD ∧ ux ∧ True) <| .vW (vV (vZ 53 z z1) <| vV uz <| vV (vZ 36 high.1 high.2.1) <| vV (vZ 36 low.1 low.2.1) <| vV (vY 42 c.1 c.2.1 c.2.2.1) True) <| .ok ((0, z, z1, ()))) (aB7 c low high y y1 y2 y3 y4)
def aL4 : LTab := [(17, 4090, 36864, ⟨0, (Int) × (Int) × (Int) × Unit, .dat (.s 12) uq <| .dat (.c 33 0) uq <| .dat (.c 33 1) uq <| .nil, [11, 10, 9, 8, 7, 4, 2], [33, 21, 20, 2, 0], 0⟩)]
def afB (i : (Int) × (Int) × (Int) × Unit) (y6 : Int × Unit) (y10 : uQ × (Int) × Unit) (y7 : Int × Unit) (y4 : ur × Unit) (y3 : ur × Unit) (c : Int × List Int × List uo × Unit) : TT (tJ ⊕ uH) :=
 .ite (i.1 == y6.1)
 (.tt <| .lt (w64 (i.1 + 1) : Int) fun z => .lt (y10.1.1 : Int) fun z1 => .lt (y10.1.2.1 : Int) fun z2 => .vW (vX z <| (uk 33 0 true) ∧ (ud y7.1 y6.1 <| (uk 21 0 true) ∧ tY ∧ uK ∧ ux ∧ True)) <| .vW (vV (vZ 53 z1 z2) <| vV (vZ 36 y4.1.1 y4.1.2.1) <| vV (vZ 36 y3.1.1 y3.1.2.1) <| vV uz <| vV (vY 42 c.1 c.2.1 c.2.2.1) True) <| .ok (.inl ((z, z1, z2, ()))))
 (.call (ak7 ((i.2.1, i.2.2.1, ()), (y10.1.1, y10.1.2.1, ()), ())) aOd fun y11 =>
 .tt <| .lt (w64 (i.1 + 1) : Int) fun z3 => .lt (y11.1.1 : Int) fun z4 => .lt (y11.1.2.1 : Int) fun z5 => .vW (vX z3 <| (uk 33 0 true) ∧ (ud y7.1 y6.1 <| (uk 21 0 true) ∧ tY ∧ uK ∧ ux ∧ True)) <| .vW (vV (vZ 53 z4 z5) <| vV (vZ 36 y4.1.1 y4.1.2.1) <| vV (vZ 36 y3.1.1 y3.1.2.1) <| vV uz <| vV (vY 42 c.1 c.2.1 c.2.2.1) True) <| .ok (.inl ((z3, z4, z5, ()))))
def aqR (c : Int × List Int × List uo × Unit) (x : Int × Int × Unit) (y : Bool × Unit) (y1 : Int × Unit) (y2 : uv × Unit) (y3 : ur × Unit) (y4 : ur × Unit) (y6 : Int × Unit) (y7 : Int × Unit) (i : (Int) × (Int) × (Int) × Unit) : TT (tJ ⊕ uH) :=
 .ite (decide (i.1 ≤ y7.1))
 (.ite (decide (i.1 > y6.1))
  (.need (inb (w64 (i.1 - 1)) (len c.2.2.1)) <| .call (abT ((gi c.2.2.1 (w64 (i.1 - 1)) (0, 0, 0, 0, 0, 0, ())).1, 1000000, ())) ac5 fun y8 =>
   .ite (decide (i.1 < y7.1))
   (.need (inb i.1 (len c.2.2.1)) <| .call (abT ((gi c.2.2.1 i.1 (0, 0, 0, 0, 0, 0, ())).1, 1000000, ())) ac5 fun y9 =>
    .need (inb i.1 (len c.2.2.1)) <| .call (ahR (gi c.2.2.1 i.1 (0, 0, 0, 0, 0, 0, ()), (y8.1.1, y8.1.2.1, ()), (y9.1.1, y9.1.2.1, ()), ())) am9 fun y10 =>
    .ite (y10.2.1 != 0)
    (.ok (.inr (((0, 0, ()), y10.2.1, ()))))
    (afB i y6 y10 y7 y4 y3 c))
   (.need (inb i.1 (len c.2.2.1)) <| .call (ahR (gi c.2.2.1 i.1 (0, 0, 0, 0, 0, 0, ()), (y8.1.1, y8.1.2.1, ()), (y4.1.1, y4.1.2.1, ()), ())) am9 fun y12 =>
    .ite (y12.2.1 != 0)
    (.ok (.inr (((0, 0, ()), y12.2.1, ()))))
    (afB i y6 y12 y7 y4 y3 c)))
  (.ite (decide (i.1 < y7.1))
   (.need (inb i.1 (len c.2.2.1)) <| .call (abT ((gi c.2.2.1 i.1 (0, 0, 0, 0, 0, 0, ())).1, 1000000, ())) ac5 fun y14 =>
    .need (inb i.1 (len c.2.2.1)) <| .call (ahR (gi c.2.2.1 i.1 (0, 0, 0, 0, 0, 0, ()), (y3.1.1, y3.1.2.1, ()), (y14.1.1, y14.1.2.1, ()), ())) am9 fun y15 =>
    .ite (y15.2.1 != 0)
    (.ok (.inr (((0, 0, ()), y15.2.1, ()))))
    (afB i y6 y15 y7 y4 y3 c))
   (.need (inb i.1 (len c.2.2.1)) <| .call (ahR (gi c.2.2.1 i.1 (0, 0, 0, 0, 0, 0, ()), (y3.1.1, y3.1.2.1, ()), (y4.1.1, y4.1.2.1, ()), ())) am9 fun y17 =>
    .ite (y17.2.1 != 0)
    (.ok (.inr (((0, 0, ()), y17.2.1, ()))))
    (afB i y6 y17 y7 y4 y3 c))))
 (.ok (.inr (((i.2.1, i.2.2.1, ()), 0, ()))))
def auJ (c : Int × List Int × List uo × Unit) (x : Int × Int × Unit) : TT uH :=
 .call (ag0 ((c.1, c.2.1, c.2.2.1, ()), ())) Dd1 fun y =>
 .ite (!y.1)
 (.ok (((0, 0, ()), 90, ())))
 (.call (av2 ((x.1, x.2.1, ()), ())) Dd6 fun y1 =>
 .ite (y1.1 != 0)
 (.ok (((0, 0, ()), y1.1, ())))
 (.call (atB ((x.1, x.2.1, ()), ())) aOd fun y2 =>
 .call (abT (y2.1.1, 1000000000000, ())) ac5 fun y3 =>
 .call (abT (y2.1.2.1, 1000000000000, ())) ac5 fun y4 =>
 .ite (c.1 != 3)
 (.call (atC ((c.1, c.2.1, c.2.2.1, ()), (y3.1.1, y3.1.2.1, ()), (y4.1.1, y4.1.2.1, ()), ())) aOd fun y5 =>
 .ok (((y5.1.1, y5.1.2.1, ()), 0, ())))
 (.call (ak6 ((c.1, c.2.1, c.2.2.1, ()), (y3.1.1, y3.1.2.1, ()), ())) Dd6 fun y6 =>
 .call (ak6 ((c.1, c.2.1, c.2.2.1, ()), (y4.1.1, y4.1.2.1, ()), ())) Dd6 fun y7 =>
 .loop 0 (.tt <| .vW (vX y6.1 <| (uk 33 0 true) ∧ (ud y7.1 y6.1 <| (uk 21 0 true) ∧ tY ∧ uK ∧ ux ∧ True)) <| .vW (vV uz <| vV (vZ 36 y4.1.1 y4.1.2.1) <| vV (vZ 36 y3.1.1 y3.1.2.1) <| vV uz <| vV (vY 42 c.1 c.2.1 c.2.2.1) True) <| .ok ((y6.1, 0, 0, ()))) (aqR c x y y1 y2 y3 y4 y6 y7))))
def aRm : LTab := []
def aAM (c : Int × List Int × List uo × Unit) (x : Int × Int × Unit) : TT uH :=
 .call (ahV ((c.1, c.2.1, c.2.2.1, ()), ())) Dd6 fun y =>
 .ite (y.1 != 0)
 (.ok (((0, 0, ()), y.1, ())))
 (.call (alP ((x.1, x.2.1, ()), 0, 1000000000000, ())) am9 fun y1 =>
 .ite (y1.2.1 != 0)
 (.ok (((0, 0, ()), y1.2.1, ())))
 (.need (inb (w64 (c.1 - 1)) (↑3 : Int)) <| .ite (w64 (c.1 - 1) == (↑2 : Int))
 (.call (adX (((c.1, c.2.1, c.2.2.1, ()), ()), (y1.1.1, y1.1.2.1, ()), ())) am9 fun y2 =>
 .ok (((y2.1.1, y2.1.2.1, ()), y2.2.1, ())))
 (.ite (w64 (c.1 - 1) == (↑1 : Int))
 (.call (afG (((c.1, c.2.1, c.2.2.1, ()), ()), (y1.1.1, y1.1.2.1, ()), ())) am9 fun y3 =>
 .ok (((y3.1.1, y3.1.2.1, ()), y3.2.1, ())))
 (.ite (w64 (c.1 - 1) == (↑0 : Int))
 (.call (ag6 (((c.1, c.2.1, c.2.2.1, ()), ()), (y1.1.1, y1.1.2.1, ()), ())) am9 fun y4 =>
 .ok (((y4.1.1, y4.1.2.1, ()), y4.2.1, ())))
 (.bad)))))
def aBI : LTab := [(57, 58, 11265, ⟨0, (Int) × Bool × (List ur) × Unit, .dat (.s 19) uq <| .appN (.s 6) 11 36 tw <| .nil, [18, 4, 3, 2], [2, 1, 0], 1⟩), (57, 250, 24577, ⟨1, (Int) × Bool × (List ur) × Unit, .dat (.s 47) uq <| .appN (.s 6) 24 36 tw <| .nil, [46, 45, 11, 4, 3], [2, 1, 0], 1⟩), (57, 250, 24576, ⟨2, (Int) × (List ur) × Unit, .dat (.s 47) uq <| .app (.s 6) 24 36 tw <| .nil, [46, 45, 11, 4, 3], [2, 1, 0], 1⟩)]
def aAD (c : uw × Unit) (x : Int × Int × Unit) (i : Int × Bool × List ur × Unit) (i1 : (Int) × Bool × (List ur) × Unit) : TT (tG ⊕ (tG ⊕ uH)) :=
 .ite (i1.2.1)
 (.ite (decide (i1.1 < len c.1.2.1))
 (.need (inb i1.1 (len c.1.2.1)) <| .call (acV (w64 (i1.1 * 1000000000000), w64 (x.1 * w64 (len c.1.2.1 - 1)), w64 (x.2.1 * w64 (len c.1.2.1 - 1)), ())) Dd1 fun y2 =>
 .ite (y2.1)
 (.call (ab4 (gi c.1.2.1 i1.1 0, 65535, ())) ac5 fun y3 =>
 .need (1 * 32 ≤ 140737488355328) <| .tt <| .lt (w64 (i1.1 + 1) : Int) fun z2 => .lt ([(y3.1.1, y3.1.2.1, ())] : List ur) fun z3 => .vW ((ub 24 0 1 true) ∧ (ue z2 (len c.1.2.1) c.1.2.1 (w64 (len c.1.2.1 - 1)) <| uK ∧ uD ∧ True)) <| .vW (vV (ua 36 z3) <| vV uz <| vV (vZ 53 x.1 x.2.1) <| vV (vY 96 c.1.1 c.1.2.1 c.1.2.2.1) True) <| .ok (.inl ((z2, false, z3, ()))))
 (.tt <| .lt (w64 (i1.1 + 1) : Int) fun z4 => .vW (True ∧ (ue z4 (len c.1.2.1) c.1.2.1 (w64 (len c.1.2.1 - 1)) <| uK ∧ uD ∧ True)) <| .vW (vV uz <| vV (vZ 53 x.1 x.2.1) <| vV (vY 96 c.1.1 c.1.2.1 c.1.2.2.1) True) <| .ok (.inl ((z4, true, [], ())))))
 (.call (af2 ([], ())) am9 fun y4 =>
 .ok (.inr (.inr (((y4.1.1, y4.1.2.1, ()), y4.2.1, ()))))))
 (.ite (decide (i1.1 < len c.1.2.1))
 (.need (inb i1.1 (len c.1.2.1)) <| .call (acV (w64 (i1.1 * 1000000000000), w64 (x.1 * w64 (len c.1.2.1 - 1)), w64 (x.2.1 * w64 (len c.1.2.1 - 1)), ())) Dd1 fun y5 =>
 .ite (y5.1)
 (.call (ab4 (gi c.1.2.1 i1.1 0, 65535, ())) ac5 fun y6 =>
 .need ((List.length i1.2.2.1 + 1) * 32 ≤ 140737488355328) <| .tt <| .lt (w64 (i1.1 + 1) : Int) fun z5 => .lt (List.take (List.length i1.2.2.1) i1.2.2.1 ++ [(y6.1.1, y6.1.2.1, ())] : List ur) fun z6 => .need ((((24) = (24)) ∧ (((0) = (0)) ∧ ((List.length i1.2.2.1 + 1 = List.length z6) ∧ ((true) = (true))))) ∧ ((z5 : Int) = z5) ∧ ((len c.1.2.1 : Int) = len c.1.2.1) ∧ ((c.1.2.1 : List Int) = c.1.2.1) ∧ ((w64 (len c.1.2.1 - 1) : Int) = w64 (len c.1.2.1 - 1)) ∧ (((2) = (2)) ∧ (((0) = (0)) ∧ ((true) = (true)))) ∧ (((1) = (1)) ∧ (((0) = (0)) ∧ ((true) = (true)))) ∧ True) <| .vW (vV (ua 36 z6) <| vV uz <| vV (vZ 53 x.1 x.2.1) <| vV (vY 96 c.1.1 c.1.2.1 c.1.2.2.1) True) <| .ok (.inl ((z5, false, z6, ()))))
 (.tt <| .lt (w64 (i1.1 + 1) : Int) fun z7 => .lt (i1.2.2.1 : List ur) fun z8 => .vW ((ub 24 0 (List.length z8) true) ∧ (ue z7 (len c.1.2.1) c.1.2.1 (w64 (len c.1.2.1 - 1)) <| uK ∧ uD ∧ True)) <| .vW (vV (ua 36 z8) <| vV uz <| vV (vZ 53 x.1 x.2.1) <| vV (vY 96 c.1.1 c.1.2.1 c.1.2.2.1) True) <| .ok (.inl ((z7, false, z8, ())))))
 (.call (af2 (List.take (List.length i1.2.2.1) i1.2.2.1, ())) am9 fun y7 =>
 .ok (.inr (.inr (((y7.1.1, y7.1.2.1, ()), y7.2.1, ()))))))
def aiY (c : uw × Unit) (x : Int × Int × Unit) (i : Int × Bool × List ur × Unit) (i2 : (Int) × (List ur) × Unit) : TT (((Int) × (List ur) × Unit) ⊕ (tG ⊕ uH)) :=
 .ite (decide (i2.1 < len c.1.2.1))
 (.need (inb i2.1 (len c.1.2.1)) <| .call (acV (w64 (i2.1 * 1000000000000), w64 (x.1 * w64 (len c.1.2.1 - 1)), w64 (x.2.1 * w64 (len c.1.2.1 - 1)), ())) Dd1 fun y10 =>
 .ite (y10.1)
 (.call (ab4 (gi c.1.2.1 i2.1 0, 65535, ())) ac5 fun y11 =>
 .need ((List.length i2.2.1 + 1) * 32 ≤ 140737488355328) <| .tt <| .lt (w64 (i2.1 + 1) : Int) fun z12 => .lt (List.take (List.length i2.2.1) i2.2.1 ++ [(y11.1.1, y11.1.2.1, ())] : List ur) fun z13 => .need ((((24) = (24)) ∧ (((0) = (0)) ∧ ((List.length i2.2.1 + 1 = List.length z13) ∧ ((true) = (true))))) ∧ ((z12 : Int) = z12) ∧ ((len c.1.2.1 : Int) = len c.1.2.1) ∧ ((c.1.2.1 : List Int) = c.1.2.1) ∧ ((w64 (len c.1.2.1 - 1) : Int) = w64 (len c.1.2.1 - 1)) ∧ (((2) = (2)) ∧ (((0) = (0)) ∧ ((true) = (true)))) ∧ (((1) = (1)) ∧ (((0) = (0)) ∧ ((true) = (true)))) ∧ True) <| .vW (vV (ua 36 z13) <| vV uz <| vV (vZ 53 x.1 x.2.1) <| vV (vY 96 c.1.1 c.1.2.1 c.1.2.2.1) True) <| .ok (.inl ((z12, z13, ()))))
 (.tt <| .lt (w64 (i2.1 + 1) : Int) fun z14 => .lt (i2.2.1 : List ur) fun z15 => .vW ((ub 24 0 (List.length z15) true) ∧ (ue z14 (len c.1.2.1) c.1.2.1 (w64 (len c.1.2.1 - 1)) <| uK ∧ uD ∧ True)) <| .vW (vV (ua 36 z15) <| vV uz <| vV (vZ 53 x.1 x.2.1) <| vV (vY 96 c.1.1 c.1.2.1 c.1.2.2.1) True) <| .ok (.inl ((z14, z15, ())))))
 (.call (af2 (List.take (List.length i2.2.1) i2.2.1, ())) am9 fun y12 =>
 .ok (.inr (.inr (((y12.1.1, y12.1.2.1, ()), y12.2.1, ())))))
def aAE (c : uw × Unit) (x : Int × Int × Unit) (i : (Int) × Bool × (List ur) × Unit) : TT (tG ⊕ uH) :=
 .ite (i.2.1)
 (.ite (decide (i.1 < 2))
 (.need (inb i.1 (↑2 : Int)) <| .call (ab4 (gi [x.1, x.2.1] i.1 0, 1000000000000, ())) ac5 fun y =>
 .call (ag5 (((c.1.1, c.1.2.1, c.1.2.2.1, ()), ()), y.1, ())) adZ fun y1 =>
 .ite (y1.2.1 != 0)
 (.ok (.inr (((0, 0, ()), y1.2.1, ()))))
 (.need (1 * 32 ≤ 140737488355328) <| .tt <| .lt (w64 (i.1 + 1) : Int) fun z => .lt ([(y1.1.1, y1.1.2.1, ())] : List ur) fun z1 => .vW ((ub 11 0 1 true) ∧ (ud z ([x.1, x.2.1] : List Int) <| uK ∧ uD ∧ ux ∧ True)) <| .vW (vV (ua 36 z1) <| vV uz <| vV (vZ 53 x.1 x.2.1) <| vV (vY 96 c.1.1 c.1.2.1 c.1.2.2.1) True) <| .ok (.inl ((z, false, z1, ())))))
 (.loop 1 (.tt <| .vW (True ∧ (ue (0 : Int) (len c.1.2.1) c.1.2.1 (w64 (len c.1.2.1 - 1)) <| uK ∧ uD ∧ True)) <| .vW (vV uz <| vV (vZ 53 x.1 x.2.1) <| vV (vY 96 c.1.1 c.1.2.1 c.1.2.2.1) True) <| .ok ((0, true, [], ()))) (aAD c x i)))
 (.ite (decide (i.1 < 2))
 (.need (inb i.1 (↑2 : Int)) <| .call (ab4 (gi [x.1, x.2.1] i.1 0, 1000000000000, ())) ac5 fun y8 =>
 .call (ag5 (((c.1.1, c.1.2.1, c.1.2.2.1, ()), ()), y8.1, ())) adZ fun y9 =>
 .ite (y9.2.1 != 0)
 (.ok (.inr (((0, 0, ()), y9.2.1, ()))))
 (.need ((List.length i.2.2.1 + 1) * 32 ≤ 140737488355328) <| .tt <| .lt (w64 (i.1 + 1) : Int) fun z9 => .lt (List.take (List.length i.2.2.1) i.2.2.1 ++ [(y9.1.1, y9.1.2.1, ())] : List ur) fun z10 => .need ((((11) = (11)) ∧ (((0) = (0)) ∧ ((List.length i.2.2.1 + 1 = List.length z10) ∧ ((true) = (true))))) ∧ ((z9 : Int) = z9) ∧ (([x.1, x.2.1] : List Int) = [x.1, x.2.1]) ∧ (((2) = (2)) ∧ (((0) = (0)) ∧ ((true) = (true)))) ∧ (((1) = (1)) ∧ (((0) = (0)) ∧ ((true) = (true)))) ∧ (((0) = (0)) ∧ (((0) = (0)) ∧ ((true) = (true)))) ∧ True) <| .vW (vV (ua 36 z10) <| vV uz <| vV (vZ 53 x.1 x.2.1) <| vV (vY 96 c.1.1 c.1.2.1 c.1.2.2.1) True) <| .ok (.inl ((z9, false, z10, ())))))
 (.loop 2 (.tt <| .lt (i.2.2.1 : List ur) fun z11 => .vW ((ub 24 0 (List.length z11) true) ∧ (ue (0 : Int) (len c.1.2.1) c.1.2.1 (w64 (len c.1.2.1 - 1)) <| uK ∧ uD ∧ True)) <| .vW (vV (ua 36 z11) <| vV uz <| vV (vZ 53 x.1 x.2.1) <| vV (vY 96 c.1.1 c.1.2.1 c.1.2.2.1) True) <| .ok ((0, z11, ()))) (aiY c x i)))
def akG (c : uw × Unit) (x : Int × Int × Unit) : TT uH :=
 .loop 0 (.tt <| .vW (True ∧ (ud (0 : Int) ([x.1, x.2.1] : List Int) <| uK ∧ uD ∧ ux ∧ True)) <| .vW (vV uz <| vV (vZ 53 x.1 x.2.1) <| vV (vY 96 c.1.1 c.1.2.1 c.1.2.2.1) True) <| .ok ((0, true, [], ()))) (aAE c x)
end
theorem ad0 {l : List Int} (ht : adM l) {n : Int} (hn : inU n) :
  aKu l (mkRat n 1000000000000) = some (mkRat (anF l n) 65535000000000000) ∧ acB (mkRat (anF l n) 65535000000000000) ∧ 0 ≤ anF l n ∧ anF l n ≤ 65535000000000000 := by
 have hl1 := ht.1
 have hl2 := ht.2.1
 obtain ⟨n1, n2⟩ := hn
 obtain ⟨P, hP⟩ : ∃ P, P = n * ((l.length - 1 : Nat) : Int) := ⟨_, rfl⟩
 have hP0 : 0 ≤ P := by rw [hP]; exact yh n1 zc
 have hP1 : P ≤ 1000000000000 * ((l.length - 1 : Nat) : Int) := by rw [hP]; exact zE n2 zc
 obtain ⟨i, hi⟩ : ∃ i, i = aCp l n := ⟨_, rfl⟩
 have hi' : i = min (P / 1000000000000).toNat (l.length - 2) := by rw [hi, hP]; rfl
 have hi2 : i ≤ l.length - 2 := zc
 obtain ⟨A, hA⟩ : ∃ A, A = P - (i : Int) * 1000000000000 := ⟨_, rfl⟩
 have hA0 : 0 ≤ A := zc
 have hA1 : A ≤ 1000000000000 := zc
 obtain ⟨v1, v2⟩ := ahW ht (show i < l.length by omega)
 obtain ⟨w1, w2⟩ := ahW ht (show i + 1 < l.length by omega)
 have hM : anF l n = l.getD i 0 * 1000000000000 + A * (l.getD (i + 1) 0 - l.getD i 0) := by unfold anF; rw [← hi, ← hP, ← hA]
 have hpl : ahK l (mkRat P 1000000000000) = i := by
  unfold ahK
  rw [Rat.floor_def, show (mkRat P 1000000000000).num / (mkRat P 1000000000000).den = fl (mkRat P 1000000000000) from rfl, asN _ zc, hi']
  rfl
 obtain ⟨v, hv⟩ : ∃ v, v = l.getD i 0 := ⟨_, rfl⟩
 obtain ⟨w, hw⟩ : ∃ w, w = l.getD (i + 1) 0 := ⟨_, rfl⟩
 rw [← hv] at v1 v2 hM
 rw [← hw] at w1 w2 hM
 have q1 : 0 ≤ v * (1000000000000 - A) := yh v1 zc
 have q2 : 0 ≤ w * A := yh w1 hA0
 have q3 : 0 ≤ (65535 - v) * (1000000000000 - A) := yh zc zc
 have q4 : 0 ≤ (65535 - w) * A := yh zc hA0
 have eM : anF l n = v * (1000000000000 - A) + w * A := by rw [hM]; grind
 have hM0 : 0 ≤ anF l n := zc
 have hM1 : anF l n ≤ 65535000000000000 := by
  have : (65535 - v) * (1000000000000 - A) + (65535 - w) * A = 65535000000000000 - (v * (1000000000000 - A) + w * A) := by grind
  omega
 have hAd : A * (w - v) = w * A - v * A := by grind
 have r1 : 0 ≤ v * A := yh v1 hA0
 have r2 : v * A ≤ 65535 * A := zE v2 hA0
 have r3 : w * A ≤ 65535 * A := zE w2 hA0
 have f1 : acB (mkRat P 1000000000000) := aeL zc (afW zc zc) (afW zc zc)
 have f2 : acB (mkRat A 1000000000000) := aeL zc (afW zc zc) (afW zc zc)
 have f3 : acB (mkRat (A * (w - v)) 1000000000000) := aeL zc (afW zc zc) (afW zc zc)
 have f4 : acB (mkRat (anF l n) 1000000000000) := aeL zc (afW zc zc) (afW zc zc)
 have f5 : acB (mkRat (anF l n) 65535000000000000) := aeL zc (afW zc zc) (afW zc zc)
 refine ⟨?_, f5, hM0, hM1⟩
 unfold aKu
 rw [yO, ← hP, xE]
 unfold abQ
 rw [if_pos f1]
 simp only [zP]
 rw [hpl, ← hv, ← hw]
 have g2 : mkRat P 1000000000000 - mkRat (i : Int) 1 = mkRat A 1000000000000 := by
  rw [vv, Rat.neg_mkRat, xN _ _ zc zc, xE, hA]
  congr 1; omega
 rw [g2, if_pos f2]
 simp only [zP]
 rw [yO, xE, if_pos f3]
 simp only [zP]
 have g4 : mkRat v 1 + mkRat (A * (w - v)) 1000000000000 = mkRat (anF l n) 1000000000000 := by
  rw [xN _ _ zc zc, Nat.one_mul, hM]
  congr 1; omega
 rw [g4, if_pos f4]
 simp only [zP]
 have g5 : mkRat (anF l n) 1000000000000 / mkRat 65535 1 = mkRat (anF l n) 65535000000000000 := by
  have hm : mkRat (anF l n) 1000000000000 = mkRat (anF l n) 65535000000000000 * mkRat 65535 1 := by
   rw [yO, yd zc zc]; omega
  rw [hm, Rat.div_def, Rat.mul_assoc, Rat.mul_inv_cancel _ (az1 zc), Rat.mul_one]
 rw [g5, if_pos f5]
theorem af6 {m : Int} (h0 : 0 ≤ m) (h1 : m ≤ 65535000000000000) : aeV (mkRat m 65535000000000000) (mkRat m 65535000000000000) = (aOz m, 0, ()) := by
 rw [axP _ zc]
 have e1 : m * 1000000000000 / ((65535000000000000 : Nat) : Int) = m / 65535 := zc
 have e2 : -(m * 1000000000000) / ((65535000000000000 : Nat) : Int) = -m / 65535 := zc
 rw [e1, e2]
 unfold mkB aOz
 rw [if_pos ⟨by omega, by omega, by omega⟩]
theorem aUb {l : List Int} (ht : adM l) {n : Int} {k : Nat} (hk : k < l.length) (e : (k : Int) * 1000000000000 = n * ((l.length - 1 : Nat) : Int)) : anF l n = l.getD k 0 * 1000000000000 := by
 have hl1 := ht.1
 unfold anF aCp
 rw [← e]
 have e1 : ((k : Int) * 1000000000000 / 1000000000000).toNat = k := zc
 rw [e1]
 rcases zr k (l.length - 1) with g | g
 ·rw [show min k (l.length - 2) = k by omega, Int.sub_self, Int.zero_mul, vt]
 ·have h2 : min k (l.length - 2) = k - 1 := zc
  rw [h2, show k - 1 + 1 = k by omega, show (k : Int) * 1000000000000 - ((k - 1 : Nat) : Int) * 1000000000000 = 1000000000000 by omega]
  generalize l.getD k 0 = a
  generalize l.getD (k - 1) 0 = b
  omega
theorem aKr {b : BdT} (h : okB b.1 b.2.1) : inU (am6 b).1 ∧ inU (am6 b).2.1 ∧ (am6 b).1 ≤ (am6 b).2.1 := by
 obtain ⟨h1, h2, h3⟩ := h
 unfold am6 inU inR
 dsimp only
 omega
theorem arF (c : CvT × Unit) (x : BdT) (y) (h : ag6 (c, x, ()) = some y) : (akZ c x).toO = some y := h
theorem aJ6 (c : CvT) (x : BdT) (y) (h : adY (c, x, ()) = some y) : (aAM c x).toO = some y := by
 injection h with h
 subst h
 obtain ⟨kind, tab, l, u0⟩ := c
 obtain ⟨blo, bhi, u1⟩ := x
 unfold aAM
 dsimp only
 refine uC _ (aBk (kind, tab, l, ())) ?_
 by_cases hr : abJ (kind, tab, l, ())
 case neg =>
  have hr' : ¬ abJ (kind, tab, l, u0) := hr
  rw [if_neg hr', if_neg hr]
  exact uT rfl rfl
 have hr' : abJ (kind, tab, l, u0) := hr
 rw [if_pos hr', if_pos hr]
 refine uF rfl ?_
 by_cases hb : okB blo bhi
 case neg =>
  rw [if_neg hb]
  refine uC ((0, 0, ()), 30, ()) (by unfold alP aC5; dsimp only; rw [if_neg hb]) ?_
  exact uT rfl rfl
 rw [if_pos hb]
 refine uC (am6 (blo, bhi, u1), 0, ()) (by unfold alP; exact congrArg some (aAy (b := (blo, bhi, u1)) hb)) (uF rfl ?_)
 obtain ⟨g1, g2, g3⟩ := aKr (b := (blo, bhi, u1)) hb
 generalize am6 (blo, bhi, u1) = z at g1 g2 g3 ⊢
 unfold aAR
 dsimp only
 rcases hr with ⟨k1, k2, k3⟩ | ⟨k1, k2, k3⟩ | ⟨k1, k2, k3⟩
 ·dsimp only at k1; subst k1
  exact uN ⟨by decide, by decide⟩ (uF rfl (uF rfl (uT rfl (uC (z, 0, ()) rfl rfl))))
 ·dsimp only at k1; subst k1
  exact uN ⟨by decide, by decide⟩ (uF rfl (uT rfl (uC (aoF tab z.1 z.2.1, 0, ()) (by unfold afG; exact if_pos ⟨k2, g1, g2, g3⟩) rfl)))
 ·dsimp only at k1; subst k1
  exact uN ⟨by decide, by decide⟩ (uT rfl (uC (aoG l z.1 z.2.1) (by unfold adX; exact if_pos ⟨k3, g1, g2, g3⟩) rfl))
theorem aLQ (m : Int) : mkRat m 1000000000000 * adJ = (m : Rat) := by
 rw [aEa, yO, xE, ← acJ, yd zc zc]; omega
theorem aDz (n m : Int) : mkRat n 1000000000000 ≤ mkRat m 1000000000000 ↔ n ≤ m := by
 rw [aqJ, aLQ]; exact xR
theorem aT9 (n m : Int) : mkRat n 1000000000000 < mkRat m 1000000000000 ↔ n < m := by
 rw [← wy, aDz]; omega
theorem au3 (t : Int) : mkRat t 1000000 = mkRat (t * 1000000) 1000000000000 := by
 rw [yd zc zc]; omega
theorem akO (n : Int) (l : List adI) : afL (mkRat n 1000000000000) l = aaY n l := by
 unfold afL aaY
 congr 1
 funext s
 rw [au3, decide_eq_decide]
 exact aDz _ _
theorem aKq : mkRat 1000000000000 1000000000000 = (1 : Rat) := zf
theorem alV {n : Int} (h : inU n) : mkRat n 1000000000000 ≤ 1 := by
 rw [← aKq, aDz]; exact h.2
theorem aRM {s : adI} {a b : Int} (h1 : adL s) (h2 : inU a) (h3 : inU b) : ahR (s, fx (mkRat a 1000000000000), fx (mkRat b 1000000000000), ()) = some (auE s a b) := by
 refine aaE (enc := fun p : adI × Int × Int => (p.1, fx (mkRat p.2.1 1000000000000), fx (mkRat p.2.2 1000000000000), ())) (s, a, b) ⟨h1, h2, h3⟩ (fun q hq => ?_)
 obtain ⟨e1, e2⟩ := Prod.mk.inj hq
 obtain ⟨e2, e3⟩ := Prod.mk.inj e2
 obtain ⟨e3, -⟩ := Prod.mk.inj e3
 have hinj : ∀ n m : Int, mkRat n 1000000000000 = mkRat m 1000000000000 → n = m := fun n m e => by
  have := (yd zc zc).1 e; omega
 exact Prod.ext e1 (Prod.ext (hinj _ _ (ad8 e2)) (hinj _ _ (ad8 e3)))
theorem avA {acc : List BdT} (h : acc ≠ []) (b : BdT) : ad4 (acc ++ [b]) = adA (ad4 acc) b := by
 cases acc with
 | nil => exact absurd rfl h
 | cons a r => show (r ++ [b]).foldl adA a = adA (r.foldl adA a) b; rw [vz]; rfl
theorem ay0 (c : CvT) (x : BdT) (y : Bool × Unit) (y1 : Int × Unit) (y2 : BdT × Unit) (l : List adI) (hc : c.2.2.1 = l) (lo hi : Int) (hl : acA l) (hlo : inU lo) (hhi : inU hi) (hle : lo ≤ hi) :
  adK (fun i => (aqR c x y y1 y2 (fx (mkRat lo 1000000000000), ()) (fx (mkRat hi 1000000000000), ()) ((aaY lo l : Int), ()) ((aaY hi l : Int), ()) i).toO) ((aaY lo l : Int), 0, 0, ()) = some (aoG l lo hi) := by
 have hlen := hl.2.1
 obtain ⟨pf1, pf2, pf3⟩ := akP hl hlo
 obtain ⟨pl1, pl2, pl3⟩ := akP hl hhi
 have hfl : aaY lo l ≤ aaY hi l := (agR hl hlo pl1).1 zc
 have hlo1 := hlo.1
 have hlo2 := hlo.2
 have hhi1 := hhi.1
 have hhi2 := hhi.2
 refine aaK (fun i : Int × Int × Int × Unit => ∃ (k : Nat) (acc : List BdT), k ≤ aaY hi l + 1 ∧ aaY lo l ≤ k ∧ i = ((k : Int), (ad4 acc).1, (ad4 acc).2.1, ()) ∧ (aaY lo l < k → acc ≠ []) ∧ (k = aaY lo l → acc = []) ∧ aoG l lo hi = arH l lo hi (aaY hi l + 1 - k) k acc) (fun i => ((aaY hi l : Int) + 1 - i.1).toNat) (fun _ => aoG l lo hi) ?_ _ ⟨aaY lo l, [], by omega, by omega, rfl, fun h => by omega, fun _ => rfl, rfl⟩
 rintro i ⟨k, acc, k1, k2, rfl, k5, k7, k6⟩
 simp only [aqR, afB, hc]
 rcases zr (aaY hi l) k with g | g
 ·right
  rw [k6, show aaY hi l + 1 - k = 0 by omega]
  exact uF sd rfl
 obtain ⟨m, hm⟩ : ∃ m, aaY hi l + 1 - k = m + 1 := ⟨aaY hi l - k, by omega⟩
 rw [hm, ajS] at k6
 have hk : k < l.length := zc
 obtain ⟨hn, ht1, ht2⟩ := aqN hl hk
 obtain ⟨hb1, hb2⟩ := aDb hl (show k ≤ l.length by omega)
 have hpf := agR hl hlo hk
 have hpl := agR hl hhi hk
 have it : aa3 (l.getD k zs).1 := ⟨by omega, by omega⟩
 have hroot : ahR (l.getD k zs, fx (mkRat (max lo (abC l k * 1000000)) 1000000000000), fx (mkRat (min hi ((l.getD k zs).1 * 1000000)) 1000000000000), ()) = some (am8 l lo hi k) := aRM hn ⟨by omega, by omega⟩ ⟨by omega, by omega⟩
 have wk : w64 ((k : Int) + 1) = ((k + 1 : Nat) : Int) := by rw [aaA zc]; omega
 have ib0 : aaY lo l < k → aa3 (l.getD (k - 1) zs).1 := fun h => by
  have e : abC l k = (l.getD (k - 1) zs).1 := by unfold abC; rw [if_neg zc]
  rw [← e]; exact ⟨by omega, by omega⟩
 have wk1 : aaY lo l < k → w64 ((k : Int) - 1) = ((k - 1 : Nat) : Int) := fun h => by rw [aaA zc]; omega
 have eF : aaY lo l < k → mkRat (l.getD (k - 1) zs).1 1000000 = mkRat (max lo (abC l k * 1000000)) 1000000000000 := fun h => by
  have e : abC l k = (l.getD (k - 1) zs).1 := by unfold abC; rw [if_neg zc]
  have hbl := agZ hl hlo (show k ≠ 0 by omega) hk
  rw [au3, ← e, show max lo (abC l k * 1000000) = abC l k * 1000000 by omega]
 have eF' : k = aaY lo l → mkRat lo 1000000000000 = mkRat (max lo (abC l k * 1000000)) 1000000000000 := fun h => by
  have : max lo (abC l k * 1000000) = lo := by
   by_cases h0 : k = 0
   ·have : abC l k = 0 := by unfold abC; rw [if_pos h0]
    omega
   ·have hbl := agZ hl hlo h0 hk
    omega
  rw [this]
 have eT : k < aaY hi l → mkRat (l.getD k zs).1 1000000 = mkRat (min hi ((l.getD k zs).1 * 1000000)) 1000000000000 := fun h => by
  rw [au3, show min hi ((l.getD k zs).1 * 1000000) = (l.getD k zs).1 * 1000000 by omega]
 have eT' : k = aaY hi l → mkRat hi 1000000000000 = mkRat (min hi ((l.getD k zs).1 * 1000000)) 1000000000000 := fun h => by
  rw [show min hi ((l.getD k zs).1 * 1000000) = hi by omega]
 by_cases he : (am8 l lo hi k).2.1 = 0
 ·rw [if_neg (fun h => h he)] at k6
  left
  rcases zr (aaY lo l) k with k3 | k3
  ·have hh := avA (k5 k3) (am8 l lo hi k).1
   refine ⟨(((k + 1 : Nat) : Int), (ad4 (acc ++ [(am8 l lo hi k).1])).1, (ad4 (acc ++ [(am8 l lo hi k).1])).2.1, ()), ?_, ⟨k + 1, acc ++ [(am8 l lo hi k).1], by omega, by omega, rfl, fun _ => by simp, fun h => by omega, by rw [show aaY hi l + 1 - (k + 1) = m by omega]; exact k6⟩, by dsimp only; omega, ze⟩
   have ib := ib0 k3
   rw [hh]
   rw [wk1 k3]
   simp only [aaL]
   rcases zr k (aaY hi l) with k4 | k4
   ·refine uT sd (uT sd (uN ⟨by omega, by rw [aaB]; omega⟩ (uC _ (adH (d := 1000000) ib zc zc) (uT sd (uN ⟨by omega, by rw [aaB]; omega⟩ (uC _ (adH (d := 1000000) it zc zc) (uN ⟨by omega, by rw [aaB]; omega⟩ (uC (am8 l lo hi k) (by rw [eF k3]; rw [eT zc]; exact hroot) ?_))))))))
    exact uF (by rw [he]; rfl) (uF (by rw [beq_eq_false_iff_ne]; omega) (uC (adA (ad4 acc) (am8 l lo hi k).1, ()) rfl (by rw [wk]; rfl)))
   ·refine uT sd (uT sd (uN ⟨by omega, by rw [aaB]; omega⟩ (uC _ (adH (d := 1000000) ib zc zc) (uF sd (uN ⟨by omega, by rw [aaB]; omega⟩ (uC (am8 l lo hi k) (by rw [eF k3]; rw [eT' zc]; exact hroot) ?_))))))
    exact uF (by rw [he]; rfl) (uF (by rw [beq_eq_false_iff_ne]; omega) (uC (adA (ad4 acc) (am8 l lo hi k).1, ()) rfl (by rw [wk]; rfl)))
  ·have ha := k7 zc
   subst ha
   refine ⟨(((k + 1 : Nat) : Int), (ad4 ([] ++ [(am8 l lo hi k).1])).1, (ad4 ([] ++ [(am8 l lo hi k).1])).2.1, ()), ?_, ⟨k + 1, [] ++ [(am8 l lo hi k).1], by omega, by omega, rfl, fun _ => by simp, fun h => by omega, by rw [show aaY hi l + 1 - (k + 1) = m by omega]; exact k6⟩, by dsimp only; omega, ze⟩
   simp only [aaL]
   rcases zr k (aaY hi l) with k4 | k4
   ·refine uT sd (uF sd (uT sd (uN ⟨by omega, by rw [aaB]; omega⟩ (uC _ (adH (d := 1000000) it zc zc) (uN ⟨by omega, by rw [aaB]; omega⟩ (uC (am8 l lo hi k) (by rw [eF' zc]; rw [eT zc]; exact hroot) ?_))))))
    exact uF (by rw [he]; rfl) (uT (by rw [yA]; omega) (by rw [wk]; rfl))
   ·refine uT sd (uF sd (uF sd (uN ⟨by omega, by rw [aaB]; omega⟩ (uC (am8 l lo hi k) (by rw [eF' zc]; rw [eT' zc]; exact hroot) ?_))))
    exact uF (by rw [he]; rfl) (uT (by rw [yA]; omega) (by rw [wk]; rfl))
 ·rw [if_pos he] at k6
  right
  rw [k6]
  rcases zr (aaY lo l) k with k3 | k3
  ·have ib := ib0 k3
   rw [wk1 k3]
   simp only [aaL]
   rcases zr k (aaY hi l) with k4 | k4
   ·refine uT sd (uT sd (uN ⟨by omega, by rw [aaB]; omega⟩ (uC _ (adH (d := 1000000) ib zc zc) (uT sd (uN ⟨by omega, by rw [aaB]; omega⟩ (uC _ (adH (d := 1000000) it zc zc) (uN ⟨by omega, by rw [aaB]; omega⟩ (uC (am8 l lo hi k) (by rw [eF k3]; rw [eT zc]; exact hroot) ?_))))))))
    exact uT (by simpa using he) rfl
   ·refine uT sd (uT sd (uN ⟨by omega, by rw [aaB]; omega⟩ (uC _ (adH (d := 1000000) ib zc zc) (uF sd (uN ⟨by omega, by rw [aaB]; omega⟩ (uC (am8 l lo hi k) (by rw [eF k3]; rw [eT' zc]; exact hroot) ?_))))))
    exact uT (by simpa using he) rfl
  ·simp only [aaL]
   rcases zr k (aaY hi l) with k4 | k4
   ·refine uT sd (uF sd (uT sd (uN ⟨by omega, by rw [aaB]; omega⟩ (uC _ (adH (d := 1000000) it zc zc) (uN ⟨by omega, by rw [aaB]; omega⟩ (uC (am8 l lo hi k) (by rw [eF' zc]; rw [eT zc]; exact hroot) ?_))))))
    exact uT (by simpa using he) rfl
   ·refine uT sd (uF sd (uF sd (uN ⟨by omega, by rw [aaB]; omega⟩ (uC (am8 l lo hi k) (by rw [eF' zc]; rw [eT' zc]; exact hroot) ?_))))
    exact uT (by simpa using he) rfl
theorem aGS {n X : Int} {d : Nat} (hd : d ≠ 0) : ((n : Int) : Rat) ≤ mkRat X d ↔ n * d ≤ X := by
 rw [← akX, asN _ hd, xw zc]
theorem aP9 {n X : Int} {d : Nat} (hd : d ≠ 0) : mkRat X d ≤ ((n : Int) : Rat) ↔ X ≤ n * d := by
 rw [← Rat.neg_le_neg_iff, Rat.neg_mkRat, ← xL, aGS hd, Int.neg_mul]; omega
theorem aWj (X : Int) (d : Nat) : mkRat X d * adJ = mkRat (X * 1000000000000) d := by
 rw [aEa, yO, xE]
theorem aLR {n X : Int} {d : Nat} (hd : d ≠ 0) : mkRat n 1000000000000 < mkRat X d ↔ n * d < X * 1000000000000 := by
 rw [← wy, aJn, aWj, aP9 hd]; omega
theorem aM4 {n X : Int} {d : Nat} (hd : d ≠ 0) : mkRat X d < mkRat n 1000000000000 ↔ X * 1000000000000 < n * d := by
 rw [← wy, aqJ, aWj, aGS hd]; omega
theorem aCP : ∀ (r : List BdT) (a : BdT), ((r.foldl adA a).1 ≤ a.1 ∧ a.2.1 ≤ (r.foldl adA a).2.1) ∧ ∀ b ∈ r, (r.foldl adA a).1 ≤ b.1 ∧ b.2.1 ≤ (r.foldl adA a).2.1
 | [], a => ⟨⟨vA _, vA _⟩, fun b hb => by cases hb⟩
 | c :: r, a => by
  obtain ⟨⟨h1, h2⟩, h3⟩ := aCP r (adA a c)
  have e1 : (adA a c).1 = min a.1 c.1 := rfl
  have e2 : (adA a c).2.1 = max a.2.1 c.2.1 := rfl
  refine ⟨⟨by show (r.foldl adA (adA a c)).1 ≤ a.1; omega, by show a.2.1 ≤ (r.foldl adA (adA a c)).2.1; omega⟩, fun b hb => ?_⟩
  rcases zx.1 hb with g | g
  ·subst g; exact ⟨by show (r.foldl adA (adA a b)).1 ≤ b.1; omega, by show b.2.1 ≤ (r.foldl adA (adA a b)).2.1; omega⟩
  ·exact h3 b g
theorem aGW {acc : List BdT} {b : BdT} (h : b ∈ acc) : ad4 (acc ++ [b]) = ad4 acc := by
 have hne : acc ≠ [] := fun e => by rw [e] at h; cases h
 rw [avA hne]
 have : (ad4 acc).1 ≤ b.1 ∧ b.2.1 ≤ (ad4 acc).2.1 := by
  cases acc with
  | nil => exact absurd rfl hne
  | cons a r =>
   obtain ⟨h1, h2⟩ := aCP r a
   rcases zx.1 h with g | g
   ·subst g; exact h1
   ·exact h2 b g
 unfold adA
 rw [show min (ad4 acc).1 b.1 = (ad4 acc).1 by omega, show max (ad4 acc).2.1 b.2.1 = (ad4 acc).2.1 by omega]
theorem amL {n : Int} (h : inU n) : afF (mkRat n 1000000000000) = mkRat n 1000000000000 := by
 have h0 : ¬ mkRat n 1000000000000 < 0 := by
  have : (0 : Rat) = mkRat 0 1000000000000 := zf
  rw [this, aT9]; have := h.1; omega
 have h1 : ¬ mkRat n 1000000000000 > 1 := vP.2 (alV h)
 unfold afF
 rw [if_neg h0, if_neg h1]
theorem aBY {n : Int} (h : inU n) : aeV (mkRat n 1000000000000) (mkRat n 1000000000000) = ((n, n, ()), 0, ()) := by
 obtain ⟨h1, h2⟩ := h
 rw [axP _ zc]
 have e1 : n * 1000000000000 / ((1000000000000 : Nat) : Int) = n := zc
 have e2 : -(-(n * 1000000000000) / ((1000000000000 : Nat) : Int)) = n := zc
 rw [e1, e2]
 unfold mkB
 rw [if_pos ⟨by omega, by omega, by omega⟩]
theorem aRN {c : CvT} {x : FxT} (h1 : shC c) (h2 : shF x) : ahS (c, x, ()) = acR (c, x, ()) := by
 unfold ahS; exact if_pos ⟨h1, h2⟩
theorem aFB {c : CvT} (h : abJ c) : shC c := by
 rcases h with ⟨h1, h2, h3⟩ | ⟨h1, h2, h3⟩ | ⟨h1, h2, h3⟩
 ·unfold shC; rw [h2, h3]; exact ⟨by simp, by simp⟩
 ·unfold shC; rw [h3]; exact ⟨by have := h2.2.1; omega, by simp⟩
 ·unfold shC; rw [h2]; exact ⟨by simp, by have := h3.2.1; omega⟩
theorem ayF (v : Int) : mkRat v 65535 = mkRat (v * 1000000000000) 65535000000000000 := by
 rw [yd zc zc]; omega
theorem aBZ (l : List Int) (lo hi : Int) (k : Nat) : alW l lo hi (k + 1) = if aBC l lo hi k then alW l lo hi k ++ [aOz (l.getD k 0 * 1000000000000)] else alW l lo hi k := by
 unfold alW
 rw [vU, List.filter_append, xH]
 cases h : aBC l lo hi k
 ·simp [List.filter, h]
 ·simp [List.filter, h]
theorem aIu (c : CvT) (a b : FxT) (y) (h : atC (c, a, b, ()) = some y) : (ayQ c a b).toO = some y := by
 obtain ⟨⟨c', lo, hi⟩, ⟨hr, hk3, hlo, hhi, hle⟩, hx, rfl⟩ := aaC h
 obtain ⟨rfl, hx2⟩ := Prod.mk.inj hx; obtain ⟨rfl, hx3⟩ := Prod.mk.inj hx2; obtain ⟨rfl, -⟩ := Prod.mk.inj hx3
 dsimp only at hr hk3 hlo hhi hle ⊢
 obtain ⟨kind, tab, l, u0⟩ := c
 have f1 := adS hlo
 have f2 := adS hhi
 have hr' : abJ (kind, tab, l, ()) := hr
 have hev : ∀ n : Int, inU n → ahS ((kind, tab, l, ()), fx (mkRat n 1000000000000), ()) = some (axH (kind, tab, l, ()) (mkRat n 1000000000000)) := by
  intro n hn
  rw [aRN (aFB hr') (am2 (adS hn))]
  unfold acR
  dsimp only
  rw [if_pos hr', ae3 (adS hn)]
  dsimp only
  rw [amL hn]
 unfold ayQ
 refine uC _ (hev lo hlo) (uC _ (hev hi hhi) ?_)
 rcases hr with ⟨k1, k2, k3⟩ | ⟨k1, k2, k3⟩ | ⟨k1, k2, k3⟩
 ·dsimp only at k1 k2 k3
  subst k1 k2 k3
  refine uC _ (aeS f1) (uC _ (aeS f2) (uC _ rfl ?_))
  rw [aBY hlo, aBY hhi]
  have e1 : adA (lo, lo, ()) (hi, hi, ()) = (lo, hi, ()) := by unfold adA; dsimp only; rw [show min lo hi = lo by omega, show max lo hi = hi by omega]
  dsimp only
  rw [e1]
  refine uO (0, lo, hi, ()) rfl ?_
  refine aaK (fun i : Int × Int × Int × Unit => i = (0, lo, hi, ())) (fun _ => 0) (fun _ => ((lo, hi, ()), ())) ?_ _ rfl
  rintro i rfl
  right
  exact uF rfl rfl
 ·dsimp only at k1 k2 k3
  subst k1 k3
  obtain ⟨q1, q2, q3, q4⟩ := ad0 k2 hlo
  obtain ⟨p1, p2, p3, p4⟩ := ad0 k2 hhi
  have hE1 : axH (2, tab, [], ()) (mkRat lo 1000000000000) = (fx (mkRat (anF tab lo) 65535000000000000), 0, ()) := by
   show anU (aKu tab (mkRat lo 1000000000000)) = _; rw [q1]; rfl
  have hE2 : axH (2, tab, [], ()) (mkRat hi 1000000000000) = (fx (mkRat (anF tab hi) 65535000000000000), 0, ()) := by
   show anU (aKu tab (mkRat hi 1000000000000)) = _; rw [p1]; rfl
  rw [hE1, hE2]
  refine uC _ (aeS q2) (uC _ (aeS p2) (uC _ rfl ?_))
  rw [af6 q3 q4, af6 p3 p4]
  have hl1 := k2.1
  have hl2 := k2.2.1
  have hout : aAR (2, tab, [], u0) (lo, hi, ()) = (aoF tab lo hi, 0, ()) := rfl
  rw [hout]
  refine uO (0, (ad4 (alW tab lo hi 0)).1, (ad4 (alW tab lo hi 0)).2.1, ()) rfl ?_
  refine aaK (fun i : Int × Int × Int × Unit => ∃ k : Nat, k ≤ tab.length ∧ i = ((k : Int), (ad4 (alW tab lo hi k)).1, (ad4 (alW tab lo hi k)).2.1, ())) (fun i => ((tab.length : Int) - i.1).toNat) (fun _ => (aoF tab lo hi, ())) ?_ _ ⟨0, by omega, rfl⟩
  rintro i ⟨k, g1, rfl⟩
  have w1 : w64 (len tab - 1) = ((tab.length - 1 : Nat) : Int) := by rw [aaB, aaA zc]; omega
  simp only [aB7, alZ, aaL, w1]
  rcases zr k tab.length with hk | hk
  ·left
   have wk : w64 ((k : Int) + 1) = ((k + 1 : Nat) : Int) := by rw [aaA zc]; omega
   have ik : aa3 (k : Int) := ⟨by omega, by omega⟩
   have hd0 : tab.length - 1 ≠ 0 := zc
   have fk : acB (mkRat (k : Int) (tab.length - 1)) := aeL hd0 (abK ik) (abK ⟨by omega, by omega⟩)
   have bv := ahW k2 hk
   have iv := af9 bv zc zc
   refine ⟨(((k + 1 : Nat) : Int), (ad4 (alW tab lo hi (k + 1))).1, (ad4 (alW tab lo hi (k + 1))).2.1, ()), ?_, ⟨k + 1, by omega, rfl⟩, by dsimp only; omega, ze⟩
   refine uT (zo (by rw [aaB]; omega)) (uC _ (adH (d := tab.length - 1) ik hd0 zc) (uC _ (alQ f1 fk) ?_))
   have hlast : (((tab.length - 1 : Nat) : Nat) : Int) = ((tab.length - 1 : Nat) : Int) := rfl
   have hA := aLR (n := lo) (X := (k : Int)) hd0
   have hB := aM4 (n := hi) (X := (k : Int)) hd0
   have hbound : ∀ n : Int, inU n → (k : Int) * 1000000000000 = n * ((tab.length - 1 : Nat) : Int) → aOz (tab.getD k 0 * 1000000000000) = aOz (anF tab n) := fun n hn e => by rw [aUb k2 hk e]
   have m1 : aOz (anF tab lo) ∈ alW tab lo hi k := zZ ..
   have m2 : aOz (anF tab hi) ∈ alW tab lo hi k := zM _ (zZ ..)
   have hsame : ¬ (lo * ((tab.length - 1 : Nat) : Int) < (k : Int) * 1000000000000 ∧ (k : Int) * 1000000000000 < hi * ((tab.length - 1 : Nat) : Int)) → ad4 (alW tab lo hi (k + 1)) = ad4 (alW tab lo hi k) := by
    intro hn
    rw [aBZ]
    split
    ·rename_i hin
     obtain ⟨i1, i2⟩ := of_decide_eq_true hin
     refine aGW ?_
     rcases zQ (lo * ((tab.length - 1 : Nat) : Int)) ((k : Int) * 1000000000000) with z | z
     ·rw [hbound hi hhi zc]; exact m2
     ·rw [hbound lo hlo zc]; exact m1
    ·rfl
   by_cases s1 : mkRat lo 1000000000000 < mkRat (k : Int) (tab.length - 1)
   ·refine uT (zo s1) (uC _ (alQ fk f2) ?_)
    by_cases s2 : mkRat (k : Int) (tab.length - 1) < mkRat hi 1000000000000
    ·have hin : aBC tab lo hi k = true := zo ⟨by have := hA.1 s1; omega, by have := hB.1 s2; omega⟩
     rw [aBZ, if_pos hin, avA (by unfold alW; simp)]
     refine uT (zo s2) (uN ⟨by omega, by rw [aaB]; omega⟩ (uC _ (adH (d := 65535) iv zc zc) ?_))
     rw [ayF]
     have fv : acB (mkRat (tab.getD k 0 * 1000000000000) 65535000000000000) := aeL zc (afW (by have := bv.1; omega) (by have := bv.2; omega)) (afW zc zc)
     refine uC _ (aeS fv) ?_
     rw [af6 (by have := bv.1; omega) (by have := bv.2; omega)]
     refine uC (adA (ad4 (alW tab lo hi k)) (aOz (tab.getD k 0 * 1000000000000)), ()) rfl ?_
     rw [wk]; rfl
    ·rw [hsame (fun g => s2 (hB.2 g.2))]
     exact uF (zn s2) (by rw [wk]; rfl)
   ·rw [hsame (fun g => s1 (hA.2 g.1))]
    exact uF (zn s1) (by rw [wk]; rfl)
  ·right
   obtain rfl : k = tab.length := zc
   exact uF (zn (by rw [aaB]; omega)) rfl
 ·exact absurd k1 hk3
theorem aRL {c : CvT} {lo hi : Int} (h1 : abJ c) (h2 : c.1 ≠ 3) (h3 : inU lo) (h4 : inU hi) (h5 : lo ≤ hi) : atC (c, fx (mkRat lo 1000000000000), fx (mkRat hi 1000000000000), ()) = some ((aAR c (lo, hi, ())).1, ()) := by
 refine aaE (enc := fun p : CvT × Int × Int => (p.1, fx (mkRat p.2.1 1000000000000), fx (mkRat p.2.2 1000000000000), ())) (c, lo, hi) ⟨h1, h2, h3, h4, h5⟩ (fun q hq => ?_)
 obtain ⟨e1, e2⟩ := Prod.mk.inj hq
 obtain ⟨e2, e3⟩ := Prod.mk.inj e2
 obtain ⟨e3, -⟩ := Prod.mk.inj e3
 have hinj : ∀ n m : Int, mkRat n 1000000000000 = mkRat m 1000000000000 → n = m := fun n m e => by
  have := (yd zc zc).1 e; omega
 exact Prod.ext e1 (Prod.ext (hinj _ _ (ad8 e2)) (hinj _ _ (ad8 e3)))
theorem aFL (c : CvT) (x : BdT) (y) (h : alA (c, x, ()) = some y) : (auJ c x).toO = some y := by
 unfold alA at h
 split at h
 case isFalse => cases h
 case isTrue hp =>
 injection h with h
 subst h
 obtain ⟨kind, tab, l, u0⟩ := c
 obtain ⟨blo, bhi, u1⟩ := x
 unfold auJ
 dsimp only at hp ⊢
 refine uC _ (aDi (c := (kind, tab, l, ())) hp) ?_
 by_cases hr : abJ (kind, tab, l, ())
 case neg =>
  have hr' : ¬ abJ (kind, tab, l, u0) := hr
  rw [if_neg hr']
  exact uT (by rw [zn hr]; rfl) rfl
 have hr' : abJ (kind, tab, l, u0) := hr
 rw [if_pos hr']
 refine uF (by rw [zo hr]; rfl) (uC (if okB blo bhi then 0 else 30, ()) rfl ?_)
 by_cases hb : okB blo bhi
 case neg => rw [if_neg hb, if_neg hb]; exact uT rfl rfl
 rw [if_pos hb, if_pos hb]
 refine uF rfl (uC (am6 (blo, bhi, u1), ()) rfl ?_)
 obtain ⟨g1, g2, g3⟩ := aKr (b := (blo, bhi, u1)) hb
 generalize am6 (blo, bhi, u1) = z at g1 g2 g3 ⊢
 obtain ⟨lo, hi, u2⟩ := z
 dsimp only at g1 g2 g3 ⊢
 refine uC _ (adH (d := 1000000000000) (aq1 g1) zc zc) (uC _ (adH (d := 1000000000000) (aq1 g2) zc zc) ?_)
 by_cases k3 : kind = 3
 ·subst k3
  rcases hr with ⟨e1, e2, e3⟩ | ⟨e1, e2, e3⟩ | ⟨e1, e2, e3⟩
  ·exact absurd (show (3 : Int) = 1 from e1) zf
  ·exact absurd (show (3 : Int) = 2 from e1) zf
  ·dsimp only at e2 e3
   subst e2
   refine uF rfl (uC _ (aBb (c := (3, [], l, ())) (adS g1) (alV g1) e3) (uC _ (aBb (c := (3, [], l, ())) (adS g2) (alV g2) e3) ?_))
   dsimp only
   rw [akO, akO]
   refine uO ((aaY lo l : Int), 0, 0, ()) rfl ?_
   exact ay0 (3, [], l, u0) _ _ _ _ l rfl lo hi e3 g1 g2 g3
 ·refine uT (by simpa using k3) (uC _ (aRL (c := (kind, tab, l, ())) hr k3 g1 g2 g3) ?_)
  rw [aaI]
  rcases hr with ⟨e1, e2, e3⟩ | ⟨e1, e2, e3⟩ | ⟨e1, e2, e3⟩
  ·dsimp only at e1; subst e1; rfl
  ·dsimp only at e1; subst e1; rfl
  ·exact absurd e1 k3
def arR (l : List Int) (lo hi : Int) (k : Nat) : List Rat := mkRat (anF l lo) 65535000000000000 :: mkRat (anF l hi) 65535000000000000 :: ((List.range k).filter (aBC l lo hi)).map (fun j => mkRat (l.getD j 0) 65535)
theorem aLV (l : List Int) (lo hi : Int) (k : Nat) : arR l lo hi (k + 1) = if aBC l lo hi k then arR l lo hi k ++ [mkRat (l.getD k 0) 65535] else arR l lo hi k := by
 unfold arR
 rw [vU, List.filter_append, xH]
 cases h : aBC l lo hi k
 ·simp [List.filter, h]
 ·simp [List.filter, h]
theorem aOA (l : List Int) (lo hi : Int) (k : Nat) : (arR l lo hi k).length ≤ k + 2 := by
 unfold arR
 have := List.length_filter_le (aBC l lo hi) (List.range k)
 simp only [zG, vK, List.length_range] at *
 omega
theorem aOB {l : List Int} (ht : adM l) {lo hi : Int} (h1 : inU lo) (h2 : inU hi) {k : Nat} (hk : k ≤ l.length) : ∀ q ∈ arR l lo hi k, acB q ∧ (aeV q q).2.1 = 0 := by
 intro q hq
 obtain ⟨-, a2, a3, a4⟩ := ad0 ht h1
 obtain ⟨-, b2, b3, b4⟩ := ad0 ht h2
 rcases zx.1 hq with g | g
 ·subst g; exact ⟨a2, by rw [af6 a3 a4]⟩
 rcases zx.1 g with g | g
 ·subst g; exact ⟨b2, by rw [af6 b3 b4]⟩
 obtain ⟨j, hj, rfl⟩ := zN.1 g
 have hj2 : j < k := List.mem_range.1 (wI.1 hj).1
 obtain ⟨v1, v2⟩ := ahW ht (show j < l.length by omega)
 rw [ayF]
 refine ⟨aeL zc (afW zc zc) (afW zc zc), ?_⟩
 rw [af6 zc zc]
theorem aIg {l : List Int} (ht : adM l) {lo hi : Int} (h1 : inU lo) (h2 : inU hi) {k : Nat} (hk : k ≤ l.length) : (arR l lo hi k).map (fun q => (aeV q q).1) = alW l lo hi k := by
 obtain ⟨-, a2, a3, a4⟩ := ad0 ht h1
 obtain ⟨-, b2, b3, b4⟩ := ad0 ht h2
 unfold arR alW
 rw [vE, vE, List.map_map, af6 a3 a4, af6 b3 b4]
 congr 2
 refine List.map_congr_left (fun j hj => ?_)
 have hj2 : j < k := List.mem_range.1 (wI.1 hj).1
 obtain ⟨v1, v2⟩ := ahW ht (show j < l.length by omega)
 show (aeV (mkRat (l.getD j 0) 65535) (mkRat (l.getD j 0) 65535)).1 = _
 rw [ayF, af6 zc zc]
theorem aOb {r : List Rat} (h1 : r ≠ []) (h2 : r.length ≤ 1000000) (h3 : ∀ q ∈ r, acB q ∧ (aeV q q).2.1 = 0) : af2 (r.map (fun q => fx q), ()) = some (ad4 (r.map fun q => (aeV q q).1), 0, ()) :=
 aaE (enc := fun l : List Rat => (l.map (fun q => fx q), ())) r ⟨h1, h2, h3⟩ (fun b hb => List.map_inj_right (fun a b hab => ad8 hab) |>.1 (Prod.mk.inj hb).1)
theorem arE (c : CvT × Unit) (x : BdT) (i : Int × Bool × List FxT × Unit) (l : List Int) (hc : c.1.2.1 = l) (ht : adM l) (hlo : inU x.1) (hhi : inU x.2.1) :
  adK (fun i2 => (aiY c x i i2).toO) (0, (arR l x.1 x.2.1 0).map (fun q => fx q), ()) = some (.inr (aoF l x.1 x.2.1, 0, ())) := by
 obtain ⟨lo, hi, u⟩ := x
 dsimp only at hlo hhi ⊢
 have hl1 := ht.1
 have hl2 := ht.2.1
 have w1 : w64 (len l - 1) = ((l.length - 1 : Nat) : Int) := by rw [aaB, aaA zc]; omega
 have hw : ∀ n : Int, inU n → w64 (n * ((l.length - 1 : Nat) : Int)) = n * ((l.length - 1 : Nat) : Int) := by
  intro n hn
  have a1 : 0 ≤ n * ((l.length - 1 : Nat) : Int) := yh hn.1 zc
  have a2 : n * ((l.length - 1 : Nat) : Int) ≤ 1000000000000 * ((l.length - 1 : Nat) : Int) := zE hn.2 zc
  exact aaA zc
 refine aaK (fun i : Int × List FxT × Unit => ∃ k : Nat, k ≤ l.length ∧ i = ((k : Int), (arR l lo hi k).map (fun q => fx q), ())) (fun i => ((l.length : Int) - i.1).toNat) (fun _ => Sum.inr (aoF l lo hi, 0, ())) ?_ _ ⟨0, by omega, rfl⟩
 rintro i ⟨k, k1, rfl⟩
 simp only [aiY, hc, aaL, w1, hw lo hlo, hw hi hhi]
 have hlen := aOA l lo hi k
 rcases zr k l.length with hk | hk
 ·left
  have wk : w64 ((k : Int) + 1) = ((k + 1 : Nat) : Int) := by rw [aaA zc]; omega
  have wm : w64 ((k : Int) * 1000000000000) = (k : Int) * 1000000000000 := aaA zc
  have bv := ahW ht hk
  have iv := af9 bv zc zc
  refine ⟨(((k + 1 : Nat) : Int), (arR l lo hi (k + 1)).map (fun q => fx q), ()), ?_, ⟨k + 1, by omega, rfl⟩, by dsimp only; omega, ze⟩
  rw [wk, wm]
  refine uT (zo (by rw [aaB]; omega)) (uN ⟨by omega, by rw [aaB]; omega⟩ (uC (aBC l lo hi k, ()) rfl ?_))
  rw [aLV]
  cases hin : aBC l lo hi k
  ·exact uF rfl rfl
  ·refine uT rfl (uC _ (adH (d := 65535) iv zc zc) (uN (by simp only [vK]; omega) ?_))
   refine uB (uB (uN zi ?_))
   rw [zt, if_pos rfl, xH]; rfl
 ·right
  obtain rfl : k = l.length := zc
  refine uF (zn (by rw [aaB]; omega)) (uC (aoF l lo hi, 0, ()) ?_ rfl)
  rw [zt, aOb (by unfold arR; simp) zc (aOB ht hlo hhi (zq _)), aIg ht hlo hhi (zq _)]
  rfl
theorem axJ (c : CvT × Unit) (x : BdT) (y) (h : afG (c, x, ()) = some y) : (akG c x).toO = some y := by
 unfold afG at h
 split at h
 case isFalse => cases h
 case isTrue hp =>
 obtain ⟨ht, hlo, hhi, hle⟩ := hp
 dsimp only at ht hlo hhi hle h
 injection h with h
 subst h
 obtain ⟨⟨kind, tab, l, u0⟩, u1⟩ := c
 obtain ⟨lo, hi, u2⟩ := x
 dsimp only at ht hlo hhi hle ⊢
 obtain ⟨a1, a2, a3, a4⟩ := ad0 ht hlo
 obtain ⟨b1, b2, b3, b4⟩ := ad0 ht hhi
 have hT : ∀ n : Int, inU n → ag5 (((kind, tab, l, ()), ()), fx (mkRat n 1000000000000), ()) = some (anU (aKu tab (mkRat n 1000000000000))) := by
  intro n hn
  have h0 : 0 ≤ mkRat n 1000000000000 := by
   have : (0 : Rat) = mkRat 0 1000000000000 := zf
   rw [this, aDz]; exact hn.1
  exact aDq (c := (kind, tab, l, ())) (adS hn) h0 (alV hn) ht
 unfold akG
 refine uO (0, true, [], ()) rfl ?_
 refine aaK (fun i : Int × Bool × List FxT × Unit => i = (0, true, [], ()) ∨ i = (1, false, [fx (mkRat (anF tab lo) 65535000000000000)], ()) ∨ i = (2, false, [fx (mkRat (anF tab lo) 65535000000000000), fx (mkRat (anF tab hi) 65535000000000000)], ())) (fun i => ((2 : Int) - i.1).toNat) (fun _ => (aoF tab lo hi, 0, ())) ?_ _ (Or.inl rfl)
 rintro i (rfl | rfl | rfl)
 ·left
  refine ⟨(1, false, [fx (mkRat (anF tab lo) 65535000000000000)], ()), ?_, Or.inr (Or.inl rfl), by dsimp only; omega, ze⟩
  refine uT rfl (uT rfl (uN ⟨by decide, by decide⟩ (uC _ (agP (d := 1000000000000) (aq1 hlo) zc zc) (uC _ (hT lo hlo) ?_))))
  rw [a1]
  exact uF rfl (uN zf rfl)
 ·left
  refine ⟨(2, false, [fx (mkRat (anF tab lo) 65535000000000000), fx (mkRat (anF tab hi) 65535000000000000)], ()), ?_, Or.inr (Or.inr rfl), by dsimp only; omega, ze⟩
  refine uF rfl (uT rfl (uN ⟨by dsimp only; omega, by dsimp only; omega⟩ (uC _ (agP (d := 1000000000000) (aq1 hhi) zc zc) (uC _ (hT hi hhi) ?_))))
  rw [b1]
  refine uF rfl (uN zi ?_)
  refine uB (uB (uN zi rfl))
 ·right
  refine uF rfl (uF rfl ?_)
  refine uO (0, (arR tab lo hi 0).map (fun q => fx q), ()) rfl ?_
  exact arE _ (lo, hi, u2) _ tab rfl ht hlo hhi
set_option maxRecDepth 100000
open Go Go.Vg Go.Proofs
noncomputable section
def aUI : LTab := []
def aQi (n : Int) (d : Int) : TT sA :=
 .call (arJ (n, d, ())) adZ fun y =>
 .ok (((y.1.1, y.1.2.1, ()), ()))
def aQg : LTab := []
def l9_tent_t : TT ti :=
 .ok (((2, List.take 3 [0, 65535, 0], [], ()), ()))
def aM8 : LTab := []
def l9_steps_t : TT ti :=
 .ok (((3, [], List.take 2 [(500000, 1000000, 0, 1, 1, 0, ()), (1000000, 2000000, -1000000, 2, 1, 500000, ())], ()), ()))
def aQh : LTab := []
def l9_root_t : TT ti :=
 .ok (((3, [], [(1000000, 1000000, 0, 1, 2, 0, ())], ()), ()))
def aM6 : LTab := []
def au8 (c : Int × List Int × List uo × Unit) (x : List UInt8 × List UInt8 × Unit) (y : List UInt8 × List UInt8 × Unit) : TT uP :=
 .call (acR ((c.1, c.2.1, c.2.2.1, ()), (x.1, x.2.1, ()), ())) adZ fun y1 =>
 .ite ((match y1.1.1 == y.1 with | true => (match y1.1.2.1 == y.2.1 with | true => true | false => false) | false => false))
 (.ok ((y1.2.1 == 0, ())))
 (.ok ((false, ())))
def aM5 : LTab := []
def l9_wakes_t : TT uP :=
 .call (atL ()) aOc fun y =>
 .call (ad5 (1, 4, ())) ac5 fun y1 =>
 .call (acR (y.1, y1.1, ())) adZ fun y2 =>
 .call (atL ()) aOc fun y3 =>
 .call (adY (y3.1, (250000000000, 250000000000, ()), ())) am9 fun y4 =>
 .call (alF ()) aOc fun y5 =>
 .call (adY (y5.1, (250000000000, 750000000000, ()), ())) am9 fun y6 =>
 .call (alF ()) aOc fun y7 =>
 .call (aoT (y7.1, ())) aDr fun y8 =>
 .call (alF ()) aOc fun y9 =>
 .call (ad5 (1, 4, ())) ac5 fun y10 =>
 .call (ad5 (1, 2, ())) ac5 fun y11 =>
 .call (ae1 (y9.1, y10.1, y11.1, ())) Dd1 fun y12 =>
 .ite (y12.1)
 (.call (alF ()) aOc fun y13 =>
 .call (ad5 (2, 1, ())) ac5 fun y14 =>
 .call (ad5 (0, 1, ())) ac5 fun y15 =>
 .call (ae1 (y13.1, y14.1, y15.1, ())) Dd1 fun y16 =>
 .ite (y16.1)
 (.call (apX ()) aOc fun y17 =>
 .call (ad5 (3, 4, ())) ac5 fun y18 =>
 .call (ad5 (3, 4, ())) ac5 fun y19 =>
 .call (ae1 (y17.1, y18.1, y19.1, ())) Dd1 fun y20 =>
 .ite (y20.1)
 (.call (apX ()) aOc fun y21 =>
 .call (ad5 (1, 2, ())) ac5 fun y22 =>
 .call (ad5 (1, 2, ())) ac5 fun y23 =>
 .call (ae1 (y21.1, y22.1, y23.1, ())) Dd1 fun y24 =>
 .ite (y24.1)
 (.ite (y2.2.1 == 5)
 (.ite ((match y4.1.1 == 500000000000 with | true => (match y4.1.2.1 == 500000000000 with | true => true | false => false) | false => false))
 (.ite (y4.2.1 == 0)
 (.ite ((match y6.1.1 == 500000000000 with | true => (match y6.1.2.1 == 1000000000000 with | true => true | false => false) | false => false))
 (.ite (y6.2.1 == 0)
 (.ite (y8.1 == 0)
 (.ite (y8.2.1 == 0)
 (.call (ahV ((0, [], [], ()), ())) Dd6 fun y25 =>
 .ok ((y25.1 == 90, ())))
 (.ok ((false, ()))))
 (.ok ((false, ()))))
 (.ok ((false, ()))))
 (.ok ((false, ()))))
 (.ok ((false, ()))))
 (.ok ((false, ()))))
 (.ok ((false, ()))))
 (.ok ((false, ()))))
 (.ok ((false, ()))))
 (.ok ((false, ()))))
 (.ok ((false, ())))
end
theorem aQj (n d : Int) (y) (h : ad5 (n, d, ()) = some y) : (aQi n d).toO = some y := by
 unfold ad5 ab4 at h
 split at h
 ·rename_i hp
  exact uC (ofQ n d) (by unfold arJ am5; rw [if_pos hp]) h
 ·cases h
theorem aJo (y) (h : alF () = some y) : l9_tent_t.toO = some y := h
theorem aGQ (y) (h : apX () = some y) : l9_steps_t.toO = some y := h
theorem aJp (y) (h : atL () = some y) : l9_root_t.toO = some y := h
theorem aGO (c : CvT) (x z : FxT) (y) (h : ae1 (c, x, z, ()) = some y) : (au8 c x z).toO = some y := by
 unfold ae1 at h
 dsimp only at h
 cases hr : acR (c, x, ()) with
 | none => rw [hr] at h; cases h
 | some r =>
  rw [hr] at h
  injection h with h
  subst h
  unfold au8
  refine uC r hr ?_
  obtain ⟨⟨r1, r2, r3⟩, r4, r5⟩ := r
  obtain ⟨z1, z2, z3⟩ := z
  dsimp only
  by_cases c1 : r1 = z1
  ·subst c1
   by_cases c2 : r2 = z2
   ·subst c2
    refine uT zi ?_
    rw [aaI]
    by_cases c3 : r4 = 0
    ·subst c3
     rw [aLf rfl]; rfl
    ·rw [aAn (fun h => c3 (by injection h with _ h; injection h with h _)), beq_eq_false_iff_ne.2 c3]
   ·rw [aAn (fun h => c2 (by injection h with h _; injection h with _ h; injection h with h _))]
    refine uF ?_ rfl
    simp [beq_eq_false_iff_ne.2 c2]
  ·rw [aAn (fun h => c1 (by injection h with h _; injection h with h _))]
   refine uF ?_ rfl
   simp [beq_eq_false_iff_ne.2 c1]
theorem ao4 : abJ auB := zf
theorem ayK : abJ stepsC := zf
theorem aB4 : abJ rootC := zf
theorem aKt : adM [0, 65535, 0] := zf
theorem an3 {n : Int} {d : Nat} (hn : aa3 n) (hd : d ≠ 0) (h2 : d ≤ 9223372036854775807) : ad5 (n, (d : Int), ()) = some (fx (mkRat n d), ()) := agP hn hd h2
theorem aLT : aoT (auB, ()) = some (0, 0, ()) := by
 unfold aoT; dsimp only; rw [if_pos ao4]; decide
theorem asQ {c : CvT} (hr : abJ c) {n : Int} (hn : inU n) : acR (c, fx (mkRat n 1000000000000), ()) = some (axH c (mkRat n 1000000000000)) := by
 unfold acR
 dsimp only
 rw [if_pos hr, ae3 (adS hn)]
 dsimp only
 rw [amL hn]
theorem aFs : acR (auB, fx (mkRat 1 4), ()) = some (fx (mkRat 1 2), 0, ()) := by
 have e : mkRat 1 4 = mkRat 250000000000 1000000000000 := by rw [yd zc zc]; omega
 have hu : inU 250000000000 := ⟨by omega, by omega⟩
 rw [e, asQ ao4 hu]
 obtain ⟨q1, -⟩ := ad0 aKt hu
 have : axH auB (mkRat 250000000000 1000000000000) = anU (aKu [0, 65535, 0] (mkRat 250000000000 1000000000000)) := rfl
 rw [this, q1]
 have hm : anF [0, 65535, 0] 250000000000 = 32767500000000000 := zf
 have e2 : mkRat 32767500000000000 65535000000000000 = mkRat 1 2 := by rw [yd zc zc]; omega
 rw [hm, e2]; rfl
theorem aSe : acR (auB, fx (mkRat 2 1), ()) = some (fx (mkRat 0 1), 0, ()) := by
 have hf : acB (mkRat 2 1) := aa9 ⟨by omega, by omega⟩
 have hc : afF (mkRat 2 1) = mkRat 1000000000000 1000000000000 := by
  rw [aKq]
  unfold afF
  rw [if_neg zf, if_pos zf]
 have hu : inU 1000000000000 := ⟨by omega, by omega⟩
 unfold acR
 dsimp only
 rw [if_pos ao4, ae3 hf]
 dsimp only
 rw [hc]
 obtain ⟨q1, -⟩ := ad0 aKt hu
 have : axH auB (mkRat 1000000000000 1000000000000) = anU (aKu [0, 65535, 0] (mkRat 1000000000000 1000000000000)) := rfl
 rw [this, q1]
 have hm : anF [0, 65535, 0] 1000000000000 = 0 := zf
 have e2 : mkRat 0 65535000000000000 = mkRat 0 1 := by rw [yd zc zc]; omega
 rw [hm, e2]; rfl
theorem aLU : adY (auB, (250000000000, 750000000000, ()), ()) = some ((500000000000, 1000000000000, ()), 0, ()) := by
 unfold adY
 dsimp only
 rw [if_pos ao4, if_pos zf]
 have : aAR auB (am6 (250000000000, 750000000000, ())) = (aoF [0, 65535, 0] 250000000000 750000000000, 0, ()) := rfl
 rw [this]
 have h2 : aoF [0, 65535, 0] 250000000000 750000000000 = (500000000000, 1000000000000, ()) := zf
 rw [h2]
theorem aFy : acR (rootC, fx (mkRat 1 4), ()) = some (([], [], ()), 5, ()) := by
 have e : mkRat 1 4 = mkRat 250000000000 1000000000000 := by rw [yd zc zc]; omega
 have hu : inU 250000000000 := ⟨by omega, by omega⟩
 rw [e, asQ aB4 hu]
 have : axH rootC (mkRat 250000000000 1000000000000) = az6 rootC.2.2.1 (mkRat 250000000000 1000000000000) := rfl
 rw [this]
 unfold az6
 rw [akO]
 have hp : aaY 250000000000 rootC.2.2.1 = 0 := zf
 rw [hp, if_neg zf]
theorem aM2 : ahV ((0, [], [], ()), ()) = some (90, ()) := zf
theorem aHj : arA 1 2 250000000000 = 500000000000 := by
 unfold arA
 exact aEk zc zf zf
theorem aGh : aH2 (250000000000, 250000000000, ()) 1 2 = ((500000000000, 500000000000, ()), 0, ()) := by
 unfold aH2
 have hp : ∀ b : Bool, at6 1 2 250000000000 b = (500000000000, 0, ()) := by
  intro b
  unfold at6
  rw [aHj, if_neg zf, if_neg (fun h => h.2 zf)]
  rfl
 have e1 : (1 : Int).toNat = 1 := rfl
 have e2 : (2 : Int).toNat = 2 := rfl
 have e3 : (250000000000 : Int).toNat = 250000000000 := rfl
 dsimp only
 rw [if_pos zf, if_pos zf, e1, e2, e3, hp, hp]
 decide
theorem aLZ : adY (rootC, (250000000000, 250000000000, ()), ()) = some ((500000000000, 500000000000, ()), 0, ()) := by
 unfold adY
 dsimp only
 rw [if_pos aB4, if_pos zf]
 have h1 : aAR rootC (am6 (250000000000, 250000000000, ())) = aoG [(1000000, 1000000, 0, 1, 2, 0, ())] 250000000000 250000000000 := rfl
 rw [h1]
 unfold aoG
 have hp : aaY 250000000000 [((1000000, 1000000, 0, 1, 2, 0, ()) : adI)] = 0 := zf
 rw [hp]
 show some (arH _ _ _ 1 0 []) = _
 have hs : am8 [(1000000, 1000000, 0, 1, 2, 0, ())] 250000000000 250000000000 0 = ((500000000000, 500000000000, ()), 0, ()) := by
  unfold am8
  have e1 : max (250000000000 : Int) (abC [(1000000, 1000000, 0, 1, 2, 0, ())] 0 * 1000000) = 250000000000 := zf
  have e2 : min (250000000000 : Int) ((([(1000000, 1000000, 0, 1, 2, 0, ())] : List adI).getD 0 (0, 0, 0, 0, 0, 0, ())).1 * 1000000) = 250000000000 := zf
  rw [e1, e2]
  show auE (1000000, 1000000, 0, 1, 2, 0, ()) 250000000000 250000000000 = _
  unfold auE
  have e3 : auD (1000000, 1000000, 0, 1, 2, 0, ()) 250000000000 250000000000 = (250000000000, 250000000000, ()) := zf
  rw [e3]
  dsimp only
  rw [aGh]
  decide
 rw [ajS, hs]
 decide
theorem aJA {n : Int} {d : Nat} (hd : d ≠ 0) (hn : aa3 n) (h2 : d ≤ 9223372036854775807) : acB (mkRat n d) := aeL hd (abK hn) (abK ⟨by omega, by omega⟩)
theorem aIi : acR (stepsC, fx (mkRat 3 4), ()) = some (fx (mkRat 3 4), 0, ()) := by
 have e : mkRat 3 4 = mkRat 750000000000 1000000000000 := by rw [yd zc zc]; omega
 have hu : inU 750000000000 := ⟨by omega, by omega⟩
 rw [e, asQ ayK hu]
 have : axH stepsC (mkRat 750000000000 1000000000000) = az6 stepsC.2.2.1 (mkRat 750000000000 1000000000000) := rfl
 rw [this]
 unfold az6
 rw [akO]
 have hp : aaY 750000000000 stepsC.2.2.1 = 1 := zf
 rw [hp, if_pos zf]
 show some (anU (aEr (1000000, 2000000, -1000000, 2, 1, 500000, ()) (mkRat 750000000000 1000000000000))) = _
 unfold aEr
 dsimp only
 obtain ⟨l1, -⟩ := agU (m := 2000000) (a := -1000000) ⟨by omega, by omega⟩ ⟨by omega, by omega⟩ hu
 have hm : af8 2000000 (-1000000) 750000000000 = 500000000000000000 := zf
 have e2 : mkRat 500000000000000000 1000000000000000000 = mkRat 1 2 := by rw [yd zc zc]; omega
 rw [l1, hm, e2]
 simp only [zP]
 have hpos : aI0 (mkRat 1 2) = mkRat 1 2 := by unfold aI0; rw [if_neg zf]
 have hn : ((2 : Int) - 1).toNat = 1 := rfl
 rw [hpos, hn]
 have hmul : mkRat 1 2 * mkRat 1 2 = mkRat 1 4 := by rw [yO]; rfl
 have h1 : acX (mkRat 1 2) 1 (mkRat 1 2) = some (mkRat 1 4) := by
  show (abQ (mkRat 1 2 * mkRat 1 2)).bind some = _
  rw [hmul]; unfold abQ
  rw [if_pos (aJA zc ⟨by omega, by omega⟩ zc)]; rfl
 rw [h1]
 simp only [zP]
 have hadd : mkRat 1 4 + mkRat 500000 1000000 = mkRat 3 4 := by
  rw [xN _ _ zc zc, yd zc zc]; decide
 have hc : afF (mkRat 3 4) = mkRat 3 4 := by rw [e]; exact amL hu
 rw [hadd]
 unfold abQ
 rw [if_pos (aJA zc ⟨by omega, by omega⟩ zc)]
 show some (anU (some (afF (mkRat 3 4)))) = _
 rw [hc, ← e]; rfl
theorem aLW : acR (stepsC, fx (mkRat 1 2), ()) = some (fx (mkRat 1 2), 0, ()) := by
 have e : mkRat 1 2 = mkRat 500000000000 1000000000000 := by rw [yd zc zc]; omega
 have hu : inU 500000000000 := ⟨by omega, by omega⟩
 rw [e, asQ ayK hu]
 have : axH stepsC (mkRat 500000000000 1000000000000) = az6 stepsC.2.2.1 (mkRat 500000000000 1000000000000) := rfl
 rw [this]
 unfold az6
 rw [akO]
 have hp : aaY 500000000000 stepsC.2.2.1 = 0 := zf
 rw [hp, if_pos zf]
 show some (anU (aEr (500000, 1000000, 0, 1, 1, 0, ()) (mkRat 500000000000 1000000000000))) = _
 unfold aEr
 dsimp only
 obtain ⟨l1, -⟩ := agU (m := 1000000) (a := 0) ⟨by omega, by omega⟩ ⟨by omega, by omega⟩ hu
 have hm : af8 1000000 0 500000000000 = 500000000000000000 := zf
 have e2 : mkRat 500000000000000000 1000000000000000000 = mkRat 1 2 := by rw [yd zc zc]; omega
 rw [l1, hm, e2]
 simp only [zP]
 have hpos : aI0 (mkRat 1 2) = mkRat 1 2 := by unfold aI0; rw [if_neg zf]
 have hn : ((1 : Int) - 1).toNat = 0 := rfl
 rw [hpos, hn]
 have h1 : acX (mkRat 1 2) 0 (mkRat 1 2) = some (mkRat 1 2) := rfl
 rw [h1]
 simp only [zP]
 have hadd : mkRat 1 2 + mkRat 0 1000000 = mkRat 1 2 := by
  rw [xN _ _ zc zc, yd zc zc]; decide
 have hc : afF (mkRat 1 2) = mkRat 1 2 := by rw [e]; exact amL hu
 rw [hadd]
 unfold abQ
 rw [if_pos (aJA zc ⟨by omega, by omega⟩ zc)]
 show some (anU (some (afF (mkRat 1 2)))) = _
 rw [hc, ← e]; rfl
theorem axO {c : CvT} {x z : FxT} (h : acR (c, x, ()) = some (z, 0, ())) : ae1 (c, x, z, ()) = some (true, ()) := by
 unfold ae1
 dsimp only
 rw [h]
 show some (eqb (z, 0, ()) (z, 0, ()), ()) = _
 rw [aLf rfl]
theorem aGN (y) (h : av4 () = some y) : l9_wakes_t.toO = some y := by
 injection h with h
 subst h
 unfold l9_wakes_t
 have o14 : ad5 (1, 4, ()) = some (fx (mkRat 1 4), ()) := an3 (d := 4) ⟨by omega, by omega⟩ zc zc
 have o12 : ad5 (1, 2, ()) = some (fx (mkRat 1 2), ()) := an3 (d := 2) ⟨by omega, by omega⟩ zc zc
 have o21 : ad5 (2, 1, ()) = some (fx (mkRat 2 1), ()) := an3 (d := 1) ⟨by omega, by omega⟩ zc zc
 have o01 : ad5 (0, 1, ()) = some (fx (mkRat 0 1), ()) := an3 (d := 1) ⟨by omega, by omega⟩ zc zc
 have o34 : ad5 (3, 4, ()) = some (fx (mkRat 3 4), ()) := an3 (d := 4) ⟨by omega, by omega⟩ zc zc
 refine uC (rootC, ()) rfl (uC _ o14 (uC _ aFy (uC (rootC, ()) rfl (uC _ aLZ ?_))))
 refine uC (auB, ()) rfl (uC _ aLU (uC (auB, ()) rfl (uC _ aLT ?_)))
 refine uC (auB, ()) rfl (uC _ o14 (uC _ o12 (uC _ (axO aFs) (uT rfl ?_))))
 refine uC (auB, ()) rfl (uC _ o21 (uC _ o01 (uC _ (axO aSe) (uT rfl ?_))))
 refine uC (stepsC, ()) rfl (uC _ o34 (uC _ o34 (uC _ (axO aIi) (uT rfl ?_))))
 refine uC (stepsC, ()) rfl (uC _ o12 (uC _ o12 (uC _ (axO aLW) (uT rfl ?_))))
 refine uT rfl (uT rfl (uT rfl (uT rfl (uT rfl (uT rfl (uT rfl ?_))))))
 exact uC _ aM2 rfl
end Go.Vs
