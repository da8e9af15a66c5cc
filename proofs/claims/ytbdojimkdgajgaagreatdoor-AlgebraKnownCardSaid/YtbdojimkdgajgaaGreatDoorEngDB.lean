/-
  The engine, part DB: the operation that defers a closure, and the way out through a deferred closure. Own work; no condition.
-/
import Derived.Test.YtbdojimkdgajgaaGreatDoorEngDA
namespace Go.Vg
open Go Go.RowKit

/-- What holds behind a list of operations, and how they may panic. -/
def nextQ (X : Act → World → Prop) (Q : Exit → Act → World → Prop) : Exit → Act → World → Prop
  | .normal, a, w => X a w
  | .exit i, a, w => Q (.exit i) a w
  | .goto l, a, w => Q (.goto l) a w
  | .ret, a, w => Q .ret a w
  | .panic ch, a, w => Q (.panic ch) a w
  | .outgrown, a, w => Q .outgrown a w

section
variable {P : Program} {ops : Array Oper} {F : Fence} {n : Nat}

theorem wpIn_nextQ {o : Oper} {a : Act} {w : World} {K : Act → World → Prop} {X : Act → World → Prop} {Q : Exit → Act → World → Prop} (h : o.wpIn F n P a w K (nextQ X Q)) : o.wpIn F n P a w K Q := by
  obtain ⟨h1, h2⟩ := h
  refine ⟨h1, ?_⟩
  generalize (o.semAt F.round a.eval).run P w = r at h2
  cases r with
  | ok x w' => cases x <;> exact h2
  | halt x w' => cases x <;> exact h2

theorem list_append {Q : Exit → Act → World → Prop} {l2 : List Oper} : ∀ (l1 : List Oper) (a : Act) (w : World), wpListIn F n P ops (nextQ (wpListIn F n P ops Q l2) Q) l1 a w → wpListIn F n P ops Q (l1 ++ l2) a w
  | [], _, _, h => h
  | o :: rest, a, w, h => by
    simp only [List.cons_append, wpListIn] at h ⊢
    split at h
    · rename_i hw
      rw [if_pos hw]
      exact wpIn_nextQ (Oper.wpIn_mono (fun a w => list_append rest a w) h)
    · rename_i hw
      rw [if_neg hw]
      exact ⟨h.1, list_append rest _ _ h.2⟩

/-- The deferred call of a closure without arguments. -/
def defOf (g : FuncId) (vc : List Value) : Deferred := { target := .fn (.func g) ⟨vc⟩, args := #[] }

theorem list_defer {Q : Exit → Act → World → Prop} {o : Oper} {f : Operand} {ts : Array TypeId} {g : FuncId} {vc : List Value} {a : Act} {w : World} (ho : o.op = .defer { callee := .value f, args := #[], argTypes := ts }) (hg : o.guard = none)
    (hf : a.eval f = .func (.func g) #[] ⟨vc⟩) (h : Q .normal ({ a with defers := defOf g vc :: a.defers }.put o.dst undef) w) : wpListIn (wideR none) 0 P ops Q [o] a w := by
  unfold wpListIn
  rw [if_pos (by simp [Region.wanted, hg])]
  refine ⟨fun _ _ => trivial, ?_⟩
  have hr : (execOp a.eval o).run P w = .ok (.defer (defOf g vc)) w := by
    simp [execOp, ho, resolve, Deferred.ofValue, hf, defOf]
  change Oper.uponIn (wideR none) 0 P o a (wpListIn (wideR none) 0 P ops Q []) Q ((execOp a.eval o).run P w)
  rw [hr]
  exact h

/-- The way out through one deferred closure. -/
theorem leaves_closure {fn : Func} {tmps : Array Value} {R : Ending → World → Prop} {g : FuncId} {vc : List Value} {u u' : FrameMode} {w : World} {K : World → Prop} (hu : u ≠ .run) (he : enters P g = true)
    (hc : CallsDIn (wideR none) 0 P g ⟨vc⟩ u w fun e u1 w' => (∃ x, e = .returned x) ∧ u1 = u' ∧ K w') (h : ∀ w', K w' → LeavesIn (wideR none) 0 P fn tmps R [] (settle u') w') :
    LeavesInM (wideR none) 0 P fn tmps R [defOf g vc] u w := by
  refine ⟨hu, Or.inr ⟨(fun h => by cases h), .func g, ⟨vc⟩, g, ⟨vc⟩, rfl, ?_, fun _ _ => trivial, ?_⟩⟩
  · have := enters_run (P := P) (w := w) he ⟨vc⟩
    simpa [defOf, invoke] using this
  · refine hc.mono ?_
    rintro e u1 w' ⟨⟨x, rfl⟩, rfl, hK⟩
    exact h w' hK
end
end Go.Vg
