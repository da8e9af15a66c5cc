/-
  The engine, part DA: a deferred closure that recovers: its first region. Own work; no condition.
-/
import Derived.Test.YtbdojimkdgajgaaGreatDoorEngW
import Derived.RecoverIn
namespace Go.Vg
open Go Go.RowKit

/-- Operations that neither call nor wait. -/
def simpleOp (o : Oper) : Bool :=
  match o.op with
  | .move _ | .assign _ | .alloc _ | .load .. | .store .. | .extract .. | .typeAssert .. | .fieldAddr .. | .makeFunc .. | .binOp .. | .unOp .. => true
  | _ => false

section
variable {P : Program} {ops : Array Oper}

theorem run_value {s : Sem Value} {w w' : World} {n : Next} (h : (do pure (Next.value (← s)) : Sem Next).run P w = .ok n w') : ∃ v, n = .value v := by
  simp only [Sem.run_bind] at h
  cases hs : s.run P w with
  | ok v w1 =>
    rw [hs] at h
    simp only [Result.andThen_ok, Sem.run_pure] at h
    injection h with h1 h2
    exact ⟨v, h1.symm⟩
  | halt x w1 => rw [hs] at h; cases h

theorem run_skip {s : Sem Unit} {w w' : World} {n : Next} (h : (do s; pure Next.skip : Sem Next).run P w = .ok n w') : n = .skip := by
  simp only [Sem.run_bind] at h
  cases hs : s.run P w with
  | ok v w1 =>
    rw [hs] at h
    simp only [Result.andThen_ok, Sem.run_pure] at h
    injection h with h1 h2
    exact h1.symm
  | halt x w1 => rw [hs] at h; cases h

theorem simple_run {o : Oper} {ρ : Operand → Value} {w w' : World} {n : Next} (hs : simpleOp o = true) (h : (execOp ρ o).run P w = .ok n w') : (∃ v, n = .value v) ∨ n = .skip := by
  unfold simpleOp at hs
  split at hs
  case h_12 => cases hs
  all_goals rename_i ho; simp only [execOp, ho] at h
  all_goals first
    | exact Or.inl (run_value h)
    | exact Or.inr (run_skip h)
    | (simp only [Sem.run_pure] at h; injection h with h1 h2; exact Or.inl ⟨_, h1.symm⟩)

theorem listS {Q : Exit → Act → World → Prop} {cs : List Frame} : ∀ (l : List Oper) (j : Nat) (a : Act) (w : World), ops.toList.drop j = l → (∀ o ∈ l, simpleOp o = true) → wpListIn (wideR none) 0 P ops Q l a w →
    wpOpsSIn (wideR none) 0 P ops (fun e a' cs' w' => cs' = cs ∧ Q e a' w') (List.range' j l.length) a cs w
  | [], j, a, w, hd, hs, h => ⟨rfl, h⟩
  | o :: rest, j, a, w, hd, hs, h => by
    have hjl : j < ops.toList.length := by
      rcases Nat.lt_or_ge j ops.toList.length with h | h
      · exact h
      · rw [List.drop_eq_nil_iff.2 h] at hd; cases hd
    have hlj : ops.toList[j]? = some o := by
      have := congrArg (fun x => x[0]?) hd
      simpa using this
    have hoj : ops[j]? = some o := by rw [Array.getElem?_toList] at hlj; exact hlj
    have hdr : ops.toList.drop (j + 1) = rest := by
      rw [List.drop_eq_getElem_cons hjl] at hd
      injection hd
    have ih : ∀ (a : Act) (w : World), wpListIn (wideR none) 0 P ops Q rest a w → wpOpsSIn (wideR none) 0 P ops (fun e a' cs' w' => cs' = cs ∧ Q e a' w') (List.range' (j + 1) rest.length) a cs w :=
      fun a w h => listS (Q := Q) (cs := cs) rest (j + 1) a w hdr (fun x hx => hs x (List.mem_cons_of_mem _ hx)) h
    simp only [List.length_cons, List.range'_succ, wpOpsSIn, hoj]
    unfold wpListIn at h
    split at h
    · rename_i hw
      rw [if_pos hw]
      obtain ⟨h1, h2⟩ := h
      refine ⟨h1, ?_⟩
      change Oper.uponIn (wideR none) 0 P o a (wpListIn (wideR none) 0 P ops Q rest) Q ((execOp a.eval o).run P w) at h2
      cases hr : (execOp a.eval o).run P w with
      | ok n w' =>
        rw [hr] at h2
        rcases simple_run (hs o (List.mem_cons_self ..)) hr with ⟨v, rfl⟩ | rfl
        · exact ih _ _ h2
        · exact ih _ _ h2
      | halt x w' =>
        rw [hr] at h2
        cases x <;> first | exact h2.elim | exact ⟨trivial, h2⟩
    · rename_i hw
      rw [if_neg hw]
      exact ⟨h.1, ih _ _ h.2⟩

/-- The operation that recovers. -/
def isRecover (o : Oper) : Bool :=
  match o.op, o.guard with
  | .call { callee := .builtin .recover, .. }, none => true
  | _, _ => false

theorem recover_run {o : Oper} (h : isRecover o = true) (ρ : Operand → Value) (w : World) : (execOp ρ o).run P w = .ok .recover w ∧ o.guard = none := by
  unfold isRecover at h
  split at h
  · rename_i args ts ho hg
    exact ⟨by simp [execOp, ho, resolve, invoke, builtin], hg⟩
  · cases h

theorem opsS_mono {F : Fence} {n : Nat} {Q Q' : Exit → Act → List Frame → World → Prop} (hQ : ∀ e a cs w, Q e a cs w → Q' e a cs w) : ∀ (l : List Nat) (a : Act) (cs : List Frame) (w : World), wpOpsSIn F n P ops Q l a cs w → wpOpsSIn F n P ops Q' l a cs w
  | [], _, _, _, h => hQ _ _ _ _ h
  | i :: rest, a, cs, w, h => by
    have ih : ∀ (a : Act) (cs : List Frame) (w : World), wpOpsSIn F n P ops Q rest a cs w → wpOpsSIn F n P ops Q' rest a cs w := fun a cs w h => opsS_mono hQ rest a cs w h
    simp only [wpOpsSIn] at h ⊢
    cases ho : ops[i]? with
    | none => simp only [ho] at h; exact ih _ _ _ h
    | some o =>
      simp only [ho] at h ⊢
      refine ⟨h.1, ?_⟩
      have h2 := h.2
      split at h2
      · rename_i hw
        rw [if_pos hw]
        split at h2
        · rename_i w' hr
          split at h2
          · rename_i v cs' hc
            exact ih _ _ _ h2
          · rename_i hc
            exact ih _ _ _ h2
        · rename_i v w' hr
          exact ih _ _ _ h2
        · rename_i w' hr
          exact ih _ _ _ h2
        · rename_i v w' hr
          exact hQ _ _ _ _ h2
        · exact h2.elim
      · rename_i hw
        rw [if_neg hw]
        exact ih _ _ _ h2

/-- What recover hands over, and the mode behind it. -/
inductive Rec : FrameMode → Value → FrameMode → Prop where
  | none : Rec .returning .nilIface .returning
  | some (v : Value) (older : List PanicEntry) : Rec (.panicking (⟨v, false, false⟩ :: older)) v (.panicking (⟨v, true, false⟩ :: older))

/-- A deferred closure whose body begins with a region that recovers first. -/
theorem closure_calls {g : FuncId} {gn : Func} {id : Nat} {o : Oper} {B : Code} {vc : List Value} {u u' : FrameMode} {v : Value} {w : World} {K : World → Prop}
    (hg : P.funcs[g]? = some gn) (hb : gn.body = some (.seq (.region id ops false) B)) (h0 : ops.toList[0]? = some o) (hrec : isRecover o = true) (hsim : ∀ x ∈ ops.toList.drop 1, simpleOp x = true) (hres : gn.results = #[]) (hv : Rec u v u')
    (h : wpListIn (wideR none) 0 P ops (fun e a w' => match e with
      | .normal => B.wpIn (wideR none) 0 P (fun e a' w'' => (e = .normal ∨ e = .ret) ∧ a'.defers = [] ∧ K w'') a w'
      | _ => False) (ops.toList.drop 1) (({ tmps := (⟨vc⟩ : Array Value) ++ Array.replicate (gn.ntmps - (⟨vc⟩ : Array Value).size) undef, defers := [] } : Act).put o.dst v) w) :
    CallsDIn (wideR none) 0 P g ⟨vc⟩ u w fun e u1 w' => (∃ x, e = .returned x) ∧ u1 = u' ∧ K w' := by
  refine callsDIn_of_wpSIn hg hb trivial (fun c₀ cs hu => ?_)
  refine wpSIn_seq (wpSIn_region ?_)
  have hsz : 0 < ops.size := by
    have := (List.getElem?_eq_some_iff.1 h0).1
    simpa using this
  have ho0 : ops[0]? = some o := by rw [Array.getElem?_toList] at h0; exact h0
  have hlist : List.range ops.size = 0 :: List.range' 1 (ops.toList.drop 1).length := by
    rw [List.range_eq_range']
    obtain ⟨n, hn⟩ : ∃ n, ops.size = n + 1 := ⟨ops.size - 1, by omega⟩
    rw [hn, List.range'_succ]
    simp [hn]
  rw [hlist]
  obtain ⟨hr, hgu⟩ := recover_run (P := P) hrec ({ tmps := (⟨vc⟩ : Array Value) ++ Array.replicate (gn.ntmps - (⟨vc⟩ : Array Value).size) undef, defers := [] } : Act).eval w
  have hw : Region.wanted o (yielded ops ((⟨vc⟩ : Array Value) ++ Array.replicate (gn.ntmps - (⟨vc⟩ : Array Value).size) undef)) = true := by simp [Region.wanted, hgu]
  have tail : ∀ (c1 : Frame), c1 = { c₀ with mode := u' } → wpOpsSIn (wideR none) 0 P ops (Exit.thenS (B.wpSIn (wideR none) 0 P (bodyPostS P gn c₀ cs (fun e u1 w' => (∃ x, e = .returned x) ∧ u1 = u' ∧ K w'))) (bodyPostS P gn c₀ cs (fun e u1 w' => (∃ x, e = .returned x) ∧ u1 = u' ∧ K w')))
      (List.range' 1 (ops.toList.drop 1).length) (({ tmps := (⟨vc⟩ : Array Value) ++ Array.replicate (gn.ntmps - (⟨vc⟩ : Array Value).size) undef, defers := [] } : Act).put o.dst v) (c1 :: cs) w := by
    intro c1 hc1
    refine opsS_mono ?_ _ _ _ _ (listS (cs := c1 :: cs) (ops.toList.drop 1) 1 _ w rfl hsim h)
    rintro e a' cs' w' ⟨rfl, hq⟩
    cases e with
    | normal =>
      refine wpSIn_of_wpIn rfl (wpIn_mono hq ?_)
      rintro e a2 w2 ⟨he, hd, hK⟩
      have hR : (results gn a2.tmps).run P w2 = .ok (.tuple #[]) w2 := by simp [results, hres]
      rcases he with rfl | rfl
      · exact ⟨hd, u', by rw [hc1], _, hR, ⟨_, rfl⟩, rfl, hK⟩
      · exact ⟨hd, u', by rw [hc1], _, hR, ⟨_, rfl⟩, rfl, hK⟩
    | _ => exact hq.elim
  simp only [wpOpsSIn, ho0]
  refine ⟨fun _ _ => trivial, ?_⟩
  rw [if_pos hw, hr]
  cases hv with
  | none =>
    have e1 : recoverD (c₀ :: cs) = none := by simp [recoverD, hu]
    simp only [e1]
    exact tail c₀ (by cases c₀; simp only at hu; subst hu; rfl)
  | some v older =>
    have e1 : recoverD (c₀ :: cs) = some (v, { c₀ with mode := .panicking (⟨v, true, false⟩ :: older) } :: cs) := by simp [recoverD, hu]
    simp only [e1]
    exact tail _ rfl
end
end Go.Vg
