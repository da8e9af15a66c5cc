/-
  The runner, part P: one long run in pieces: a call in a table, a body cut at a place, a loop cut between rounds. Own work; no condition.
-/
import Derived.Test.YtbfajgbedclfeaaGreatDoorRunH
namespace Go.Vg
open Go Go.RowKit

/-! A call in a table. -/
def firstC (tab call : CallR) : CallR := fun t args H n => match tab t args H n with
  | some x => some x
  | none => call t args H n

theorem firstC_eq {tab call : CallR} (h : ∀ t a H n x, tab t a H n = some x → call t a H n = some x) : firstC tab call = call := by
  funext t a H n
  unfold firstC
  cases hx : tab t a H n with
  | none => rfl
  | some x => exact (h _ _ _ _ _ hx).symm

def tab1 (f : Nat) (args0 : List AV) (H0 : Heap) (n0 : Nat) (x0 : AV × Heap × Nat) : CallR := fun t args H n =>
  match t with
  | .fn g => match Nat.beq g f with
    | true => match Nat.beq n n0 with
      | true => match avsE args args0 with
        | true => match heapE H H0 with
          | true => some x0
          | false => none
        | false => none
      | false => none
    | false => none
  | _ => none

theorem tab1_some {f : Nat} {args0 : List AV} {H0 : Heap} {n0 : Nat} {x0 x : AV × Heap × Nat} {t : Tgt} {args : List AV} {H : Heap} {n : Nat} (h : tab1 f args0 H0 n0 x0 t args H n = some x) :
    t = .fn f ∧ args = args0 ∧ H = H0 ∧ n = n0 ∧ x = x0 := by
  unfold tab1 at h
  split at h
  case h_2 => cases h
  split at h
  case h_2 => cases h
  rename_i h1
  split at h
  case h_2 => cases h
  rename_i h2
  split at h
  case h_2 => cases h
  rename_i h3
  split at h
  case h_2 => cases h
  rename_i h4
  injection h with h
  exact ⟨by rw [beq_true h1], avsE_eq _ _ h3, heapE_eq h4, beq_true h2, h.symm⟩

/-! A body cut at a place. -/
def placeC : List Bool → Code → Option Code
  | [], c => some c
  | b :: p, .seq x y => match b with
    | true => placeC p y
    | false => placeC p x
  | b :: p, .cond _ x y => match b with
    | true => placeC p y
    | false => placeC p x
  | _ :: p, .block _ c => placeC p c
  | _ :: p, .scope c => placeC p c
  | _, _ => none

section
variable (P : Program) (sig : Sig) (pf : PureT) (call : CallR) (fuel : Nat) (rd : Option Nat)

/-- The state at the place. -/
noncomputable def preP : List Bool → Code → St → Option St
  | [], _, σ => some σ
  | b :: p, .seq x y, σ => match b with
    | true => match (codeK P sig pf call fuel rd x).run σ with
      | some (.normal, σ') => preP p y σ'
      | _ => none
    | false => preP p x σ
  | b :: p, .cond c x y, σ => match argK σ c with
    | .d .bool v => match (v : Bool), b with
      | true, false => preP p x σ
      | false, true => preP p y σ
      | _, _ => none
    | _ => none
  | _ :: p, .block _ c, σ => preP p c σ
  | _ :: p, .scope c, σ => preP p c σ
  | _, _, _ => none

/-- What is run behind it. -/
noncomputable def behP : List Bool → Code → Option (Exit × St) → Option (Exit × St)
  | [], _, r => r
  | b :: p, .seq x y, r => match b with
    | true => behP p y r
    | false => match behP p x r with
      | some (.normal, σ') => (codeK P sig pf call fuel rd y).run σ'
      | r => r
  | b :: p, .cond _ x y, r => match b with
    | true => behP p y r
    | false => behP p x r
  | _ :: p, .block id c, r => blockR id (behP p c r)
  | _ :: p, .scope c, r => scopeR (behP p c r)
  | _, _, r => r

theorem cutP : ∀ (p : List Bool) (c : Code) (σ σ1 : St) (c1 : Code), preP P sig pf call fuel rd p c σ = some σ1 → placeC p c = some c1 →
    (codeK P sig pf call fuel rd c).run σ = behP P sig pf call fuel rd p c ((codeK P sig pf call fuel rd c1).run σ1)
  | [], c, σ, σ1, c1, h1, h2 => by
    simp only [preP] at h1
    simp only [placeC] at h2
    injection h1 with h1; injection h2 with h2
    subst h1; subst h2
    simp only [behP]
  | b :: p, .seq x y, σ, σ1, c1, h1, h2 => by
    simp only [preP] at h1
    simp only [placeC] at h2
    cases b with
    | true =>
      simp only at h1 h2
      simp only [codeK, bindK, behP]
      split at h1
      · rename_i σ' hx
        simp only [hx]
        exact cutP p y σ' σ1 c1 h1 h2
      · cases h1
    | false =>
      simp only at h1 h2
      simp only [codeK, bindK, behP]
      rw [cutP p x σ σ1 c1 h1 h2]
      generalize behP P sig pf call fuel rd p x ((codeK P sig pf call fuel rd c1).run σ1) = z
      rcases z with _ | ⟨e, s⟩
      · rfl
      · cases e <;> rfl
  | b :: p, .cond c x y, σ, σ1, c1, h1, h2 => by
    simp only [preP] at h1
    simp only [placeC] at h2
    split at h1
    · rename_i v hv
      split at h1
      · simp only at h2
        simp only [codeK, condK, condRun, behP, hv]
        exact cutP p x σ σ1 c1 h1 h2
      · simp only at h2
        simp only [codeK, condK, condRun, behP, hv]
        exact cutP p y σ σ1 c1 h1 h2
      · cases h1
    · cases h1
  | _ :: p, .block id c, σ, σ1, c1, h1, h2 => by
    simp only [preP] at h1
    simp only [placeC] at h2
    simp only [codeK, behP]
    rw [cutP p c σ σ1 c1 h1 h2]
  | _ :: p, .scope c, σ, σ1, c1, h1, h2 => by
    simp only [preP] at h1
    simp only [placeC] at h2
    simp only [codeK, behP]
    rw [cutP p c σ σ1 c1 h1 h2]
  | _ :: _, .skip, _, _, _, h1, _ => by simp only [preP] at h1; cases h1
  | _ :: _, .region _ _ _, _, _, _, h1, _ => by simp only [preP] at h1; cases h1
  | _ :: _, .loop _, _, _, _, h1, _ => by simp only [preP] at h1; cases h1
  | _ :: _, .rangeFunc _ _ _ _, _, _, _, h1, _ => by simp only [preP] at h1; cases h1
  | _ :: _, .exit _, _, _, _, h1, _ => by simp only [preP] at h1; cases h1
  | _ :: _, .label _, _, _, _, h1, _ => by simp only [preP] at h1; cases h1
  | _ :: _, .goto _, _, _, _, h1, _ => by simp only [preP] at h1; cases h1
  | _ :: _, .ret, _, _, _, h1, _ => by simp only [preP] at h1; cases h1
  | _ :: _, .refuse _, _, _, _, h1, _ => by simp only [preP] at h1; cases h1
end

/-! A loop cut between its rounds. -/
noncomputable def loopK (n1 : Nat) (f : St → Option (Exit × St)) : Nat → St → Option St
  | 0, σ => some σ
  | n + 1, σ => match f σ with
    | some (.normal, σ') => trimS (gcR n1 σ') (loopK n1 f n)
    | _ => none

theorem loop_cut {n1 : Nat} {f : St → Option (Exit × St)} {m : Nat} {σ' : St} {r : Option (Exit × St)} (h : loopN n1 f m σ' = r) : ∀ {k : Nat} {σ : St} {N : Nat}, loopK n1 f k σ = some σ' → N = m + k → loopN n1 f N σ = r
  | 0, σ, N, h1, hN => by
    simp only [loopK] at h1
    injection h1 with h1
    subst h1; subst hN
    exact h
  | k + 1, σ, N, h1, hN => by
    subst hN
    simp only [loopK] at h1
    show loopN n1 f (m + k + 1) σ = r
    simp only [loopN]
    split at h1
    · rename_i s hs
      simp only [hs]
      rw [trimS_eq] at h1
      exact loop_cut h h1 rfl
    · cases h1

section
variable {P : Program} {sig : Sig} {pf : PureT} {call : CallR} {fuel : Nat}

theorem loopK_run {rd : Option Nat} {c : Code} {σ : St} {r : Option (Exit × St)} (h : loopN σ.next (codeK P sig pf call fuel rd c).run fuel σ = r) : (codeK P sig pf call fuel rd (.loop c)).run σ = r := by
  simp only [codeK, loopR]
  exact h

/-- A range over a function whose iterator's run is known. -/
theorem range_run {g : Operand} {ps : Array Tmp} {a b : Code} {σ : St} {f : FuncId} {first caps : List AV} {x : AV × Heap × Nat} (hg : σ.eval g = .fn f first caps)
    (h : call (.fn f) (first ++ .yld σ.next :: caps) (σ.lay σ.next ps a b) (σ.next + 1) = some x) : (codeK P sig pf call fuel none (.rangeFunc g ps a b)).run σ = rangeR σ σ.next (some x) := by
  simp only [codeK, codeR, hg, h, trimX_eq]

/-- The function and its body. -/
def fnB (P : Program) (f : Nat) : Option (Func × Code) := match P.funcs[f]? with
  | some fn => match fn.body with
    | some c => match defSplit c, enters P f with
      | none, true => some (fn, c)
      | _, _ => none
    | none => none
  | none => none

theorem enter_cut {f : Nat} {fn : Func} {c c1 : Code} {args : List AV} {H : Heap} {next : Nat} {p : List Bool} {σ1 : St} {r : Option (Exit × St)} {x : AV × Heap × Nat}
    (hf : fnB P f = some (fn, c)) (hl : Nat.ble args.length fn.ntmps = true) (hp : preP P sig pf call fuel none p c { slots := numbered 0 args, H := H, next := next, n := fn.ntmps } = some σ1) (hs : placeC p c = some c1)
    (hr : (codeK P sig pf call fuel none c1).run σ1 = r) (hx : endR P fn next (behP P sig pf call fuel none p c r) = some x) : enterK P sig pf call fuel (.fn f) args H next = some x := by
  unfold fnB at hf
  split at hf
  case h_2 => cases hf
  rename_i fn' h1
  split at hf
  case h_2 => cases hf
  rename_i c' h2
  split at hf
  case h_2 => cases hf
  rename_i h3 h4
  injection hf with hf
  injection hf with e1 e2
  subst e1; subst e2
  simp only [enterK, h1, h2, h4, hl, Bool.true_and]
  unfold bodyK bodyX
  simp only [h3]
  rw [cutP P sig pf call fuel none p _ _ σ1 c1 hp hs, hr]
  exact hx

/-- The run of a function on data, one of its calls being known. -/
theorem okH_tab {ext : PureT} {d : Nat} {g : Nat} {args : List AV} {H : Heap} {next : Nat} {x : AV × Heap × Nat} (h : enterKD P sig fuel ext d (.fn g) args H next = some x) {f : Nat} {A R : Ty} {t : HTr (A.T × R.T)}
    (hk : okH (firstR ext (pureK P sig (pureKD P sig fuel ext d) (firstC (tab1 g args H next x) (enterKD P sig fuel ext d)) fuel)) f A R t = true) : okH (pureKD P sig fuel ext (d + 1)) f A R t = true := by
  rw [firstC_eq (fun t a H n y hy => by
    obtain ⟨rfl, rfl, rfl, rfl, rfl⟩ := tab1_some hy
    exact h)] at hk
  exact hk
/-- How a function on data ends. -/
noncomputable def finP (P : Program) (fn : Func) (R : Ty) (r : Option (Exit × St)) : Option R.T := match retR P fn r with
  | some (l, σ) => toRes R (AV.maps (fun _ => false) (lendF σ.H) l)
  | none => none

theorem pure_cut {f : Nat} {fn : Func} {c c1 : Code} {A R : Ty} {z : A.T} {y : R.T} {p : List Bool} {σ1 : St} {r : Option (Exit × St)}
    (hf : fnB P f = some (fn, c)) (hl : Nat.ble (argAVs A z).length fn.ntmps = true) (hp : preP P sig pf call fuel none p c { slots := numbered 0 (argAVs A z), H := [], next := 0, n := fn.ntmps } = some σ1) (hs : placeC p c = some c1)
    (hr : (codeK P sig pf call fuel none c1).run σ1 = r) (hx : finP P fn R (behP P sig pf call fuel none p c r) = some y) : pureK P sig pf call fuel f A R z = some y := by
  unfold fnB at hf
  split at hf
  case h_2 => cases hf
  rename_i fn' h1
  split at hf
  case h_2 => cases hf
  rename_i c' h2
  split at hf
  case h_2 => cases hf
  rename_i h3 h4
  injection hf with hf
  injection hf with e1 e2
  subst e1; subst e2
  simp only [pureK, h1, h2, h4, hl, Bool.true_and]
  unfold bodyK bodyX
  simp only [h3]
  rw [cutP P sig pf call fuel none p _ _ σ1 c1 hp hs, hr]
  exact hx

theorem sameL_refl {α : Type} {f : α → α → Bool} (h : ∀ a, f a a = true) : ∀ l : List α, sameL f l l = true
  | [] => rfl
  | a :: l => by
    simp only [sameL, h a]
    exact sameL_refl h l

theorem same_refl : ∀ (t : Ty) (x : t.T), same t x x = true
  | .int _, x => by
    show sameI x x = true
    cases x with
    | ofNat n => exact Nat.beq_refl n
    | negSucc n => exact Nat.beq_refl n
  | .bool, x => by
    show sameB x x = true
    cases (show Bool from x) <;> rfl
  | .str, x => sameL_refl (f := sameU) (fun a => Nat.beq_refl a.toNat) x
  | .unit, _ => rfl
  | .pair t u, (a, b) => by
    simp only [same, same_refl t a]
    exact same_refl u b
  | .arr _ t, x => sameL_refl (same_refl t) x
  | .sl t, x => sameL_refl (same_refl t) x

theorem okH_one {ext : PureT} {d : Nat} {f : Nat} {A R : Ty} {x : A.T} {y : R.T} (h0 : ext f A R x = none)
    (h : pureK P sig (pureKD P sig fuel ext d) (enterKD P sig fuel ext d) fuel f A R x = some y) : okH (pureKD P sig fuel ext (d + 1)) f A R (.leaf [(x, y)]) = true := by
  have h1 : pureKD P sig fuel ext (d + 1) f A R x = some y := by
    show firstR ext (pureK P sig (pureKD P sig fuel ext d) (enterKD P sig fuel ext d) fuel) f A R x = some y
    unfold firstR
    rw [h0]
    exact h
  show okL (pureKD P sig fuel ext (d + 1)) f A R [(x, y)] = true
  simp only [okL, h1, same_refl]
end
end Go.Vg
