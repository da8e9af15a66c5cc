/-
  The runner, part H: calls that have been run are remembered in trees, found by a number of their arguments. Own work; no condition.
-/
import Derived.Test.YtbfajgbedclfeaaGreatDoorRunT
namespace Go.Vg
open Go Go.RowKit

inductive HTr (α : Type) where
  | leaf (l : List α)
  | node (k : Nat) (a b : HTr α)
  | or (a b : HTr α)

noncomputable def HTr.get {α : Type} (t : HTr α) (h : Nat) : List α :=
  @HTr.rec α (fun _ => List α) (fun l => l) (fun k _ _ x y => @Bool.rec (fun _ => List α) y x (Nat.ble h k)) (fun _ _ x y => List.append x y) t

def HTr.all {α : Type} : HTr α → List α
  | .leaf l => l
  | .node _ a b => a.all ++ b.all
  | .or a b => a.all ++ b.all

theorem HTr.get_all {α : Type} {h : Nat} {x : α} : ∀ {t : HTr α}, x ∈ t.get h → x ∈ t.all
  | .leaf _, hx => hx
  | .node k a b, hx => by
    have hx' : x ∈ @Bool.rec (fun _ => List α) (b.get h) (a.get h) (Nat.ble h k) := hx
    cases hb : Nat.ble h k with
    | true => rw [hb] at hx'; exact List.mem_append_left _ (HTr.get_all hx')
    | false => rw [hb] at hx'; exact List.mem_append_right _ (HTr.get_all hx')
  | .or a b, hx => by
    have hx' : x ∈ a.get h ++ b.get h := hx
    rcases List.mem_append.1 hx' with h | h
    · exact List.mem_append_left _ (HTr.get_all h)
    · exact List.mem_append_right _ (HTr.get_all h)

/-- A number of a datum. -/
noncomputable def hashI (x : Int) : Nat := @Int.rec (fun _ => Nat) (fun n => Nat.mod n 1000003) (fun n => Nat.mod (Nat.add n 77) 1000003) x
noncomputable def hashL {α : Type} (f : α → Nat) (l : List α) : Nat := @List.rec α (fun _ => Nat) 7 (fun x _ ih => Nat.mod (Nat.add (Nat.mul ih 31) (f x)) 1000003) l
noncomputable def hashK (t : Ty) : t.T → Nat :=
  @Ty.rec (fun t => t.T → Nat) (fun _ => hashI) (fun b => @Bool.rec (fun _ => Nat) 1 2 b) (fun s => hashL UInt8.toNat s) (fun _ => 5)
    (fun _ _ f g x => Nat.mod (Nat.add (Nat.mul (f x.1) 1009) (g x.2)) 1000003) (fun _ _ f x => hashL f x) (fun _ f x => hashL f x) t

structure RowH where
  f : Nat
  A : Ty
  R : Ty
  t : HTr (A.T × R.T)

def rowOfH : List RowH → Nat → Option RowH
  | [], _ => none
  | r :: rs, f => match Nat.beq r.f f with
    | true => some r
    | false => rowOfH rs f

noncomputable def extTabH (rows : List RowH) : PureT := fun f A R x =>
  match rowOfH rows f with
  | some r => match A.as r.A x with
    | some x' => match inRow r.A (r.t.get (hashK r.A x')) x' with
      | some y => r.R.as R y
      | none => none
    | none => none
  | none => none

def okH (pf : PureT) (f : Nat) (A R : Ty) : HTr (A.T × R.T) → Bool
  | .leaf l => okL pf f A R l
  | .node _ a b => match okH pf f A R a with
    | true => okH pf f A R b
    | false => false
  | .or a b => match okH pf f A R a with
    | true => okH pf f A R b
    | false => false

theorem okH_node {pf : PureT} {f : Nat} {A R : Ty} {k : Nat} {a b : HTr (A.T × R.T)} (ha : okH pf f A R a = true) (hb : okH pf f A R b = true) : okH pf f A R (.node k a b) = true := by
  simp only [okH, ha, hb]

theorem okL_app {pf : PureT} {f : Nat} {A R : Ty} : ∀ {l m : List (A.T × R.T)}, okL pf f A R l = true → okL pf f A R m = true → okL pf f A R (l ++ m) = true
  | [], _, _, h => h
  | p :: r, m, hl, hm => by
    show okL pf f A R (p :: (r ++ m)) = true
    unfold okL at hl ⊢
    cases hz : pf f A R p.1 with
    | none => rw [hz] at hl; cases hl
    | some z =>
      rw [hz] at hl
      dsimp only at hl ⊢
      cases hs : same R z p.2 with
      | false => rw [hs] at hl; cases hl
      | true => rw [hs] at hl; exact okL_app hl hm

theorem okH_all {pf : PureT} {f : Nat} {A R : Ty} : ∀ {t : HTr (A.T × R.T)}, okH pf f A R t = true → okL pf f A R t.all = true
  | .leaf _, h => h
  | .node _ a b, h => by
    simp only [okH] at h
    split at h
    · rename_i ha; exact okL_app (okH_all ha) (okH_all h)
    · cases h
  | .or a b, h => by
    simp only [okH] at h
    split at h
    · rename_i ha; exact okL_app (okH_all ha) (okH_all h)
    · cases h

/-- All rows have been run. -/
def OkRowsH (pf : PureT) : List RowH → Prop
  | [] => True
  | r :: rs => okH pf r.f r.A r.R r.t = true ∧ OkRowsH pf rs

theorem rowOfH_mem : ∀ {rows : List RowH} {f : Nat} {r : RowH}, rowOfH rows f = some r → r ∈ rows ∧ r.f = f
  | [], _, _, h => by cases h
  | q :: rs, f, r, h => by
    simp only [rowOfH] at h
    split at h
    · rename_i hb
      injection h with h
      subst h
      exact ⟨List.mem_cons_self, beq_true hb⟩
    · obtain ⟨h1, h2⟩ := rowOfH_mem h
      exact ⟨List.mem_cons_of_mem _ h1, h2⟩

theorem OkRowsH.mem {pf : PureT} : ∀ {rows : List RowH}, OkRowsH pf rows → ∀ r ∈ rows, okH pf r.f r.A r.R r.t = true
  | q :: rs, ⟨h1, h2⟩, r, h => by
    rcases List.mem_cons.1 h with e | h
    · rw [e]; exact h1
    · exact OkRowsH.mem h2 r h

theorem tab_okH {P : Program} {G : World → Prop} {pf : PureT} {rows : List RowH} (hp : PureOk P G pf) (hc : OkRowsH pf rows) : PureOk P G (extTabH rows) := by
  intro f A R x y h
  unfold extTabH at h
  split at h
  · rename_i r hr
    obtain ⟨h1, h2⟩ := rowOfH_mem hr
    split at h
    · rename_i x' hx
      split at h
      · rename_i y' hy
        have h3 := okL_mem (okH_all (hc.mem r h1)) x' y' (HTr.get_all (inRow_mem hy))
        obtain ⟨f', A', R', l⟩ := r
        obtain ⟨e1, e2⟩ := Ty.as_some hx
        obtain ⟨e3, e4⟩ := Ty.as_some h
        simp only at h2 h3 e1 e3
        subst h2; subst e1; subst e3
        have e2' : x = x' := e2
        have e4' : y' = y := e4
        subst e2'; subst e4'
        exact hp _ _ _ _ _ h3
      · cases h
    · cases h
  · cases h

/-- One layer of trees. -/
theorem layer_okH {P : Program} {G : World → Prop} (hG : GMono G) (hmix : P.follows .mixedOrders = true) {sig : Sig} (hsig : ∀ x ∈ sig, enters P x.1 = true) {ext : PureT} (hext : PureOk P G ext) (fuel d : Nat) {rows : List RowH}
    (hc : OkRowsH (pureKD P sig fuel ext d) rows) : PureOk P G (firstR (extTabH rows) ext) := by
  rw [(runK_eq (P := P) (sig := sig) fuel ext d).1] at hc
  exact firstR_ok (tab_okH (runD_ok hG hmix hext hsig fuel d).1 hc) hext

/-- All calls of a row. -/
def AtRow (P : Program) (G : World → Prop) (r : RowH) : Prop := ∀ p ∈ r.t.all, At P G r.f r.A r.R p.1 p.2
def AtRows (P : Program) (G : World → Prop) : List RowH → Prop
  | [] => True
  | r :: rs => AtRow P G r ∧ AtRows P G rs
def RowH.or (r : RowH) (t : HTr (r.A.T × r.R.T)) : RowH := ⟨r.f, r.A, r.R, .or r.t t⟩

section
variable {P : Program} {G : World → Prop}
theorem at_row {pf : PureT} {f : Nat} {A R : Ty} {t : HTr (A.T × R.T)} (hp : PureOk P G pf) (hc : okH pf f A R t = true) : AtRow P G ⟨f, A, R, t⟩ :=
  fun p hm => hp _ _ _ _ _ (okL_mem (okH_all hc) p.1 p.2 hm)
theorem at_or {r : RowH} {t : HTr (r.A.T × r.R.T)} (h1 : AtRow P G r) (h2 : AtRow P G ⟨r.f, r.A, r.R, t⟩) : AtRow P G (r.or t) :=
  fun p hm => (List.mem_append.1 hm).elim (h1 p) (h2 p)
theorem AtRows.mem : ∀ {rows : List RowH}, AtRows P G rows → ∀ r ∈ rows, AtRow P G r
  | q :: rs, ⟨h1, h2⟩, r, h => by
    rcases List.mem_cons.1 h with e | h
    · rw [e]; exact h1
    · exact AtRows.mem h2 r h
theorem tab_at {rows : List RowH} (hc : AtRows P G rows) : PureOk P G (extTabH rows) := by
  intro f A R x y h
  unfold extTabH at h
  split at h
  · rename_i r hr
    obtain ⟨h1, h2⟩ := rowOfH_mem hr
    split at h
    · rename_i x' hx
      split at h
      · rename_i y' hy
        have h3 := hc.mem r h1 (x', y') (HTr.get_all (inRow_mem hy))
        obtain ⟨f', A', R', l⟩ := r
        obtain ⟨e1, e2⟩ := Ty.as_some hx
        obtain ⟨e3, e4⟩ := Ty.as_some h
        simp only at h2 h3 e1 e3
        subst h2; subst e1; subst e3
        have e2' : x = x' := e2
        have e4' : y' = y := e4
        subst e2'; subst e4'
        exact h3
      · cases h
    · cases h
  · cases h
/-- All layers at once. -/
theorem layer_at {rows : List RowH} (hc : AtRows P G rows) {ext : PureT} (hext : PureOk P G ext) : PureOk P G (firstR (extTabH rows) ext) := firstR_ok (tab_at hc) hext
theorem pure_at (hG : GMono G) (hmix : P.follows .mixedOrders = true) {sig : Sig} (hsig : ∀ x ∈ sig, enters P x.1 = true) {ext : PureT} (hext : PureOk P G ext) (fuel d : Nat) : PureOk P G (pureKD P sig fuel ext d) := by
  rw [(runK_eq (P := P) (sig := sig) fuel ext d).1]
  exact (runD_ok hG hmix hext hsig fuel d).1
end
end Go.Vg
