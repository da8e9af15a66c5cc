/-
  The runner, part T: calls that have been run are remembered in tables. Own work; no condition.
-/
import Derived.Test.YtbfajgbedclfeaaGreatDoorRunK
namespace Go.Vg
open Go Go.RowKit

/-- Results of one function at some arguments. -/
structure Row where
  f : Nat
  A : Ty
  R : Ty
  l : List (A.T × R.T)

def sameI : Int → Int → Bool
  | .ofNat a, .ofNat b => Nat.beq a b
  | .negSucc a, .negSucc b => Nat.beq a b
  | _, _ => false

def sameU (a b : UInt8) : Bool := Nat.beq a.toNat b.toNat

def sameL {α : Type} (f : α → α → Bool) : List α → List α → Bool
  | [], [] => true
  | a :: as, b :: bs => match f a b with
    | true => sameL f as bs
    | false => false
  | _, _ => false

def same : (t : Ty) → t.T → t.T → Bool
  | .int _, x, y => sameI x y
  | .bool, x, y => sameB x y
  | .str, x, y => sameL sameU x y
  | .unit, _, _ => true
  | .pair t u, x, y => match same t x.1 y.1 with
    | true => same u x.2 y.2
    | false => false
  | .arr _ t, x, y => sameL (same t) x y
  | .sl t, x, y => sameL (same t) x y

theorem sameI_eq : ∀ {a b : Int}, sameI a b = true → a = b
  | .ofNat a, .ofNat b, h => by have := beq_true (show Nat.beq a b = true from h); rw [this]
  | .negSucc a, .negSucc b, h => by have := beq_true (show Nat.beq a b = true from h); rw [this]
  | .ofNat _, .negSucc _, h => by cases h
  | .negSucc _, .ofNat _, h => by cases h

theorem sameU_eq {a b : UInt8} (h : sameU a b = true) : a = b := UInt8.toNat_inj.1 (beq_true h)

theorem sameL_eq {α : Type} {f : α → α → Bool} (hf : ∀ a b, f a b = true → a = b) : ∀ {l m : List α}, sameL f l m = true → l = m
  | [], [], _ => rfl
  | [], _ :: _, h => by cases h
  | _ :: _, [], h => by cases h
  | a :: as, b :: bs, h => by
    simp only [sameL] at h
    split at h
    · rename_i hab
      rw [hf a b hab, sameL_eq hf h]
    · cases h

theorem sameB_eq {x y : Bool} (h : sameB x y = true) : x = y := by
  cases x <;> cases y <;> first | rfl | cases h

theorem same_eq : ∀ (t : Ty) (x y : t.T), same t x y = true → x = y
  | .int _, _, _, h => sameI_eq h
  | .bool, _, _, h => sameB_eq h
  | .str, _, _, h => sameL_eq (fun _ _ => sameU_eq) h
  | .unit, _, _, _ => rfl
  | .pair t u, (a, b), (c, d), h => by
    simp only [same] at h
    split at h
    · rename_i h1
      have e1 : a = c := same_eq t a c h1
      have e2 : b = d := same_eq u b d h
      rw [e1, e2]
    · cases h
  | .arr _ t, _, _, h => sameL_eq (same_eq t) h
  | .sl t, _, _, h => sameL_eq (same_eq t) h

def rowOf : List Row → Nat → Option Row
  | [], _ => none
  | r :: rs, f => match Nat.beq r.f f with
    | true => some r
    | false => rowOf rs f

def inRow (t : Ty) {β : Type} : List (t.T × β) → t.T → Option β
  | [], _ => none
  | p :: r, x => match same t p.1 x with
    | true => some p.2
    | false => inRow t r x

/-- What the tables say. -/
def extTab (rows : List Row) : PureT := fun f A R x =>
  match rowOf rows f with
  | some r => match A.as r.A x with
    | some x' => match inRow r.A r.l x' with
      | some y => r.R.as R y
      | none => none
    | none => none
  | none => none

def okL (pf : PureT) (f : Nat) (A R : Ty) : List (A.T × R.T) → Bool
  | [] => true
  | p :: r => match pf f A R p.1 with
    | some z => match same R z p.2 with
      | true => okL pf f A R r
      | false => false
    | none => false

def okRows (pf : PureT) : List Row → Bool
  | [] => true
  | r :: rs => match okL pf r.f r.A r.R r.l with
    | true => okRows pf rs
    | false => false

theorem rowOf_mem : ∀ {rows : List Row} {f : Nat} {r : Row}, rowOf rows f = some r → r ∈ rows ∧ r.f = f
  | [], _, _, h => by cases h
  | q :: rs, f, r, h => by
    simp only [rowOf] at h
    split at h
    · rename_i hb
      injection h with h
      subst h
      exact ⟨List.mem_cons_self, beq_true hb⟩
    · obtain ⟨h1, h2⟩ := rowOf_mem h
      exact ⟨List.mem_cons_of_mem _ h1, h2⟩

theorem inRow_mem {t : Ty} {β : Type} : ∀ {l : List (t.T × β)} {x : t.T} {y : β}, inRow t l x = some y → (x, y) ∈ l
  | [], _, _, h => by cases h
  | p :: r, x, y, h => by
    simp only [inRow] at h
    split at h
    · rename_i hb
      injection h with h
      subst h
      have := same_eq _ _ _ hb
      subst this
      exact List.mem_cons_self
    · exact List.mem_cons_of_mem _ (inRow_mem h)

theorem okL_mem {pf : PureT} {f : Nat} {A R : Ty} : ∀ {l : List (A.T × R.T)}, okL pf f A R l = true → ∀ x y, (x, y) ∈ l → pf f A R x = some y
  | [], _, _, _, h => by cases h
  | p :: r, hc, x, y, h => by
    simp only [okL] at hc
    split at hc
    · rename_i z hz
      split at hc
      · rename_i hs
        rcases List.mem_cons.1 h with e | h
        · subst e
          rw [hz, same_eq _ _ _ hs]
        · exact okL_mem hc x y h
      · cases hc
    · cases hc

theorem okRows_mem {pf : PureT} : ∀ {rows : List Row}, okRows pf rows = true → ∀ r ∈ rows, okL pf r.f r.A r.R r.l = true
  | [], _, _, h => by cases h
  | q :: rs, hc, r, h => by
    simp only [okRows] at hc
    split at hc
    · rename_i hq
      rcases List.mem_cons.1 h with e | h
      · rw [e]; exact hq
      · exact okRows_mem hc r h
    · cases hc

theorem tab_ok {P : Program} {G : World → Prop} {pf : PureT} {rows : List Row} (hp : PureOk P G pf) (hc : okRows pf rows = true) : PureOk P G (extTab rows) := by
  intro f A R x y h
  unfold extTab at h
  split at h
  · rename_i r hr
    obtain ⟨h1, h2⟩ := rowOf_mem hr
    split at h
    · rename_i x' hx
      split at h
      · rename_i y' hy
        have h3 := okL_mem (okRows_mem hc r h1) x' y' (inRow_mem hy)
        obtain ⟨f', A', R', l⟩ := r
        obtain ⟨e1, e2⟩ := Ty.as_some hx
        obtain ⟨e3, e4⟩ := Ty.as_some h
        simp only at h2 h3 e1 e3
        subst h2; subst e1; subst e3
        have e2' : x = x' := e2
        have e4' : y' = y := e4
        subst e2'; subst e4'
        exact hp _ _ _ _ _ h3
      · cases h
    · cases h
  · cases h

/-- One layer of tables. -/
theorem layer_ok {P : Program} {G : World → Prop} (hG : GMono G) (hmix : P.follows .mixedOrders = true) {sig : Sig} (hsig : ∀ x ∈ sig, enters P x.1 = true) {ext : PureT} (hext : PureOk P G ext) (fuel d : Nat) {rows : List Row}
    (hc : okRows (pureKD P sig fuel ext d) rows = true) : PureOk P G (firstR (extTab rows) ext) := by
  rw [(runK_eq (P := P) (sig := sig) fuel ext d).1] at hc
  exact firstR_ok (tab_ok (runD_ok hG hmix hext hsig fuel d).1 hc) hext

end Go.Vg
