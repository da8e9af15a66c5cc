/-
  A runner over the evaluator, and calls that have been run. Own work; no condition.
-/
import Derived.Test.YtebeijpmpjpgcaaGreatDoorClR4
set_option linter.unusedVariables false
set_option linter.unusedSimpArgs false
namespace Go.Vg
open Go Go.RowKit
structure Row where
 f : Nat
 A : Ty
 R : Ty
 l : List (A.T × R.T)
def aNg : Int → Int → Bool
 | .ofNat a, .ofNat b => Nat.beq a b
 | .negSucc a, .negSucc b => Nat.beq a b
 | _, _ => false
def aNf (a b : UInt8) : Bool := Nat.beq a.toNat b.toNat
def aDq {α : Type} (f : α → α → Bool) : List α → List α → Bool
 | [], [] => true
 | a :: as, b :: bs => match f a b with
  | true => aDq f as bs
  | false => false
 | _, _ => false
def same : (t : Ty) → t.T → t.T → Bool
 | .int _, x, y => aNg x y
 | .bool, x, y => as3 x y
 | .str, x, y => aDq aNf x y
 | .unit, _, _ => true
 | .pair t u, x, y => match same t x.1 y.1 with
  | true => same u x.2 y.2
  | false => false
 | .arr _ t, x, y => aDq (same t) x y
 | .sl t, x, y => aDq (same t) x y
theorem aIH : ∀ {a b : Int}, aNg a b = true → a = b
 | .ofNat a, .ofNat b, h => by have := aaD (show Nat.beq a b = true from h); rw [this]
 | .negSucc a, .negSucc b, h => by have := aaD (show Nat.beq a b = true from h); rw [this]
 | .ofNat _, .negSucc _, h => by cases h
 | .negSucc _, .ofNat _, h => by cases h
theorem aIF {a b : UInt8} (h : aNf a b = true) : a = b := UInt8.toNat_inj.1 (aaD h)
theorem ao2 {α : Type} {f : α → α → Bool} (hf : ∀ a b, f a b = true → a = b) : ∀ {l m : List α}, aDq f l m = true → l = m
 | [], [], _ => rfl
 | [], _ :: _, h => by cases h
 | _ :: _, [], h => by cases h
 | a :: as, b :: bs, h => by
  simp only [aDq] at h
  split at h
  ·rename_i hab
   rw [hf a b hab, ao2 hf h]
  ·cases h
theorem aII {x y : Bool} (h : as3 x y = true) : x = y := by
 cases x <;> cases y <;> first | rfl | cases h
theorem amN : ∀ (t : Ty) (x y : t.T), same t x y = true → x = y
 | .int _, _, _, h => aIH h
 | .bool, _, _, h => aII h
 | .str, _, _, h => ao2 (fun _ _ => aIF) h
 | .unit, _, _, _ => rfl
 | .pair t u, (a, b), (c, d), h => by
  simp only [same] at h
  split at h
  ·rename_i h1
   have e1 : a = c := amN t a c h1
   have e2 : b = d := amN u b d h
   rw [e1, e2]
  ·cases h
 | .arr _ t, _, _, h => ao2 (amN t) h
 | .sl t, _, _, h => ao2 (amN t) h
def aIM : List Row → Nat → Option Row
 | [], _ => none
 | r :: rs, f => match Nat.beq r.f f with
  | true => some r
  | false => aIM rs f
def aJO (t : Ty) {β : Type} : List (t.T × β) → t.T → Option β
 | [], _ => none
 | p :: r, x => match same t p.1 x with
  | true => some p.2
  | false => aJO t r x
def aoB (rows : List Row) : abO := fun f A R x =>
 match aIM rows f with
 | some r => match A.as r.A x with
  | some x' => match aJO r.A r.l x' with
   | some y => r.R.as R y
   | none => none
  | none => none
 | none => none
def okL (pf : abO) (f : Nat) (A R : Ty) : List (A.T × R.T) → Bool
 | [] => true
 | p :: r => match pf f A R p.1 with
  | some z => match same R z p.2 with
   | true => okL pf f A R r
   | false => false
  | none => false
def aa9 (pf : abO) : List Row → Bool
 | [] => true
 | r :: rs => match okL pf r.f r.A r.R r.l with
  | true => aa9 pf rs
  | false => false
theorem ax1 : ∀ {rows : List Row} {f : Nat} {r : Row}, aIM rows f = some r → r ∈ rows ∧ r.f = f
 | [], _, _, h => by cases h
 | q :: rs, f, r, h => by
  simp only [aIM] at h
  split at h
  ·rename_i hb
   injection h with h
   subst h
   exact ⟨zv, aaD hb⟩
  ·obtain ⟨h1, h2⟩ := ax1 h
   exact ⟨zq _ h1, h2⟩
theorem ay9 {t : Ty} {β : Type} : ∀ {l : List (t.T × β)} {x : t.T} {y : β}, aJO t l x = some y → (x, y) ∈ l
 | [], _, _, h => by cases h
 | p :: r, x, y, h => by
  simp only [aJO] at h
  split at h
  ·rename_i hb
   injection h with h
   subst h
   have := amN _ _ _ hb
   subst this
   exact zv
  ·exact zq _ (ay9 h)
theorem aqG {pf : abO} {f : Nat} {A R : Ty} : ∀ {l : List (A.T × R.T)}, okL pf f A R l = true → ∀ x y, (x, y) ∈ l → pf f A R x = some y
 | [], _, _, _, h => by cases h
 | p :: r, hc, x, y, h => by
  simp only [okL] at hc
  split at hc
  ·rename_i z hz
   split at hc
   ·rename_i hs
    rcases zo.1 h with e | h
    ·subst e
     rw [hz, amN _ _ _ hs]
    ·exact aqG hc x y h
   ·cases hc
  ·cases hc
theorem ag8 {pf : abO} : ∀ {rows : List Row}, aa9 pf rows = true → ∀ r ∈ rows, okL pf r.f r.A r.R r.l = true
 | [], _, _, h => by cases h
 | q :: rs, hc, r, h => by
  simp only [aa9] at hc
  split at hc
  ·rename_i hq
   rcases zo.1 h with e | h
   ·rw [e]; exact hq
   ·exact ag8 hc r h
  ·cases hc
theorem aM7 {P : Program} {G : World → Prop} {pf : abO} {rows : List Row} (hp : aeY P G pf) (hc : aa9 pf rows = true) : aeY P G (aoB rows) := by
 intro f A R x y h
 unfold aoB at h
 split at h
 ·rename_i r hr
  obtain ⟨h1, h2⟩ := ax1 hr
  split at h
  ·rename_i x' hx
   split at h
   ·rename_i y' hy
    have h3 := aqG (ag8 hc r h1) x' y' (ay9 hy)
    obtain ⟨f', A', R', l⟩ := r
    obtain ⟨e1, e2⟩ := Ty.as_some hx
    obtain ⟨e3, e4⟩ := Ty.as_some h
    simp only at h2 h3 e1 e3
    subst h2; subst e1; subst e3
    have e2' : x = x' := e2
    have e4' : y' = y := e4
    subst e2'; subst e4'
    exact hp _ _ _ _ _ h3
   ·cases h
  ·cases h
 ·cases h
theorem alV {P : Program} {G : World → Prop} (hG : adG G) (hmix : P.follows .mixedOrders = true) {sig : Sig} (hsig : ∀ x ∈ sig, ac1 P x.1 = true) {ext : abO} (hext : aeY P G ext) (fuel d : Nat) {rows : List Row}
  (hc : aa9 (abF P sig fuel ext d) rows = true) : aeY P G (aj9 (aoB rows) ext) := by
 rw [(apW (P := P) (sig := sig) fuel ext d).1] at hc
 exact azQ (aM7 (apX hG hmix hext hsig fuel d).1 hc) hext
end Go.Vg
