/-
  A runner over the evaluator, and calls that have been run. Own work; no condition.
-/
import Derived.Test.YtebeijpmpjpgcaaGreatDoorClR4
set_option linter.unusedVariables false
set_option linter.unusedSimpArgs false
namespace Go.Vg
open Go Go.RowKit
structure Row where
 f : Nat
 A : Ty
 R : Ty
 l : List (A.T × R.T)
def aMP : Int → Int → Bool
 | .ofNat a, .ofNat b => Nat.beq a b
 | .negSucc a, .negSucc b => Nat.beq a b
 | _, _ => false
def aMO (a b : UInt8) : Bool := Nat.beq a.toNat b.toNat
def aDg {α : Type} (f : α → α → Bool) : List α → List α → Bool
 | [], [] => true
 | a :: as, b :: bs => match f a b with
  | true => aDg f as bs
  | false => false
 | _, _ => false
def same : (t : Ty) → t.T → t.T → Bool
 | .int _, x, y => aMP x y
 | .bool, x, y => asX x y
 | .str, x, y => aDg aMO x y
 | .unit, _, _ => true
 | .pair t u, x, y => match same t x.1 y.1 with
  | true => same u x.2 y.2
  | false => false
 | .arr _ t, x, y => aDg (same t) x y
 | .sl t, x, y => aDg (same t) x y
theorem aIn : ∀ {a b : Int}, aMP a b = true → a = b
 | .ofNat a, .ofNat b, h => by have := aaF (show Nat.beq a b = true from h); rw [this]
 | .negSucc a, .negSucc b, h => by have := aaF (show Nat.beq a b = true from h); rw [this]
 | .ofNat _, .negSucc _, h => by cases h
 | .negSucc _, .ofNat _, h => by cases h
theorem aIl {a b : UInt8} (h : aMO a b = true) : a = b := UInt8.toNat_inj.1 (aaF h)
theorem aoY {α : Type} {f : α → α → Bool} (hf : ∀ a b, f a b = true → a = b) : ∀ {l m : List α}, aDg f l m = true → l = m
 | [], [], _ => rfl
 | [], _ :: _, h => by cases h
 | _ :: _, [], h => by cases h
 | a :: as, b :: bs, h => by
  simp only [aDg] at h
  split at h
  ·rename_i hab
   rw [hf a b hab, aoY hf h]
  ·cases h
theorem aIo {x y : Bool} (h : asX x y = true) : x = y := by
 cases x <;> cases y <;> first | rfl | cases h
theorem amJ : ∀ (t : Ty) (x y : t.T), same t x y = true → x = y
 | .int _, _, _, h => aIn h
 | .bool, _, _, h => aIo h
 | .str, _, _, h => aoY (fun _ _ => aIl) h
 | .unit, _, _, _ => rfl
 | .pair t u, (a, b), (c, d), h => by
  simp only [same] at h
  split at h
  ·rename_i h1
   have e1 : a = c := amJ t a c h1
   have e2 : b = d := amJ u b d h
   rw [e1, e2]
  ·cases h
 | .arr _ t, _, _, h => aoY (amJ t) h
 | .sl t, _, _, h => aoY (amJ t) h
def aIs : List Row → Nat → Option Row
 | [], _ => none
 | r :: rs, f => match Nat.beq r.f f with
  | true => some r
  | false => aIs rs f
def aJm (t : Ty) {β : Type} : List (t.T × β) → t.T → Option β
 | [], _ => none
 | p :: r, x => match same t p.1 x with
  | true => some p.2
  | false => aJm t r x
def an8 (rows : List Row) : abO := fun f A R x =>
 match aIs rows f with
 | some r => match A.as r.A x with
  | some x' => match aJm r.A r.l x' with
   | some y => r.R.as R y
   | none => none
  | none => none
 | none => none
def okL (pf : abO) (f : Nat) (A R : Ty) : List (A.T × R.T) → Bool
 | [] => true
 | p :: r => match pf f A R p.1 with
  | some z => match same R z p.2 with
   | true => okL pf f A R r
   | false => false
  | none => false
def aa9 (pf : abO) : List Row → Bool
 | [] => true
 | r :: rs => match okL pf r.f r.A r.R r.l with
  | true => aa9 pf rs
  | false => false
theorem axS : ∀ {rows : List Row} {f : Nat} {r : Row}, aIs rows f = some r → r ∈ rows ∧ r.f = f
 | [], _, _, h => by cases h
 | q :: rs, f, r, h => by
  simp only [aIs] at h
  split at h
  ·rename_i hb
   injection h with h
   subst h
   exact ⟨zv, aaF hb⟩
  ·obtain ⟨h1, h2⟩ := axS h
   exact ⟨zq _ h1, h2⟩
theorem ayX {t : Ty} {β : Type} : ∀ {l : List (t.T × β)} {x : t.T} {y : β}, aJm t l x = some y → (x, y) ∈ l
 | [], _, _, h => by cases h
 | p :: r, x, y, h => by
  simp only [aJm] at h
  split at h
  ·rename_i hb
   injection h with h
   subst h
   have := amJ _ _ _ hb
   subst this
   exact zv
  ·exact zq _ (ayX h)
theorem aqD {pf : abO} {f : Nat} {A R : Ty} : ∀ {l : List (A.T × R.T)}, okL pf f A R l = true → ∀ x y, (x, y) ∈ l → pf f A R x = some y
 | [], _, _, _, h => by cases h
 | p :: r, hc, x, y, h => by
  simp only [okL] at hc
  split at hc
  ·rename_i z hz
   split at hc
   ·rename_i hs
    rcases zo.1 h with e | h
    ·subst e
     rw [hz, amJ _ _ _ hs]
    ·exact aqD hc x y h
   ·cases hc
  ·cases hc
theorem ag6 {pf : abO} : ∀ {rows : List Row}, aa9 pf rows = true → ∀ r ∈ rows, okL pf r.f r.A r.R r.l = true
 | [], _, _, h => by cases h
 | q :: rs, hc, r, h => by
  simp only [aa9] at hc
  split at hc
  ·rename_i hq
   rcases zo.1 h with e | h
   ·rw [e]; exact hq
   ·exact ag6 hc r h
  ·cases hc
theorem aMH {P : Program} {G : World → Prop} {pf : abO} {rows : List Row} (hp : aeY P G pf) (hc : aa9 pf rows = true) : aeY P G (an8 rows) := by
 intro f A R x y h
 unfold an8 at h
 split at h
 ·rename_i r hr
  obtain ⟨h1, h2⟩ := axS hr
  split at h
  ·rename_i x' hx
   split at h
   ·rename_i y' hy
    have h3 := aqD (ag6 hc r h1) x' y' (ayX hy)
    obtain ⟨f', A', R', l⟩ := r
    obtain ⟨e1, e2⟩ := Ty.as_some hx
    obtain ⟨e3, e4⟩ := Ty.as_some h
    simp only at h2 h3 e1 e3
    subst h2; subst e1; subst e3
    have e2' : x = x' := e2
    have e4' : y' = y := e4
    subst e2'; subst e4'
    exact hp _ _ _ _ _ h3
   ·cases h
  ·cases h
 ·cases h
theorem alR {P : Program} {G : World → Prop} (hG : adG G) (hmix : P.follows .mixedOrders = true) {sig : Sig} (hsig : ∀ x ∈ sig, ac1 P x.1 = true) {ext : abO} (hext : aeY P G ext) (fuel d : Nat) {rows : List Row}
  (hc : aa9 (abF P sig fuel ext d) rows = true) : aeY P G (aj5 (an8 rows) ext) := by
 rw [(apT (P := P) (sig := sig) fuel ext d).1] at hc
 exact azD (aMH (apU hG hmix hext hsig fuel d).1 hc) hext
end Go.Vg
