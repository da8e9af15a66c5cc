/-
  A runner over the evaluator, and calls that have been run. Own work; no condition.
-/
import Derived.Test.YtlmjbmgabddkiaaGreatDoorClR4
set_option linter.unusedVariables false
set_option linter.unusedSimpArgs false
namespace Go.Vg
open Go Go.RowKit
structure Row where
 f : Nat
 A : Ty
 R : Ty
 l : List (A.T × R.T)
def aRz : Int → Int → Bool
 | .ofNat a, .ofNat b => Nat.beq a b
 | .negSucc a, .negSucc b => Nat.beq a b
 | _, _ => false
def aRy (a b : UInt8) : Bool := Nat.beq a.toNat b.toNat
def aGT {α : Type} (f : α → α → Bool) : List α → List α → Bool
 | [], [] => true
 | a :: as, b :: bs => match f a b with
  | true => aGT f as bs
  | false => false
 | _, _ => false
def same : (t : Ty) → t.T → t.T → Bool
 | .int _, x, y => aRz x y
 | .bool, x, y => awM x y
 | .str, x, y => aGT aRy x y
 | .unit, _, _ => true
 | .pair t u, x, y => match same t x.1 y.1 with
  | true => same u x.2 y.2
  | false => false
 | .arr _ t, x, y => aGT (same t) x y
 | .sl t, x, y => aGT (same t) x y
theorem aMZ : ∀ {a b : Int}, aRz a b = true → a = b
 | .ofNat a, .ofNat b, h => by have := aaE (show Nat.beq a b = true from h); rw [this]
 | .negSucc a, .negSucc b, h => by have := aaE (show Nat.beq a b = true from h); rw [this]
 | .ofNat _, .negSucc _, h => by cases h
 | .negSucc _, .ofNat _, h => by cases h
theorem aMX {a b : UInt8} (h : aRy a b = true) : a = b := UInt8.toNat_inj.1 (aaE h)
theorem ar3 {α : Type} {f : α → α → Bool} (hf : ∀ a b, f a b = true → a = b) : ∀ {l m : List α}, aGT f l m = true → l = m
 | [], [], _ => rfl
 | [], _ :: _, h => by cases h
 | _ :: _, [], h => by cases h
 | a :: as, b :: bs, h => by
  simp only [aGT] at h
  split at h
  ·rename_i hab
   rw [hf a b hab, ar3 hf h]
  ·cases h
theorem aM0 {x y : Bool} (h : awM x y = true) : x = y := by
 cases x <;> cases y <;> first | rfl | cases h
theorem ao9 : ∀ (t : Ty) (x y : t.T), same t x y = true → x = y
 | .int _, _, _, h => aMZ h
 | .bool, _, _, h => aM0 h
 | .str, _, _, h => ar3 (fun _ _ => aMX) h
 | .unit, _, _, _ => rfl
 | .pair t u, (a, b), (c, d), h => by
  simp only [same] at h
  split at h
  ·rename_i h1
   have e1 : a = c := ao9 t a c h1
   have e2 : b = d := ao9 u b d h
   rw [e1, e2]
  ·cases h
 | .arr _ t, _, _, h => ar3 (ao9 t) h
 | .sl t, _, _, h => ar3 (ao9 t) h
def aM2 : List Row → Nat → Option Row
 | [], _ => none
 | r :: rs, f => match Nat.beq r.f f with
  | true => some r
  | false => aM2 rs f
def aN7 (t : Ty) {β : Type} : List (t.T × β) → t.T → Option β
 | [], _ => none
 | p :: r, x => match same t p.1 x with
  | true => some p.2
  | false => aN7 t r x
def an8 (rows : List Row) : abP := fun f A R x =>
 match aM2 rows f with
 | some r => match A.as r.A x with
  | some x' => match aN7 r.A r.l x' with
   | some y => r.R.as R y
   | none => none
  | none => none
 | none => none
def okL (pf : abP) (f : Nat) (A R : Ty) : List (A.T × R.T) → Bool
 | [] => true
 | p :: r => match pf f A R p.1 with
  | some z => match same R z p.2 with
   | true => okL pf f A R r
   | false => false
  | none => false
def aa9 (pf : abP) : List Row → Bool
 | [] => true
 | r :: rs => match okL pf r.f r.A r.R r.l with
  | true => aa9 pf rs
  | false => false
theorem aBv : ∀ {rows : List Row} {f : Nat} {r : Row}, aM2 rows f = some r → r ∈ rows ∧ r.f = f
 | [], _, _, h => by cases h
 | q :: rs, f, r, h => by
  simp only [aM2] at h
  split at h
  ·rename_i hb
   injection h with h
   subst h
   exact ⟨zF, aaE hb⟩
  ·obtain ⟨h1, h2⟩ := aBv h
   exact ⟨zx _ h1, h2⟩
theorem aCu {t : Ty} {β : Type} : ∀ {l : List (t.T × β)} {x : t.T} {y : β}, aN7 t l x = some y → (x, y) ∈ l
 | [], _, _, h => by cases h
 | p :: r, x, y, h => by
  simp only [aN7] at h
  split at h
  ·rename_i hb
   injection h with h
   subst h
   have := ao9 _ _ _ hb
   subst this
   exact zF
  ·exact zx _ (aCu h)
theorem aEk {pf : abP} {f : Nat} {A R : Ty} : ∀ {l : List (A.T × R.T)}, okL pf f A R l = true → ∀ x y, (x, y) ∈ l → pf f A R x = some y
 | [], _, _, _, h => by cases h
 | p :: r, hc, x, y, h => by
  simp only [okL] at hc
  split at hc
  ·rename_i z hz
   split at hc
   ·rename_i hs
    rcases zt.1 h with e | h
    ·subst e
     rw [hz, ao9 _ _ _ hs]
    ·exact aEk hc x y h
   ·cases hc
  ·cases hc
theorem apT {pf : abP} : ∀ {rows : List Row}, aa9 pf rows = true → ∀ r ∈ rows, okL pf r.f r.A r.R r.l = true
 | [], _, _, h => by cases h
 | q :: rs, hc, r, h => by
  simp only [aa9] at hc
  split at hc
  ·rename_i hq
   rcases zt.1 h with e | h
   ·rw [e]; exact hq
   ·exact apT hc r h
  ·cases hc
theorem aRp {P : Program} {G : World → Prop} {pf : abP} {rows : List Row} (hp : aeX P G pf) (hc : aa9 pf rows = true) : aeX P G (an8 rows) := by
 intro f A R x y h
 unfold an8 at h
 split at h
 ·rename_i r hr
  obtain ⟨h1, h2⟩ := aBv hr
  split at h
  ·rename_i x' hx
   split at h
   ·rename_i y' hy
    have h3 := aEk (apT hc r h1) x' y' (aCu hy)
    obtain ⟨f', A', R', l⟩ := r
    obtain ⟨e1, e2⟩ := Ty.as_some hx
    obtain ⟨e3, e4⟩ := Ty.as_some h
    simp only at h2 h3 e1 e3
    subst h2; subst e1; subst e3
    have e2' : x = x' := e2
    have e4' : y' = y := e4
    subst e2'; subst e4'
    exact hp _ _ _ _ _ h3
   ·cases h
  ·cases h
 ·cases h
theorem alF {P : Program} {G : World → Prop} (hG : adZ G) (hmix : P.follows .mixedOrders = true) {sig : Sig} (hsig : ∀ x ∈ sig, adG P x.1 = true) {ext : abP} (hext : aeX P G ext) (fuel d : Nat) {rows : List Row}
  (hc : aa9 (abE P sig fuel ext d) rows = true) : aeX P G (akR (an8 rows) ext) := by
 rw [(aDR (P := P) (sig := sig) fuel ext d).1] at hc
 exact aCL (aRp (aDS hG hmix hext hsig fuel d).1 hc) hext
end Go.Vg
