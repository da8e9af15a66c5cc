/-
  A runner over the evaluator, and calls that have been run. Own work; no condition.
-/
import Derived.Test.YtlmjbmgabddkiaaGreatDoorClR4
set_option linter.unusedVariables false
set_option linter.unusedSimpArgs false
namespace Go.Vg
open Go Go.RowKit
structure Row where
 f : Nat
 A : Ty
 R : Ty
 l : List (A.T × R.T)
def aNl : Int → Int → Bool
 | .ofNat a, .ofNat b => Nat.beq a b
 | .negSucc a, .negSucc b => Nat.beq a b
 | _, _ => false
def aNk (a b : UInt8) : Bool := Nat.beq a.toNat b.toNat
def aDu {α : Type} (f : α → α → Bool) : List α → List α → Bool
 | [], [] => true
 | a :: as, b :: bs => match f a b with
  | true => aDu f as bs
  | false => false
 | _, _ => false
def same : (t : Ty) → t.T → t.T → Bool
 | .int _, x, y => aNl x y
 | .bool, x, y => asZ x y
 | .str, x, y => aDu aNk x y
 | .unit, _, _ => true
 | .pair t u, x, y => match same t x.1 y.1 with
  | true => same u x.2 y.2
  | false => false
 | .arr _ t, x, y => aDu (same t) x y
 | .sl t, x, y => aDu (same t) x y
theorem aI6 : ∀ {a b : Int}, aNl a b = true → a = b
 | .ofNat a, .ofNat b, h => by have := aaC (show Nat.beq a b = true from h); rw [this]
 | .negSucc a, .negSucc b, h => by have := aaC (show Nat.beq a b = true from h); rw [this]
 | .ofNat _, .negSucc _, h => by cases h
 | .negSucc _, .ofNat _, h => by cases h
theorem aI4 {a b : UInt8} (h : aNk a b = true) : a = b := UInt8.toNat_inj.1 (aaC h)
theorem ao5 {α : Type} {f : α → α → Bool} (hf : ∀ a b, f a b = true → a = b) : ∀ {l m : List α}, aDu f l m = true → l = m
 | [], [], _ => rfl
 | [], _ :: _, h => by cases h
 | _ :: _, [], h => by cases h
 | a :: as, b :: bs, h => by
  simp only [aDu] at h
  split at h
  ·rename_i hab
   rw [hf a b hab, ao5 hf h]
  ·cases h
theorem aI7 {x y : Bool} (h : asZ x y = true) : x = y := by
 cases x <;> cases y <;> first | rfl | cases h
theorem amS : ∀ (t : Ty) (x y : t.T), same t x y = true → x = y
 | .int _, _, _, h => aI6 h
 | .bool, _, _, h => aI7 h
 | .str, _, _, h => ao5 (fun _ _ => aI4) h
 | .unit, _, _, _ => rfl
 | .pair t u, (a, b), (c, d), h => by
  simp only [same] at h
  split at h
  ·rename_i h1
   have e1 : a = c := amS t a c h1
   have e2 : b = d := amS u b d h
   rw [e1, e2]
  ·cases h
 | .arr _ t, _, _, h => ao5 (amS t) h
 | .sl t, _, _, h => ao5 (amS t) h
def aI9 : List Row → Nat → Option Row
 | [], _ => none
 | r :: rs, f => match Nat.beq r.f f with
  | true => some r
  | false => aI9 rs f
def aJ8 (t : Ty) {β : Type} : List (t.T × β) → t.T → Option β
 | [], _ => none
 | p :: r, x => match same t p.1 x with
  | true => some p.2
  | false => aJ8 t r x
def al2 (rows : List Row) : abI := fun f A R x =>
 match aI9 rows f with
 | some r => match A.as r.A x with
  | some x' => match aJ8 r.A r.l x' with
   | some y => r.R.as R y
   | none => none
  | none => none
 | none => none
def okL (pf : abI) (f : Nat) (A R : Ty) : List (A.T × R.T) → Bool
 | [] => true
 | p :: r => match pf f A R p.1 with
  | some z => match same R z p.2 with
   | true => okL pf f A R r
   | false => false
  | none => false
def aa6 (pf : abI) : List Row → Bool
 | [] => true
 | r :: rs => match okL pf r.f r.A r.R r.l with
  | true => aa6 pf rs
  | false => false
theorem ax4 : ∀ {rows : List Row} {f : Nat} {r : Row}, aI9 rows f = some r → r ∈ rows ∧ r.f = f
 | [], _, _, h => by cases h
 | q :: rs, f, r, h => by
  simp only [aI9] at h
  split at h
  ·rename_i hb
   injection h with h
   subst h
   exact ⟨zE, aaC hb⟩
  ·obtain ⟨h1, h2⟩ := ax4 h
   exact ⟨zw _ h1, h2⟩
theorem azG {t : Ty} {β : Type} : ∀ {l : List (t.T × β)} {x : t.T} {y : β}, aJ8 t l x = some y → (x, y) ∈ l
 | [], _, _, h => by cases h
 | p :: r, x, y, h => by
  simp only [aJ8] at h
  split at h
  ·rename_i hb
   injection h with h
   subst h
   have := amS _ _ _ hb
   subst this
   exact zE
  ·exact zw _ (azG h)
theorem aA7 {pf : abI} {f : Nat} {A R : Ty} : ∀ {l : List (A.T × R.T)}, okL pf f A R l = true → ∀ x y, (x, y) ∈ l → pf f A R x = some y
 | [], _, _, _, h => by cases h
 | p :: r, hc, x, y, h => by
  simp only [okL] at hc
  split at hc
  ·rename_i z hz
   split at hc
   ·rename_i hs
    rcases zo.1 h with e | h
    ·subst e
     rw [hz, amS _ _ _ hs]
    ·exact aA7 hc x y h
   ·cases hc
  ·cases hc
theorem am5 {pf : abI} : ∀ {rows : List Row}, aa6 pf rows = true → ∀ r ∈ rows, okL pf r.f r.A r.R r.l = true
 | [], _, _, h => by cases h
 | q :: rs, hc, r, h => by
  simp only [aa6] at hc
  split at hc
  ·rename_i hq
   rcases zo.1 h with e | h
   ·rw [e]; exact hq
   ·exact am5 hc r h
  ·cases hc
theorem aNb {P : Program} {G : World → Prop} {pf : abI} {rows : List Row} (hp : adZ P G pf) (hc : aa6 pf rows = true) : adZ P G (al2 rows) := by
 intro f A R x y h
 unfold al2 at h
 split at h
 ·rename_i r hr
  obtain ⟨h1, h2⟩ := ax4 hr
  split at h
  ·rename_i x' hx
   split at h
   ·rename_i y' hy
    have h3 := aA7 (am5 hc r h1) x' y' (azG hy)
    obtain ⟨f', A', R', l⟩ := r
    obtain ⟨e1, e2⟩ := Ty.as_some hx
    obtain ⟨e3, e4⟩ := Ty.as_some h
    simp only at h2 h3 e1 e3
    subst h2; subst e1; subst e3
    have e2' : x = x' := e2
    have e4' : y' = y := e4
    subst e2'; subst e4'
    exact hp _ _ _ _ _ h3
   ·cases h
  ·cases h
 ·cases h
theorem ajF {P : Program} {G : World → Prop} (hG : adN G) (hmix : P.follows .mixedOrders = true) {sig : Sig} (hsig : ∀ x ∈ sig, acO P x.1 = true) {ext : abI} (hext : adZ P G ext) (fuel d : Nat) {rows : List Row}
  (hc : aa6 (aa8 P sig fuel ext d) rows = true) : adZ P G (aiR (al2 rows) ext) := by
 rw [(aAO (P := P) (sig := sig) fuel ext d).1] at hc
 exact azY (aNb (aAP hG hmix hext hsig fuel d).1 hc) hext
end Go.Vg
