/-
  A runner over the evaluator, and calls that have been run. Own work; no condition.
-/
import Derived.Test.YtgibnaibdcbmmaaGreatDoorClR4
set_option linter.unusedVariables false
set_option linter.unusedSimpArgs false
namespace Go.Vg
open Go Go.RowKit
structure Row where
 f : Nat
 A : Ty
 R : Ty
 l : List (A.T × R.T)
def aMF : Int → Int → Bool
 | .ofNat a, .ofNat b => Nat.beq a b
 | .negSucc a, .negSucc b => Nat.beq a b
 | _, _ => false
def aME (a b : UInt8) : Bool := Nat.beq a.toNat b.toNat
def aDK {α : Type} (f : α → α → Bool) : List α → List α → Bool
 | [], [] => true
 | a :: as, b :: bs => match f a b with
  | true => aDK f as bs
  | false => false
 | _, _ => false
def same : (t : Ty) → t.T → t.T → Bool
 | .int _, x, y => aMF x y
 | .bool, x, y => atV x y
 | .str, x, y => aDK aME x y
 | .unit, _, _ => true
 | .pair t u, x, y => match same t x.1 y.1 with
  | true => same u x.2 y.2
  | false => false
 | .arr _ t, x, y => aDK (same t) x y
 | .sl t, x, y => aDK (same t) x y
theorem aIT : ∀ {a b : Int}, aMF a b = true → a = b
 | .ofNat a, .ofNat b, h => by have := aaE (show Nat.beq a b = true from h); rw [this]
 | .negSucc a, .negSucc b, h => by have := aaE (show Nat.beq a b = true from h); rw [this]
 | .ofNat _, .negSucc _, h => by cases h
 | .negSucc _, .ofNat _, h => by cases h
theorem aIR {a b : UInt8} (h : aME a b = true) : a = b := UInt8.toNat_inj.1 (aaE h)
theorem ap8 {α : Type} {f : α → α → Bool} (hf : ∀ a b, f a b = true → a = b) : ∀ {l m : List α}, aDK f l m = true → l = m
 | [], [], _ => rfl
 | [], _ :: _, h => by cases h
 | _ :: _, [], h => by cases h
 | a :: as, b :: bs, h => by
  simp only [aDK] at h
  split at h
  ·rename_i hab
   rw [hf a b hab, ap8 hf h]
  ·cases h
theorem aIU {x y : Bool} (h : atV x y = true) : x = y := by
 cases x <;> cases y <;> first | rfl | cases h
theorem anT : ∀ (t : Ty) (x y : t.T), same t x y = true → x = y
 | .int _, _, _, h => aIT h
 | .bool, _, _, h => aIU h
 | .str, _, _, h => ap8 (fun _ _ => aIR) h
 | .unit, _, _, _ => rfl
 | .pair t u, (a, b), (c, d), h => by
  simp only [same] at h
  split at h
  ·rename_i h1
   have e1 : a = c := anT t a c h1
   have e2 : b = d := anT u b d h
   rw [e1, e2]
  ·cases h
 | .arr _ t, _, _, h => ap8 (anT t) h
 | .sl t, _, _, h => ap8 (anT t) h
def aIY : List Row → Nat → Option Row
 | [], _ => none
 | r :: rs, f => match Nat.beq r.f f with
  | true => some r
  | false => aIY rs f
def aJI (t : Ty) {β : Type} : List (t.T × β) → t.T → Option β
 | [], _ => none
 | p :: r, x => match same t p.1 x with
  | true => some p.2
  | false => aJI t r x
def apS (rows : List Row) : abC := fun f A R x =>
 match aIY rows f with
 | some r => match A.as r.A x with
  | some x' => match aJI r.A r.l x' with
   | some y => r.R.as R y
   | none => none
  | none => none
 | none => none
def okL (pf : abC) (f : Nat) (A R : Ty) : List (A.T × R.T) → Bool
 | [] => true
 | p :: r => match pf f A R p.1 with
  | some z => match same R z p.2 with
   | true => okL pf f A R r
   | false => false
  | none => false
def aaR (pf : abC) : List Row → Bool
 | [] => true
 | r :: rs => match okL pf r.f r.A r.R r.l with
  | true => aaR pf rs
  | false => false
theorem ayH : ∀ {rows : List Row} {f : Nat} {r : Row}, aIY rows f = some r → r ∈ rows ∧ r.f = f
 | [], _, _, h => by cases h
 | q :: rs, f, r, h => by
  simp only [aIY] at h
  split at h
  ·rename_i hb
   injection h with h
   subst h
   exact ⟨zy, aaE hb⟩
  ·obtain ⟨h1, h2⟩ := ayH h
   exact ⟨zt _ h1, h2⟩
theorem az0 {t : Ty} {β : Type} : ∀ {l : List (t.T × β)} {x : t.T} {y : β}, aJI t l x = some y → (x, y) ∈ l
 | [], _, _, h => by cases h
 | p :: r, x, y, h => by
  simp only [aJI] at h
  split at h
  ·rename_i hb
   injection h with h
   subst h
   have := anT _ _ _ hb
   subst this
   exact zy
  ·exact zt _ (az0 h)
theorem aBA {pf : abC} {f : Nat} {A R : Ty} : ∀ {l : List (A.T × R.T)}, okL pf f A R l = true → ∀ x y, (x, y) ∈ l → pf f A R x = some y
 | [], _, _, _, h => by cases h
 | p :: r, hc, x, y, h => by
  simp only [okL] at hc
  split at hc
  ·rename_i z hz
   split at hc
   ·rename_i hs
    rcases zp.1 h with e | h
    ·subst e
     rw [hz, anT _ _ _ hs]
    ·exact aBA hc x y h
   ·cases hc
  ·cases hc
theorem an9 {pf : abC} : ∀ {rows : List Row}, aaR pf rows = true → ∀ r ∈ rows, okL pf r.f r.A r.R r.l = true
 | [], _, _, h => by cases h
 | q :: rs, hc, r, h => by
  simp only [aaR] at hc
  split at hc
  ·rename_i hq
   rcases zp.1 h with e | h
   ·rw [e]; exact hq
   ·exact an9 hc r h
  ·cases hc
theorem aMv {P : Program} {G : World → Prop} {pf : abC} {rows : List Row} (hp : aeD P G pf) (hc : aaR pf rows = true) : aeD P G (apS rows) := by
 intro f A R x y h
 unfold apS at h
 split at h
 ·rename_i r hr
  obtain ⟨h1, h2⟩ := ayH hr
  split at h
  ·rename_i x' hx
   split at h
   ·rename_i y' hy
    have h3 := aBA (an9 hc r h1) x' y' (az0 hy)
    obtain ⟨f', A', R', l⟩ := r
    obtain ⟨e1, e2⟩ := Ty.as_some hx
    obtain ⟨e3, e4⟩ := Ty.as_some h
    simp only at h2 h3 e1 e3
    subst h2; subst e1; subst e3
    have e2' : x = x' := e2
    have e4' : y' = y := e4
    subst e2'; subst e4'
    exact hp _ _ _ _ _ h3
   ·cases h
  ·cases h
 ·cases h
theorem am8 {P : Program} {G : World → Prop} (hG : acS G) (hmix : P.follows .mixedOrders = true) {sig : Sig} (hsig : ∀ x ∈ sig, acL P x.1 = true) {ext : abC} (hext : aeD P G ext) (fuel d : Nat) {rows : List Row}
  (hc : aaR (aaT P sig fuel ext d) rows = true) : aeD P G (alH (apS rows) ext) := by
 rw [(aA9 (P := P) (sig := sig) fuel ext d).1] at hc
 exact aAa (aMv (aBa hG hmix hext hsig fuel d).1 hc) hext
end Go.Vg
