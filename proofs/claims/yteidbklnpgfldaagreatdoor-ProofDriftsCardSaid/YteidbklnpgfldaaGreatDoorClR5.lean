/-
  A runner over the evaluator, and calls that have been run. Own work; no condition.
-/
import Derived.Test.YteidbklnpgfldaaGreatDoorClR4
set_option linter.unusedVariables false
set_option linter.unusedSimpArgs false
namespace Go.Vg
open Go Go.RowKit
structure Row where
 f : Nat
 A : Ty
 R : Ty
 l : List (A.T × R.T)
def aPh : Int → Int → Bool
 | .ofNat a, .ofNat b => Nat.beq a b
 | .negSucc a, .negSucc b => Nat.beq a b
 | _, _ => false
def aPg (a b : UInt8) : Bool := Nat.beq a.toNat b.toNat
def aEx {α : Type} (f : α → α → Bool) : List α → List α → Bool
 | [], [] => true
 | a :: as, b :: bs => match f a b with
  | true => aEx f as bs
  | false => false
 | _, _ => false
def same : (t : Ty) → t.T → t.T → Bool
 | .int _, x, y => aPh x y
 | .bool, x, y => at2 x y
 | .str, x, y => aEx aPg x y
 | .unit, _, _ => true
 | .pair t u, x, y => match same t x.1 y.1 with
  | true => same u x.2 y.2
  | false => false
 | .arr _ t, x, y => aEx (same t) x y
 | .sl t, x, y => aEx (same t) x y
theorem aKm : ∀ {a b : Int}, aPh a b = true → a = b
 | .ofNat a, .ofNat b, h => by have := aaD (show Nat.beq a b = true from h); rw [this]
 | .negSucc a, .negSucc b, h => by have := aaD (show Nat.beq a b = true from h); rw [this]
 | .ofNat _, .negSucc _, h => by cases h
 | .negSucc _, .ofNat _, h => by cases h
theorem aKk {a b : UInt8} (h : aPg a b = true) : a = b := UInt8.toNat_inj.1 (aaD h)
theorem ap1 {α : Type} {f : α → α → Bool} (hf : ∀ a b, f a b = true → a = b) : ∀ {l m : List α}, aEx f l m = true → l = m
 | [], [], _ => rfl
 | [], _ :: _, h => by cases h
 | _ :: _, [], h => by cases h
 | a :: as, b :: bs, h => by
  simp only [aEx] at h
  split at h
  ·rename_i hab
   rw [hf a b hab, ap1 hf h]
  ·cases h
theorem aKn {x y : Bool} (h : at2 x y = true) : x = y := by
 cases x <;> cases y <;> first | rfl | cases h
theorem anM : ∀ (t : Ty) (x y : t.T), same t x y = true → x = y
 | .int _, _, _, h => aKm h
 | .bool, _, _, h => aKn h
 | .str, _, _, h => ap1 (fun _ _ => aKk) h
 | .unit, _, _, _ => rfl
 | .pair t u, (a, b), (c, d), h => by
  simp only [same] at h
  split at h
  ·rename_i h1
   have e1 : a = c := anM t a c h1
   have e2 : b = d := anM u b d h
   rw [e1, e2]
  ·cases h
 | .arr _ t, _, _, h => ap1 (anM t) h
 | .sl t, _, _, h => ap1 (anM t) h
def aKs : List Row → Nat → Option Row
 | [], _ => none
 | r :: rs, f => match Nat.beq r.f f with
  | true => some r
  | false => aKs rs f
def aLG (t : Ty) {β : Type} : List (t.T × β) → t.T → Option β
 | [], _ => none
 | p :: r, x => match same t p.1 x with
  | true => some p.2
  | false => aLG t r x
def ajT (rows : List Row) : aa4 := fun f A R x =>
 match aKs rows f with
 | some r => match A.as r.A x with
  | some x' => match aLG r.A r.l x' with
   | some y => r.R.as R y
   | none => none
  | none => none
 | none => none
def okL (pf : aa4) (f : Nat) (A R : Ty) : List (A.T × R.T) → Bool
 | [] => true
 | p :: r => match pf f A R p.1 with
  | some z => match same R z p.2 with
   | true => okL pf f A R r
   | false => false
  | none => false
def aaF (pf : aa4) : List Row → Bool
 | [] => true
 | r :: rs => match okL pf r.f r.A r.R r.l with
  | true => aaF pf rs
  | false => false
theorem ay7 : ∀ {rows : List Row} {f : Nat} {r : Row}, aKs rows f = some r → r ∈ rows ∧ r.f = f
 | [], _, _, h => by cases h
 | q :: rs, f, r, h => by
  simp only [aKs] at h
  split at h
  ·rename_i hb
   injection h with h
   subst h
   exact ⟨zG, aaD hb⟩
  ·obtain ⟨h1, h2⟩ := ay7 h
   exact ⟨zu _ h1, h2⟩
theorem aAq {t : Ty} {β : Type} : ∀ {l : List (t.T × β)} {x : t.T} {y : β}, aLG t l x = some y → (x, y) ∈ l
 | [], _, _, h => by cases h
 | p :: r, x, y, h => by
  simp only [aLG] at h
  split at h
  ·rename_i hb
   injection h with h
   subst h
   have := anM _ _ _ hb
   subst this
   exact zG
  ·exact zu _ (aAq h)
theorem aCi {pf : aa4} {f : Nat} {A R : Ty} : ∀ {l : List (A.T × R.T)}, okL pf f A R l = true → ∀ x y, (x, y) ∈ l → pf f A R x = some y
 | [], _, _, _, h => by cases h
 | p :: r, hc, x, y, h => by
  simp only [okL] at hc
  split at hc
  ·rename_i z hz
   split at hc
   ·rename_i hs
    rcases zq.1 h with e | h
    ·subst e
     rw [hz, anM _ _ _ hs]
    ·exact aCi hc x y h
   ·cases hc
  ·cases hc
theorem anZ {pf : aa4} : ∀ {rows : List Row}, aaF pf rows = true → ∀ r ∈ rows, okL pf r.f r.A r.R r.l = true
 | [], _, _, h => by cases h
 | q :: rs, hc, r, h => by
  simp only [aaF] at hc
  split at hc
  ·rename_i hq
   rcases zq.1 h with e | h
   ·rw [e]; exact hq
   ·exact anZ hc r h
  ·cases hc
theorem aPa {P : Program} {G : World → Prop} {pf : aa4} {rows : List Row} (hp : adP P G pf) (hc : aaF pf rows = true) : adP P G (ajT rows) := by
 intro f A R x y h
 unfold ajT at h
 split at h
 ·rename_i r hr
  obtain ⟨h1, h2⟩ := ay7 hr
  split at h
  ·rename_i x' hx
   split at h
   ·rename_i y' hy
    have h3 := aCi (anZ hc r h1) x' y' (aAq hy)
    obtain ⟨f', A', R', l⟩ := r
    obtain ⟨e1, e2⟩ := Ty.as_some hx
    obtain ⟨e3, e4⟩ := Ty.as_some h
    simp only at h2 h3 e1 e3
    subst h2; subst e1; subst e3
    have e2' : x = x' := e2
    have e4' : y' = y := e4
    subst e2'; subst e4'
    exact hp _ _ _ _ _ h3
   ·cases h
  ·cases h
 ·cases h
theorem agM {P : Program} {G : World → Prop} (hG : acS G) (hmix : P.follows .mixedOrders = true) {sig : Sig} (hsig : ∀ x ∈ sig, acM P x.1 = true) {ext : aa4} (hext : adP P G ext) (fuel d : Nat) {rows : List Row}
  (hc : aaF (aaG P sig fuel ext d) rows = true) : adP P G (ahK (ajT rows) ext) := by
 rw [(aBP (P := P) (sig := sig) fuel ext d).1] at hc
 exact aAG (aPa (aBQ hG hmix hext hsig fuel d).1 hc) hext
end Go.Vg
