/-
  A runner over the evaluator, and calls that have been run. Own work; no condition.
-/
import Derived.Test.YtlmjbmgabddkiaaGreatDoorClR4
set_option linter.unusedVariables false
set_option linter.unusedSimpArgs false
namespace Go.Vg
open Go Go.RowKit
structure Row where
 f : Nat
 A : Ty
 R : Ty
 l : List (A.T × R.T)
def aNc : Int → Int → Bool
 | .ofNat a, .ofNat b => Nat.beq a b
 | .negSucc a, .negSucc b => Nat.beq a b
 | _, _ => false
def aNb (a b : UInt8) : Bool := Nat.beq a.toNat b.toNat
def aDg {α : Type} (f : α → α → Bool) : List α → List α → Bool
 | [], [] => true
 | a :: as, b :: bs => match f a b with
  | true => aDg f as bs
  | false => false
 | _, _ => false
def same : (t : Ty) → t.T → t.T → Bool
 | .int _, x, y => aNc x y
 | .bool, x, y => asI x y
 | .str, x, y => aDg aNb x y
 | .unit, _, _ => true
 | .pair t u, x, y => match same t x.1 y.1 with
  | true => same u x.2 y.2
  | false => false
 | .arr _ t, x, y => aDg (same t) x y
 | .sl t, x, y => aDg (same t) x y
theorem aIX : ∀ {a b : Int}, aNc a b = true → a = b
 | .ofNat a, .ofNat b, h => by have := aaB (show Nat.beq a b = true from h); rw [this]
 | .negSucc a, .negSucc b, h => by have := aaB (show Nat.beq a b = true from h); rw [this]
 | .ofNat _, .negSucc _, h => by cases h
 | .negSucc _, .ofNat _, h => by cases h
theorem aIV {a b : UInt8} (h : aNb a b = true) : a = b := UInt8.toNat_inj.1 (aaB h)
theorem aoN {α : Type} {f : α → α → Bool} (hf : ∀ a b, f a b = true → a = b) : ∀ {l m : List α}, aDg f l m = true → l = m
 | [], [], _ => rfl
 | [], _ :: _, h => by cases h
 | _ :: _, [], h => by cases h
 | a :: as, b :: bs, h => by
  simp only [aDg] at h
  split at h
  ·rename_i hab
   rw [hf a b hab, aoN hf h]
  ·cases h
theorem aIY {x y : Bool} (h : asI x y = true) : x = y := by
 cases x <;> cases y <;> first | rfl | cases h
theorem amC : ∀ (t : Ty) (x y : t.T), same t x y = true → x = y
 | .int _, _, _, h => aIX h
 | .bool, _, _, h => aIY h
 | .str, _, _, h => aoN (fun _ _ => aIV) h
 | .unit, _, _, _ => rfl
 | .pair t u, (a, b), (c, d), h => by
  simp only [same] at h
  split at h
  ·rename_i h1
   have e1 : a = c := amC t a c h1
   have e2 : b = d := amC u b d h
   rw [e1, e2]
  ·cases h
 | .arr _ t, _, _, h => aoN (amC t) h
 | .sl t, _, _, h => aoN (amC t) h
def aI0 : List Row → Nat → Option Row
 | [], _ => none
 | r :: rs, f => match Nat.beq r.f f with
  | true => some r
  | false => aI0 rs f
def aJY (t : Ty) {β : Type} : List (t.T × β) → t.T → Option β
 | [], _ => none
 | p :: r, x => match same t p.1 x with
  | true => some p.2
  | false => aJY t r x
def alR (rows : List Row) : aa8 := fun f A R x =>
 match aI0 rows f with
 | some r => match A.as r.A x with
  | some x' => match aJY r.A r.l x' with
   | some y => r.R.as R y
   | none => none
  | none => none
 | none => none
def okL (pf : aa8) (f : Nat) (A R : Ty) : List (A.T × R.T) → Bool
 | [] => true
 | p :: r => match pf f A R p.1 with
  | some z => match same R z p.2 with
   | true => okL pf f A R r
   | false => false
  | none => false
def aaV (pf : aa8) : List Row → Bool
 | [] => true
 | r :: rs => match okL pf r.f r.A r.R r.l with
  | true => aaV pf rs
  | false => false
theorem axT : ∀ {rows : List Row} {f : Nat} {r : Row}, aI0 rows f = some r → r ∈ rows ∧ r.f = f
 | [], _, _, h => by cases h
 | q :: rs, f, r, h => by
  simp only [aI0] at h
  split at h
  ·rename_i hb
   injection h with h
   subst h
   exact ⟨zx, aaB hb⟩
  ·obtain ⟨h1, h2⟩ := axT h
   exact ⟨zt _ h1, h2⟩
theorem ay0 {t : Ty} {β : Type} : ∀ {l : List (t.T × β)} {x : t.T} {y : β}, aJY t l x = some y → (x, y) ∈ l
 | [], _, _, h => by cases h
 | p :: r, x, y, h => by
  simp only [aJY] at h
  split at h
  ·rename_i hb
   injection h with h
   subst h
   have := amC _ _ _ hb
   subst this
   exact zx
  ·exact zt _ (ay0 h)
theorem aAT {pf : aa8} {f : Nat} {A R : Ty} : ∀ {l : List (A.T × R.T)}, okL pf f A R l = true → ∀ x y, (x, y) ∈ l → pf f A R x = some y
 | [], _, _, _, h => by cases h
 | p :: r, hc, x, y, h => by
  simp only [okL] at hc
  split at hc
  ·rename_i z hz
   split at hc
   ·rename_i hs
    rcases zm.1 h with e | h
    ·subst e
     rw [hz, amC _ _ _ hs]
    ·exact aAT hc x y h
   ·cases hc
  ·cases hc
theorem amO {pf : aa8} : ∀ {rows : List Row}, aaV pf rows = true → ∀ r ∈ rows, okL pf r.f r.A r.R r.l = true
 | [], _, _, h => by cases h
 | q :: rs, hc, r, h => by
  simp only [aaV] at hc
  split at hc
  ·rename_i hq
   rcases zm.1 h with e | h
   ·rw [e]; exact hq
   ·exact amO hc r h
  ·cases hc
theorem aM1 {P : Program} {G : World → Prop} {pf : aa8} {rows : List Row} (hp : adR P G pf) (hc : aaV pf rows = true) : adR P G (alR rows) := by
 intro f A R x y h
 unfold alR at h
 split at h
 ·rename_i r hr
  obtain ⟨h1, h2⟩ := axT hr
  split at h
  ·rename_i x' hx
   split at h
   ·rename_i y' hy
    have h3 := aAT (amO hc r h1) x' y' (ay0 hy)
    obtain ⟨f', A', R', l⟩ := r
    obtain ⟨e1, e2⟩ := Ty.as_some hx
    obtain ⟨e3, e4⟩ := Ty.as_some h
    simp only at h2 h3 e1 e3
    subst h2; subst e1; subst e3
    have e2' : x = x' := e2
    have e4' : y' = y := e4
    subst e2'; subst e4'
    exact hp _ _ _ _ _ h3
   ·cases h
  ·cases h
 ·cases h
theorem ai4 {P : Program} {G : World → Prop} (hG : adF G) (hmix : P.follows .mixedOrders = true) {sig : Sig} (hsig : ∀ x ∈ sig, acF P x.1 = true) {ext : aa8} (hext : adR P G ext) (fuel d : Nat) {rows : List Row}
  (hc : aaV (aaZ P sig fuel ext d) rows = true) : adR P G (aiH (alR rows) ext) := by
 rw [(aAB (P := P) (sig := sig) fuel ext d).1] at hc
 exact azF (aM1 (aAC hG hmix hext hsig fuel d).1 hc) hext
end Go.Vg
