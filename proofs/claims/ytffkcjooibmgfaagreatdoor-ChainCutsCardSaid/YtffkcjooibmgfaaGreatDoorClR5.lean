/-
  A runner over the evaluator, and calls that have been run. Own work; no condition.
-/
import Derived.Test.YtffkcjooibmgfaaGreatDoorClR4
set_option linter.unusedVariables false
set_option linter.unusedSimpArgs false
namespace Go.Vg
open Go Go.RowKit
structure Row where
 f : Nat
 A : Ty
 R : Ty
 l : List (A.T × R.T)
def aJR : Int → Int → Bool
 | .ofNat a, .ofNat b => Nat.beq a b
 | .negSucc a, .negSucc b => Nat.beq a b
 | _, _ => false
def aJQ (a b : UInt8) : Bool := Nat.beq a.toNat b.toNat
def aBN {α : Type} (f : α → α → Bool) : List α → List α → Bool
 | [], [] => true
 | a :: as, b :: bs => match f a b with
  | true => aBN f as bs
  | false => false
 | _, _ => false
def same : (t : Ty) → t.T → t.T → Bool
 | .int _, x, y => aJR x y
 | .bool, x, y => arM x y
 | .str, x, y => aBN aJQ x y
 | .unit, _, _ => true
 | .pair t u, x, y => match same t x.1 y.1 with
  | true => same u x.2 y.2
  | false => false
 | .arr _ t, x, y => aBN (same t) x y
 | .sl t, x, y => aBN (same t) x y
theorem aGh : ∀ {a b : Int}, aJR a b = true → a = b
 | .ofNat a, .ofNat b, h => by have := aaD (show Nat.beq a b = true from h); rw [this]
 | .negSucc a, .negSucc b, h => by have := aaD (show Nat.beq a b = true from h); rw [this]
 | .ofNat _, .negSucc _, h => by cases h
 | .negSucc _, .ofNat _, h => by cases h
theorem aGf {a b : UInt8} (h : aJQ a b = true) : a = b := UInt8.toNat_inj.1 (aaD h)
theorem an9 {α : Type} {f : α → α → Bool} (hf : ∀ a b, f a b = true → a = b) : ∀ {l m : List α}, aBN f l m = true → l = m
 | [], [], _ => rfl
 | [], _ :: _, h => by cases h
 | _ :: _, [], h => by cases h
 | a :: as, b :: bs, h => by
  simp only [aBN] at h
  split at h
  ·rename_i hab
   rw [hf a b hab, an9 hf h]
  ·cases h
theorem aGi {x y : Bool} (h : arM x y = true) : x = y := by
 cases x <;> cases y <;> first | rfl | cases h
theorem al5 : ∀ (t : Ty) (x y : t.T), same t x y = true → x = y
 | .int _, _, _, h => aGh h
 | .bool, _, _, h => aGi h
 | .str, _, _, h => an9 (fun _ _ => aGf) h
 | .unit, _, _, _ => rfl
 | .pair t u, (a, b), (c, d), h => by
  simp only [same] at h
  split at h
  ·rename_i h1
   have e1 : a = c := al5 t a c h1
   have e2 : b = d := al5 u b d h
   rw [e1, e2]
  ·cases h
 | .arr _ t, _, _, h => an9 (al5 t) h
 | .sl t, _, _, h => an9 (al5 t) h
def aGn : List Row → Nat → Option Row
 | [], _ => none
 | r :: rs, f => match Nat.beq r.f f with
  | true => some r
  | false => aGn rs f
def aHb (t : Ty) {β : Type} : List (t.T × β) → t.T → Option β
 | [], _ => none
 | p :: r, x => match same t p.1 x with
  | true => some p.2
  | false => aHb t r x
def anQ (rows : List Row) : aa6 := fun f A R x =>
 match aGn rows f with
 | some r => match A.as r.A x with
  | some x' => match aHb r.A r.l x' with
   | some y => r.R.as R y
   | none => none
  | none => none
 | none => none
def okL (pf : aa6) (f : Nat) (A R : Ty) : List (A.T × R.T) → Bool
 | [] => true
 | p :: r => match pf f A R p.1 with
  | some z => match same R z p.2 with
   | true => okL pf f A R r
   | false => false
  | none => false
def aaO (pf : aa6) : List Row → Bool
 | [] => true
 | r :: rs => match okL pf r.f r.A r.R r.l with
  | true => aaO pf rs
  | false => false
theorem avZ : ∀ {rows : List Row} {f : Nat} {r : Row}, aGn rows f = some r → r ∈ rows ∧ r.f = f
 | [], _, _, h => by cases h
 | q :: rs, f, r, h => by
  simp only [aGn] at h
  split at h
  ·rename_i hb
   injection h with h
   subst h
   exact ⟨zv, aaD hb⟩
  ·obtain ⟨h1, h2⟩ := avZ h
   exact ⟨zr _ h1, h2⟩
theorem aw6 {t : Ty} {β : Type} : ∀ {l : List (t.T × β)} {x : t.T} {y : β}, aHb t l x = some y → (x, y) ∈ l
 | [], _, _, h => by cases h
 | p :: r, x, y, h => by
  simp only [aHb] at h
  split at h
  ·rename_i hb
   injection h with h
   subst h
   have := al5 _ _ _ hb
   subst this
   exact zv
  ·exact zr _ (aw6 h)
theorem azN {pf : aa6} {f : Nat} {A R : Ty} : ∀ {l : List (A.T × R.T)}, okL pf f A R l = true → ∀ x y, (x, y) ∈ l → pf f A R x = some y
 | [], _, _, _, h => by cases h
 | p :: r, hc, x, y, h => by
  simp only [okL] at hc
  split at hc
  ·rename_i z hz
   split at hc
   ·rename_i hs
    rcases zq.1 h with e | h
    ·subst e
     rw [hz, al5 _ _ _ hs]
    ·exact azN hc x y h
   ·cases hc
  ·cases hc
theorem amD {pf : aa6} : ∀ {rows : List Row}, aaO pf rows = true → ∀ r ∈ rows, okL pf r.f r.A r.R r.l = true
 | [], _, _, h => by cases h
 | q :: rs, hc, r, h => by
  simp only [aaO] at hc
  split at hc
  ·rename_i hq
   rcases zq.1 h with e | h
   ·rw [e]; exact hq
   ·exact amD hc r h
  ·cases hc
theorem aJJ {P : Program} {G : World → Prop} {pf : aa6} {rows : List Row} (hp : ad8 P G pf) (hc : aaO pf rows = true) : ad8 P G (anQ rows) := by
 intro f A R x y h
 unfold anQ at h
 split at h
 ·rename_i r hr
  obtain ⟨h1, h2⟩ := avZ hr
  split at h
  ·rename_i x' hx
   split at h
   ·rename_i y' hy
    have h3 := azN (amD hc r h1) x' y' (aw6 hy)
    obtain ⟨f', A', R', l⟩ := r
    obtain ⟨e1, e2⟩ := Ty.as_some hx
    obtain ⟨e3, e4⟩ := Ty.as_some h
    simp only at h2 h3 e1 e3
    subst h2; subst e1; subst e3
    have e2' : x = x' := e2
    have e4' : y' = y := e4
    subst e2'; subst e4'
    exact hp _ _ _ _ _ h3
   ·cases h
  ·cases h
 ·cases h
theorem alH {P : Program} {G : World → Prop} (hG : acQ G) (hmix : P.follows .mixedOrders = true) {sig : Sig} (hsig : ∀ x ∈ sig, acG P x.1 = true) {ext : aa6} (hext : ad8 P G ext) (fuel d : Nat) {rows : List Row}
  (hc : aaO (aaR P sig fuel ext d) rows = true) : ad8 P G (aj9 (anQ rows) ext) := by
 rw [(ay3 (P := P) (sig := sig) fuel ext d).1] at hc
 exact axG (aJJ (ay4 hG hmix hext hsig fuel d).1 hc) hext
end Go.Vg
