/-
  A runner over the evaluator, and calls that have been run. Own work; no condition.
-/
import Derived.Test.YtehaimkjedmjfaaGreatDoorClR4
set_option linter.unusedVariables false
set_option linter.unusedSimpArgs false
namespace Go.Vg
open Go Go.RowKit
structure Row where
 f : Nat
 A : Ty
 R : Ty
 l : List (A.T × R.T)
def aL2 : Int → Int → Bool
 | .ofNat a, .ofNat b => Nat.beq a b
 | .negSucc a, .negSucc b => Nat.beq a b
 | _, _ => false
def aL1 (a b : UInt8) : Bool := Nat.beq a.toNat b.toNat
def aDi {α : Type} (f : α → α → Bool) : List α → List α → Bool
 | [], [] => true
 | a :: as, b :: bs => match f a b with
  | true => aDi f as bs
  | false => false
 | _, _ => false
def same : (t : Ty) → t.T → t.T → Bool
 | .int _, x, y => aL2 x y
 | .bool, x, y => as9 x y
 | .str, x, y => aDi aL1 x y
 | .unit, _, _ => true
 | .pair t u, x, y => match same t x.1 y.1 with
  | true => same u x.2 y.2
  | false => false
 | .arr _ t, x, y => aDi (same t) x y
 | .sl t, x, y => aDi (same t) x y
theorem aIg : ∀ {a b : Int}, aL2 a b = true → a = b
 | .ofNat a, .ofNat b, h => by have := aaE (show Nat.beq a b = true from h); rw [this]
 | .negSucc a, .negSucc b, h => by have := aaE (show Nat.beq a b = true from h); rw [this]
 | .ofNat _, .negSucc _, h => by cases h
 | .negSucc _, .ofNat _, h => by cases h
theorem aIe {a b : UInt8} (h : aL1 a b = true) : a = b := UInt8.toNat_inj.1 (aaE h)
theorem apQ {α : Type} {f : α → α → Bool} (hf : ∀ a b, f a b = true → a = b) : ∀ {l m : List α}, aDi f l m = true → l = m
 | [], [], _ => rfl
 | [], _ :: _, h => by cases h
 | _ :: _, [], h => by cases h
 | a :: as, b :: bs, h => by
  simp only [aDi] at h
  split at h
  ·rename_i hab
   rw [hf a b hab, apQ hf h]
  ·cases h
theorem aIh {x y : Bool} (h : as9 x y = true) : x = y := by
 cases x <;> cases y <;> first | rfl | cases h
theorem anG : ∀ (t : Ty) (x y : t.T), same t x y = true → x = y
 | .int _, _, _, h => aIg h
 | .bool, _, _, h => aIh h
 | .str, _, _, h => apQ (fun _ _ => aIe) h
 | .unit, _, _, _ => rfl
 | .pair t u, (a, b), (c, d), h => by
  simp only [same] at h
  split at h
  ·rename_i h1
   have e1 : a = c := anG t a c h1
   have e2 : b = d := anG u b d h
   rw [e1, e2]
  ·cases h
 | .arr _ t, _, _, h => apQ (anG t) h
 | .sl t, _, _, h => apQ (anG t) h
def aIl : List Row → Nat → Option Row
 | [], _ => none
 | r :: rs, f => match Nat.beq r.f f with
  | true => some r
  | false => aIl rs f
def aI3 (t : Ty) {β : Type} : List (t.T × β) → t.T → Option β
 | [], _ => none
 | p :: r, x => match same t p.1 x with
  | true => some p.2
  | false => aI3 t r x
def ao9 (rows : List Row) : abA := fun f A R x =>
 match aIl rows f with
 | some r => match A.as r.A x with
  | some x' => match aI3 r.A r.l x' with
   | some y => r.R.as R y
   | none => none
  | none => none
 | none => none
def okL (pf : abA) (f : Nat) (A R : Ty) : List (A.T × R.T) → Bool
 | [] => true
 | p :: r => match pf f A R p.1 with
  | some z => match same R z p.2 with
   | true => okL pf f A R r
   | false => false
  | none => false
def aaR (pf : abA) : List Row → Bool
 | [] => true
 | r :: rs => match okL pf r.f r.A r.R r.l with
  | true => aaR pf rs
  | false => false
theorem axU : ∀ {rows : List Row} {f : Nat} {r : Row}, aIl rows f = some r → r ∈ rows ∧ r.f = f
 | [], _, _, h => by cases h
 | q :: rs, f, r, h => by
  simp only [aIl] at h
  split at h
  ·rename_i hb
   injection h with h
   subst h
   exact ⟨zy, aaE hb⟩
  ·obtain ⟨h1, h2⟩ := axU h
   exact ⟨zr _ h1, h2⟩
theorem azC {t : Ty} {β : Type} : ∀ {l : List (t.T × β)} {x : t.T} {y : β}, aI3 t l x = some y → (x, y) ∈ l
 | [], _, _, h => by cases h
 | p :: r, x, y, h => by
  simp only [aI3] at h
  split at h
  ·rename_i hb
   injection h with h
   subst h
   have := anG _ _ _ hb
   subst this
   exact zy
  ·exact zr _ (azC h)
theorem aA9 {pf : abA} {f : Nat} {A R : Ty} : ∀ {l : List (A.T × R.T)}, okL pf f A R l = true → ∀ x y, (x, y) ∈ l → pf f A R x = some y
 | [], _, _, _, h => by cases h
 | p :: r, hc, x, y, h => by
  simp only [okL] at hc
  split at hc
  ·rename_i z hz
   split at hc
   ·rename_i hs
    rcases zp.1 h with e | h
    ·subst e
     rw [hz, anG _ _ _ hs]
    ·exact aA9 hc x y h
   ·cases hc
  ·cases hc
theorem anU {pf : abA} : ∀ {rows : List Row}, aaR pf rows = true → ∀ r ∈ rows, okL pf r.f r.A r.R r.l = true
 | [], _, _, h => by cases h
 | q :: rs, hc, r, h => by
  simp only [aaR] at hc
  split at hc
  ·rename_i hq
   rcases zp.1 h with e | h
   ·rw [e]; exact hq
   ·exact anU hc r h
  ·cases hc
theorem aLS {P : Program} {G : World → Prop} {pf : abA} {rows : List Row} (hp : aeC P G pf) (hc : aaR pf rows = true) : aeC P G (ao9 rows) := by
 intro f A R x y h
 unfold ao9 at h
 split at h
 ·rename_i r hr
  obtain ⟨h1, h2⟩ := axU hr
  split at h
  ·rename_i x' hx
   split at h
   ·rename_i y' hy
    have h3 := aA9 (anU hc r h1) x' y' (azC hy)
    obtain ⟨f', A', R', l⟩ := r
    obtain ⟨e1, e2⟩ := Ty.as_some hx
    obtain ⟨e3, e4⟩ := Ty.as_some h
    simp only at h2 h3 e1 e3
    subst h2; subst e1; subst e3
    have e2' : x = x' := e2
    have e4' : y' = y := e4
    subst e2'; subst e4'
    exact hp _ _ _ _ _ h3
   ·cases h
  ·cases h
 ·cases h
theorem amQ {P : Program} {G : World → Prop} (hG : acQ G) (hmix : P.follows .mixedOrders = true) {sig : Sig} (hsig : ∀ x ∈ sig, acJ P x.1 = true) {ext : abA} (hext : aeC P G ext) (fuel d : Nat) {rows : List Row}
  (hc : aaR (aaT P sig fuel ext d) rows = true) : aeC P G (ak7 (ao9 rows) ext) := by
 rw [(aAL (P := P) (sig := sig) fuel ext d).1] at hc
 exact azM (aLS (aAM hG hmix hext hsig fuel d).1 hc) hext
end Go.Vg
