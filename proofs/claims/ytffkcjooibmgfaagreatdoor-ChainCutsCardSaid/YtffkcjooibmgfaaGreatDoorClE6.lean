/-
  An evaluator of Go code over plain data, proved sound against the model. Own work; no condition.
-/
import Derived.Test.YtffkcjooibmgfaaGreatDoorClE5
set_option linter.unusedVariables false
set_option linter.unusedSimpArgs false
namespace Go.Vg
open Go Go.RowKit
inductive TT : Type → Type 1 where
 | ok {α : Type} (a : α) : TT α
 | ite {α : Type} (b : Bool) (x y : TT α) : TT α
 | need {α : Type} (p : Prop) (x : TT α) : TT α
 | triv {α : Type} (p : Prop) (h : p) (x : TT α) : TT α
 | call {α β : Type} (o : Option β) (d : β) (x : β → TT α) : TT α
 | loop {α ι : Type} (tag : Nat) (H : TT ι) (R : ι → TT (ι ⊕ α)) : TT α
 | join {α ι : Type} (tag : Nat) (H : TT (ι ⊕ α)) (R : ι → TT α) : TT α
 | lt {α β : Type} (b : β) (x : β → TT α) : TT α
 | both {α : Type} (x y : TT α) : TT α
 | bad {α : Type} : TT α
def aLS {ι α : Type} (N : ι → Prop) (K : α → Prop) (s : ι ⊕ α) : Prop := Sum.rec N K s
def TT.holds : {α : Type} → TT α → (α → Prop) → Prop
 | _, .ok a, K => K a
 | _, .ite b x y, K => an4 b (x.holds K) (y.holds K)
 | _, .need p x, K => p ∧ x.holds K
 | _, .triv p _ x, K => p ∧ x.holds K
 | _, .call o d x, K => o.isSome = true ∧ (x (o.getD d)).holds K
 | _, .loop t H R, K => LoopH t (fun N => H.holds N) (fun i N => (R i).holds (aLS N K))
 | _, .join t H R, K => JoinH t (fun N => H.holds (aLS N K)) (fun i => (R i).holds K)
 | _, .lt b x, K => (x b).holds K
 | _, .both x y, K => Both (x.holds K) (y.holds K)
 | _, .bad, _ => False
def an2 {ι α : Type} (R : ι → Option (ι ⊕ α)) : Nat → ι → Option α
 | 0, _ => none
 | n + 1, i => match R i with
  | some (.inl i') => an2 R n i'
  | some (.inr a) => some a
  | none => none
open Classical in
noncomputable def afD {ι α : Type} (R : ι → Option (ι ⊕ α)) (i : ι) : Option α :=
 if h : ∃ n a, an2 R n i = some a then some h.choose_spec.choose else none
theorem amG {ι α : Type} {R : ι → Option (ι ⊕ α)} {a : α} : ∀ {n : Nat} {i : ι}, an2 R n i = some a → ∀ m, n ≤ m → an2 R m i = some a
 | 0, _, h => by cases h
 | n + 1, i, h => by
  intro m hm
  obtain ⟨m, rfl⟩ : ∃ k, m = k + 1 := ⟨m - 1, by omega⟩
  simp only [an2] at h ⊢
  split at h
  ·exact amG h m zc
  ·exact h
  ·cases h
theorem auN {ι α : Type} {R : ι → Option (ι ⊕ α)} {a : α} {n : Nat} {i : ι} (h : an2 R n i = some a) : afD R i = some a := by
 have hex : ∃ n a, an2 R n i = some a := ⟨n, a, h⟩
 unfold afD
 rw [dif_pos hex]
 have h2 := hex.choose_spec.choose_spec
 have h3 := amG h (n + hex.choose) zc
 have h4 := amG h2 (n + hex.choose) zc
 rw [h3] at h4
 exact h4.symm
theorem amF {ι α : Type} {R : ι → Option (ι ⊕ α)} {a : α} {i : ι} (h : afD R i = some a) : ∃ n, an2 R n i = some a := by
 unfold afD at h
 split at h
 ·rename_i hex; injection h with h; rw [← h]; exact ⟨_, hex.choose_spec.choose_spec⟩
 ·cases h
theorem ajJ {ι α : Type} {R : ι → Option (ι ⊕ α)} {i j : ι} (h : R i = some (.inl j)) : afD R i = afD R j := by
 cases hj : afD R j with
 | some a =>
  obtain ⟨n, hn⟩ := amF hj
  exact auN (n := n + 1) (by simp only [an2, h]; exact hn)
 | none =>
  cases hi : afD R i with
  | none => rfl
  | some a =>
   obtain ⟨n, hn⟩ := amF hi
   cases n with
   | zero => cases hn
   | succ n =>
    simp only [an2, h] at hn
    rw [auN hn] at hj; cases hj
theorem ahA {ι α : Type} {R : ι → Option (ι ⊕ α)} {i : ι} {a : α} (h : R i = some (.inr a)) : afD R i = some a :=
 auN (n := 1) (by simp only [an2, h])
theorem afU {ι α : Type} {R : ι → Option (ι ⊕ α)} (I : ι → Prop) (μ : ι → Nat) (Q : α → Prop)
  (h : ∀ i, I i → (∃ j, R i = some (.inl j) ∧ I j ∧ μ j < μ i) ∨ ∃ a, R i = some (.inr a) ∧ Q a) (i : ι) (hi : I i) : ∃ a, afD R i = some a ∧ Q a := by
 suffices H : ∀ n i, μ i = n → I i → ∃ a, afD R i = some a ∧ Q a from H _ i rfl hi
 intro n
 induction n using Nat.strongRecOn with
 | _ n ih =>
  intro i hn hI
  rcases h i hI with ⟨j, h1, h2, h3⟩ | ⟨a, h1, h2⟩
  ·rw [ajJ h1]; exact ih (μ j) zc j rfl h2
  ·exact ⟨a, ahA h1, h2⟩
theorem acJ {ι α : Type} {R : ι → Option (ι ⊕ α)} (I : ι → Prop) (μ : ι → Nat) (f : ι → α)
  (h : ∀ i, I i → (∃ j, R i = some (.inl j) ∧ I j ∧ μ j < μ i ∧ f j = f i) ∨ R i = some (.inr (f i))) (i : ι) (hi : I i) : afD R i = some (f i) := by
 obtain ⟨a, h1, h2⟩ := afU (fun j => I j ∧ f j = f i) μ (fun a => a = f i) (fun j hj => by
  rcases h j hj.1 with ⟨k, h1, h2, h3, h4⟩ | h1
  ·exact Or.inl ⟨k, h1, ⟨h2, h4.trans hj.2⟩, h3⟩
  ·exact Or.inr ⟨_, h1, hj.2⟩) i ⟨hi, rfl⟩
 rw [h1, h2]
open Classical in
noncomputable def TT.toO : {α : Type} → TT α → Option α
 | _, .ok a => some a
 | _, .ite b x y => match b with | true => x.toO | false => y.toO
 | _, .need p x => if p then x.toO else none
 | _, .triv _ _ x => x.toO
 | _, .call o _ x => match o with | some y => (x y).toO | none => none
 | _, .loop _ H R => match H.toO with | some i => afD (fun i => (R i).toO) i | none => none
 | _, .join _ H R => match H.toO with | some (.inl i) => (R i).toO | some (.inr a) => some a | none => none
 | _, .lt b x => (x b).toO
 | _, .both x y => match x.toO with | some a => if y.toO = some a then some a else none | none => none
 | _, .bad => none
theorem TT.holds_of : ∀ {α : Type} (t : TT α) {K : α → Prop} {a : α}, t.toO = some a → K a → t.holds K := by
 intro α t
 induction t with
 | ok b => intro K a h hk; injection h with h; subst h; exact hk
 | ite b x y hx hy =>
  intro K a h hk
  cases b
  ·exact hy h hk
  ·exact hx h hk
 | need p x hx =>
  intro K a h hk
  simp only [TT.toO] at h
  split at h
  ·rename_i hp; exact ⟨hp, hx h hk⟩
  ·cases h
 | triv p hp x hx => intro K a h hk; exact ⟨hp, hx h hk⟩
 | call o d x hx =>
  intro K a h hk
  cases o with
  | none => cases h
  | some y => exact ⟨rfl, hx y h hk⟩
 | loop t H R hH hR =>
  intro K a h hk
  simp only [TT.toO] at h
  split at h
  ·rename_i i0 hi0
   obtain ⟨n, hn⟩ := amF h
   refine ⟨n, hH hi0 ?_⟩
   clear hi0 h
   induction n generalizing i0 with
   | zero => cases hn
   | succ n ih =>
    simp only [an2] at hn
    simp only [aHa]
    split at hn
    ·rename_i j hj; exact hR i0 hj (ih j hn)
    ·rename_i b hb; injection hn with hn; subst hn; exact hR i0 hb hk
    ·cases hn
  ·cases h
 | join t H R hH hR =>
  intro K a h hk
  simp only [TT.toO] at h
  refine ⟨?_⟩
  split at h
  ·rename_i i hi; exact hH hi (hR i h hk)
  ·rename_i b hb; injection h with h; subst h; exact hH hb hk
  ·cases h
 | lt b x hx => intro K a h hk; exact hx b h hk
 | both x y hx hy =>
  intro K a h hk
  simp only [TT.toO] at h
  split at h
  ·rename_i b hb
   split at h
   ·rename_i hc
    injection h with h
    subst h
    exact ⟨hx hb hk, hy hc hk⟩
   ·cases h
  ·cases h
 | bad => intro K a h; cases h
def aMi (t : Ty) (K : t.T → Prop) (l : List AV) (σ : St) : Prop :=
 match ak6 t (AV.maps (fun _ => false) (aCm σ.H) l) with
 | some z => K z
 | none => False
def aJC (A R : Ty) (F : A.T → Option R.T) : Con := { args := A, res := R, pre := fun x => (F x).isSome = true, fn := fun x => (F x).getD R.dflt, dec := fun _ => inferInstance }
def aI5 (P : Program) (G : World → Prop) (Γ : Cons) (Λ : LTab) (d f : Nat) (fn : Func) (A R : Ty) (x : A.T) (K : R.T → Prop) : Prop :=
 aBo P G Γ (aFC P G Γ Λ d) Λ f (fn.body.getD .skip) { slots := ab7 0 (ai7 A x), H := [], next := 0, n := fn.ntmps } (aLT P fn (aMi R K))
section
variable {P : Program} {G : World → Prop}
theorem aAn (hG : acQ G) (hmix : P.follows .mixedOrders = true) {Γ : Cons} (hΓ : Γ.ok P G) {f : FuncId} {fn : Func} (hf : P.funcs[f]? = some fn) (hb : fn.body.isSome = true) (he : acG P f = true)
  (A R : Ty) (Λ : LTab) (d : Nat) (hn : ∀ x, Nat.ble (ai7 A x).length fn.ntmps = true) (t : A.T → TT R.T) (hex : ∀ (x : A.T) (K : R.T → Prop), aI5 P G Γ Λ d f fn A R x K = (t x).holds K)
  (F : A.T → Option R.T) (hF : ∀ x y, Wf A x → F x = some y → (t x).toO = some y) : (aJC A R F).ok P G f := by
 obtain ⟨code, hc⟩ := yE.1 hb
 refine aqJ hf hc he _ rfl (fun x _ => hn x) (fun x h1 h2 => aqX (Λ := Λ) (f0 := f) hG hmix hΓ (atB hG hmix hΓ Λ d) ?_)
 obtain ⟨y, hy⟩ := yE.1 (show (F x).isSome = true from h2)
 have h := hex x (fun z => z = y)
 have e : (aJC A R F).fn x = y := by show (F x).getD R.dflt = y; rw [hy]; rfl
 have h3 : (t x).holds (fun z => z = y) := TT.holds_of _ (hF x y h1 hy) rfl
 rw [← h] at h3
 unfold aI5 at h3
 rw [hc] at h3
 rw [e]
 exact h3
end
instance (a b : Int) : Decidable (inb a b) := inferInstanceAs (Decidable (0 ≤ a ∧ a < b))
instance (a b : Int) : Decidable (inc a b) := inferInstanceAs (Decidable (0 ≤ a ∧ a ≤ b))
theorem abQ {α : Type} (a : α) : (TT.ok a).toO = some a := rfl
theorem adT {α : Type} (b : Bool) (x y : TT α) : (TT.ite b x y).toO = if b = true then x.toO else y.toO := by cases b <;> rfl
theorem aGb {α : Type} (p : Prop) (x : TT α) (h : p) : (TT.need p x).toO = x.toO := by simp only [TT.toO, if_pos h]
theorem aC8 {α ι : Type} {t : Nat} {H : TT (ι ⊕ α)} {i : ι} (h : H.toO = some (.inl i)) (R : ι → TT α) : (TT.join t H R).toO = (R i).toO := by simp only [TT.toO, h]
theorem aC7 {α ι : Type} {t : Nat} {H : TT (ι ⊕ α)} {a : α} (h : H.toO = some (.inr a)) (R : ι → TT α) : (TT.join t H R).toO = some a := by simp only [TT.toO, h]
theorem aGc {α ι : Type} {H : TT ι} {i : ι} (h : H.toO = some i) (t : Nat) (R : ι → TT (ι ⊕ α)) : (TT.loop t H R).toO = afD (fun i => (R i).toO) i := by simp only [TT.toO, h]
end Go.Vg
