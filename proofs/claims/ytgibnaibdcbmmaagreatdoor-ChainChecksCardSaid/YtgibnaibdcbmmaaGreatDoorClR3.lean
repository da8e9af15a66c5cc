/-
  A runner over the evaluator, and calls that have been run. Own work; no condition.
-/
import Derived.Test.YtgibnaibdcbmmaaGreatDoorClR2
set_option linter.unusedVariables false
set_option linter.unusedSimpArgs false
namespace Go.Vg
open Go Go.RowKit
section
variable {P : Program} {G : World → Prop} {sig : Sig} {pf : abC} {cr : adX}
theorem T.holds_bind' {α β : Type} {x : T α} {f : α → T β} {K : β → Prop} (h : x.holds (fun a => (f a).holds K)) : (x.bind f).holds K := by
 induction x with
 | ok a => exact h
 | ite b x y hx hy =>
  cases b with
  | true => exact hx h
  | false => exact hy h
 | need p x hx => exact ⟨h.1, hx h.2⟩
 | bad => exact h
theorem abR {ops : Array Oper} : ∀ (l : List Oper) (σ σ' : St) (K : Fi → Prop), aAT P sig pf cr ops l σ = some σ' → K (.go σ') → aa8 P (aa0 pf sig) (abF cr) ops l σ K
 | [], σ, σ', K, h, hk => by injection h with h; subst h; exact hk
 | o :: rest, σ, σ', K, h, hk => by
  simp only [aAT] at h
  simp only [aa8]
  split at h
  ·rename_i hg
   simp only [hg]
   split at h
   ·rename_i s hs
    exact aj0 hs (abR rest s σ' K h hk)
   ·cases h
  ·rename_i j want hg
   simp only [hg]
   split at h
   ·rename_i t ht
    simp only [ht]
    split at h
    ·rename_i x hx
     simp only [hx]
     cases x <;> cases want <;> simp only [atV] at h <;> simp only [ao2]
     ·split at h
      ·rename_i hc; cases hc
       split at h
       ·rename_i s hs; exact aj0 hs (abR rest s σ' K h hk)
       ·cases h
      ·rename_i hc; cases hc
     ·split at h
      ·rename_i hc; cases hc
      ·exact abR rest _ σ' K h hk
     ·split at h
      ·rename_i hc; cases hc
      ·exact abR rest _ σ' K h hk
     ·split at h
      ·rename_i hc; cases hc
       split at h
       ·rename_i s hs; exact aj0 hs (abR rest s σ' K h hk)
       ·cases h
      ·rename_i hc; cases hc
    ·rename_i hx
     simp only [hx]
     exact abR rest _ σ' K h hk
    ·cases h
   ·cases h
theorem afR {ops : Array Oper} : ∀ (l : List Oper) (σ σ' : St) (ch : List PanicEntry) (K : Fi → Prop), aIt P sig pf cr ops l σ = some (ch, σ') → K (.pan ch σ') → aa8 P (aa0 pf sig) (abF cr) ops l σ K
 | [], σ, σ', ch, K, h, hk => by cases h
 | o :: rest, σ, σ', ch, K, h, hk => by
  have step : ∀ s0 : St, (match opR P sig pf cr o s0 with
    | some s => aIt P sig pf cr ops rest s
    | none => opP P sig cr o s0) = some (ch, σ') → opS P (aa0 pf sig) (abF cr) o s0 (aLz (fun s => aa8 P (aa0 pf sig) (abF cr) ops rest s K) K) := by
   intro s0 h
   split at h
   ·rename_i s hs
    exact aj0 hs (afR rest s σ' ch K h hk)
   ·exact aF8 h hk
  simp only [aIt] at h
  simp only [aa8]
  split at h
  ·rename_i hg
   simp only [hg]
   exact step _ h
  ·rename_i j want hg
   simp only [hg]
   split at h
   ·rename_i t ht
    simp only [ht]
    split at h
    ·rename_i x hx
     simp only [hx]
     cases x <;> cases want <;> simp only [atV] at h <;> simp only [ao2]
     ·split at h
      ·rename_i hc; cases hc
       exact step _ h
      ·rename_i hc; cases hc
     ·split at h
      ·rename_i hc; cases hc
      ·exact afR rest _ σ' ch K h hk
     ·split at h
      ·rename_i hc; cases hc
      ·exact afR rest _ σ' ch K h hk
     ·split at h
      ·rename_i hc; cases hc
       exact step _ h
      ·rename_i hc; cases hc
    ·rename_i hx
     simp only [hx]
     exact afR rest _ σ' ch K h hk
    ·cases h
   ·cases h
theorem aoL {sk : List (Nat × Nat)} {Hs : Heap} {K : Nat} {H0 : Heap} {arg : Operand → AV} {o : Oper} {u : Out} {Q : Out → Prop} (h : aNK P sig pf sk Hs K H0 arg o = some u) (hq : Q u) : (evS P (aa0 pf sig) sk Hs K H0 arg o).holds Q := by
 unfold aNK at h
 unfold evS
 split at h
 ·rename_i t a x ho
  simp only [ho]
  split at h
  ·rename_i k hk
   simp only [hk]
   split at h
   ·rename_i b hb
    injection h with h
    subst h
    exact T.holds_bind' (T.holds_toO hb hq)
   ·cases h
  ·cases h
 ·rename_i hne
  have key : (match ajF sk K with
    | false => (evM P (aa0 pf sig) K H0 arg o).bind fun x => .ok (.ran x.1 x.2)
    | true => match o.op with
     | .alloc e => match ab3 P e with
      | some _ => .ok (.ran (.ptr K 0) [(K, .any)])
      | none => .bad
     | _ => .bad : T Out).holds Q := by
   split at h
   ·rename_i hs
    simp only [hs]
    split at h
    ·rename_i x hx
     injection h with h
     subst h
     exact T.holds_bind' (asC hx hq)
    ·cases h
   ·rename_i hs
    simp only [hs]
    split at h
    ·rename_i e ho
     simp only [ho]
     split at h
     ·rename_i zs hz
      injection h with h
      subst h
      simp only [hz]
      exact hq
     ·cases h
    ·cases h
  split
  ·rename_i t a x ho; exact absurd ho (hne t a x)
  ·exact key
theorem adM {ops : Array Oper} {sk : List (Nat × Nat)} {Hs : Heap} {H0 : Nat → Heap → Heap} : ∀ (l : List Oper) (K : Nat) (σ : St) (s : List (Nat × Bk)) (y : St × List (Nat × Bk)) (Q : St × List (Nat × Bk) → Prop),
  aKY P sig pf ops sk Hs H0 l K σ s = some y → Q y → (ax5 P (aa0 pf sig) ops sk Hs H0 l K σ s).holds Q
 | [], K, σ, s, y, Q, h, hq => by injection h with h; subst h; exact hq
 | o :: rest, K, σ, s, y, Q, h, hq => by
  simp only [aKY] at h
  simp only [ax5]
  split at h
  ·rename_i hg
   simp only [hg]
   split at h
   ·rename_i u hu
    exact T.holds_bind' (aoL hu (adM rest _ _ _ y Q h hq))
   ·cases h
  ·rename_i j want hg
   simp only [hg]
   split at h
   ·rename_i t ht
    simp only [ht]
    split at h
    ·rename_i x hx
     simp only [hx]
     cases x <;> cases want <;> simp only [atV] at h <;> simp only [T.holds, ao2]
     ·split at h
      ·rename_i hc; cases hc
       split at h
       ·rename_i u hu; exact T.holds_bind' (aoL hu (adM rest _ _ _ y Q h hq))
       ·cases h
      ·rename_i hc; cases hc
     ·split at h
      ·rename_i hc; cases hc
      ·exact adM rest _ _ _ y Q h hq
     ·split at h
      ·rename_i hc; cases hc
      ·exact adM rest _ _ _ y Q h hq
     ·split at h
      ·rename_i hc; cases hc
       split at h
       ·rename_i u hu; exact T.holds_bind' (aoL hu (adM rest _ _ _ y Q h hq))
       ·cases h
      ·rename_i hc; cases hc
    ·rename_i hx
     simp only [hx]
     exact adM rest _ _ _ y Q h hq
    ·cases h
   ·cases h
theorem asN {ops : Array Oper} {σ σ' : St} {K : Fi → Prop} (h : aJX P sig pf cr ops σ = some σ') (hk : K (.go σ')) : ag4 P (aa0 pf sig) (abF cr) ops σ K := by
 unfold aJX aCW at h
 simp only at h
 unfold ag4
 simp only
 split at h
 ·rename_i hok
  split at h
  ·rename_i sk hsk
   simp only [hsk]
   split at h
   ·rename_i hc
    split at h
    ·rename_i x hx
     rw [zn] at hc
     simp only [hok, hc.1, hc.2, Bool.and_self]
     exact adM _ _ _ _ x _ hx (abR _ _ σ' K h hk)
    ·cases h
   ·cases h
  ·cases h
 ·cases h
theorem aCd {ops : Array Oper} {σ σ' : St} {ch : List PanicEntry} {K : Fi → Prop} (h : aJY P sig pf cr ops σ = some (ch, σ')) (hk : K (.pan ch σ')) : ag4 P (aa0 pf sig) (abF cr) ops σ K := by
 unfold aJY aCW at h
 simp only at h
 unfold ag4
 simp only
 split at h
 ·rename_i hok
  split at h
  ·rename_i sk hsk
   simp only [hsk]
   split at h
   ·rename_i hc
    split at h
    ·rename_i x hx
     rw [zn] at hc
     simp only [hok, hc.1, hc.2, Bool.and_self]
     exact adM _ _ _ _ x _ hx (afR _ _ σ' ch K h hk)
    ·cases h
   ·cases h
  ·cases h
 ·cases h
def Sub (l l' : List (Nat × St)) : Prop := ∀ m s, aJM l m = some s → aJM l' m = some s
theorem aAN {acc acc' : List (Nat × St)} {m : Nat} {σ : St} (h : aNP acc m σ = some acc') : Sub acc acc' ∧ aJM acc' m = some σ := by
 unfold aNP at h
 split at h
 ·rename_i s hs
  split at h
  ·rename_i hb
   injection h with h
   subst h
   rw [aMw hb]
   exact ⟨fun _ _ h => h, hs⟩
  ·cases h
 ·rename_i hn
  injection h with h
  subst h
  refine ⟨fun k s hk => ?_, by simp [aJM]⟩
  simp only [aJM]
  cases hb : Nat.beq m k with
  | true => rw [Nat.eq_of_beq_eq_true hb] at hn; rw [hn] at hk; cases hk
  | false => exact hk
theorem aI9 {ops : Array Oper} {b size k m : Nat} {σ : St} {i : Nat} {o : Oper} {acc acc' : List (Nat × St)} (h : aMX P sig pf cr ops b size k m σ i o acc = some acc') : Sub acc acc' := by
 unfold aMX at h
 split at h
 ·injection h with h; subst h; exact fun _ _ h => h
 ·split at h
  ·split at h
   ·split at h
    ·exact (aAN h).1
    ·cases h
   ·cases h
  ·injection h with h; subst h; exact fun _ _ h => h
theorem auN {f : Nat → Oper → List (Nat × St) → Option (List (Nat × St))} (hf : ∀ i o acc acc', f i o acc = some acc' → Sub acc acc') : ∀ {l : List Oper} {k : Nat} {acc acc' : List (Nat × St)}, aCG f l k acc = some acc' →
  Sub acc acc' ∧ ∀ j o, l[j]? = some o → ∃ a1 a2, f (k + j) o a1 = some a2 ∧ Sub a2 acc'
 | [], k, acc, acc', h => by injection h with h; subst h; exact ⟨fun _ _ h => h, fun j o hj => by simp at hj⟩
 | x :: r, k, acc, acc', h => by
  simp only [aCG] at h
  split at h
  ·rename_i a2 ha
   obtain ⟨h1, h2⟩ := auN hf h
   have h0 := hf _ _ _ _ ha
   refine ⟨fun m s hm => h1 m s (h0 m s hm), fun j o hj => ?_⟩
   cases j with
   | zero => simp only [List.getElem?_cons_zero, Option.some.injEq] at hj; subst hj; exact ⟨_, _, ha, h1⟩
   | succ j =>
    simp only [List.getElem?_cons_succ] at hj
    obtain ⟨a3, a4, g1, g2⟩ := h2 j o hj
    exact ⟨a3, a4, by rwa [show k + 1 + j = k + (j + 1) by omega] at g1, g2⟩
  ·cases h
theorem arY {ops : Array Oper} {b size k : Nat} : ∀ {l acc acc' : List (Nat × St)}, aC9 P sig pf cr ops b size k l acc = some acc' →
  Sub acc acc' ∧ ∀ x ∈ l, ∀ i o, ops[i]? = some o → ∃ a1 a2, aMX P sig pf cr ops b size k x.1 x.2 i o a1 = some a2 ∧ Sub a2 acc'
 | [], acc, acc', h => by injection h with h; subst h; exact ⟨fun _ _ h => h, fun x hx => by cases hx⟩
 | y :: r, acc, acc', h => by
  simp only [aC9] at h
  split at h
  ·rename_i a2 ha
   obtain ⟨h1, h2⟩ := arY h
   obtain ⟨g1, g2⟩ := auN (fun i o a a' h => aI9 h) ha
   refine ⟨fun m s hm => h1 m s (g1 m s hm), fun x hx i o ho => ?_⟩
   rcases zp.1 hx with rfl | hx
   ·obtain ⟨a3, a4, q1, q2⟩ := g2 i o (by rw [zK]; exact ho)
    rw [zw] at q1
    exact ⟨a3, a4, q1, fun m s hm => h1 m s (q2 m s hm)⟩
   ·exact h2 x hx i o ho
  ·cases h
theorem aDh : ∀ {l : List (Nat × St)} {m : Nat} {s : St}, aJM l m = some s → (m, s) ∈ l
 | [], _, _, h => by cases h
 | (k, t) :: r, m, s, h => by
  simp only [aJM] at h
  cases hb : Nat.beq k m with
  | true =>
   rw [hb] at h
   injection h with h
   rw [← h, ← Nat.eq_of_beq_eq_true hb]
   exact zy ..
  | false => rw [hb] at h; exact zt _ (aDh h)
theorem avY {ops : Array Oper} {b size : Nat} {σf : St} {K : Fi → Prop} (hk : K (.go σf)) : ∀ (n : Nat) (l : List (Nat × St)), aNt P sig pf cr ops b size n l = some σf → ∀ x ∈ l, aoI P (aa0 pf sig) (abF cr) ops b n x.1 x.2 K
 | 0, l, h, x, hx => by
  simp only [aNt] at h
  split at h
  ·injection h with h
   subst h
   simp only [zG] at hx
   subst hx
   exact hk
  ·cases h
 | n + 1, l, h, x, hx => by
  simp only [aNt] at h
  split at h
  ·rename_i l' hl
   obtain ⟨-, h2⟩ := arY hl
   have ih := avY hk n l' h
   intro i o ho hm he
   obtain ⟨a1, a2, g1, g2⟩ := h2 x hx i o ho
   unfold aMX at g1
   simp only [hm, he] at g1
   split at g1
   ·rename_i σ' hs
    split at g1
    ·rename_i hn
     obtain ⟨-, q1⟩ := aAN g1
     refine abR _ _ _ _ hs ?_
     show ∃ s, aFc b σ' s ∧ aoI P (aa0 pf sig) (abF cr) ops b n (x.1 ||| 2 ^ i) s K
     exact ⟨_, aBT b _ _ _ σ' _ (Nat.le_of_ble_eq_true hn), ih _ (aDh (g2 _ _ q1))⟩
    ·cases g1
   ·cases g1
  ·cases h
theorem aFa {ops : Array Oper} {σ σ' : St} {Q : Exit → St → Prop} (h : aOx P sig pf cr ops σ = some σ') (hq : Q .normal σ') :
  acP ops.toList 0 = true ∧ aoI P (aa0 pf sig) (abF cr) ops σ.next ops.size 0 σ (ayK Q) := by
 unfold aOx at h
 split at h
 ·rename_i hed
  exact ⟨hed, avY (K := ayK Q) hq _ _ h (0, σ) (zy ..)⟩
 ·cases h
theorem aIV {r y : AV} {K : Prop} (h : avE r y = true) (hk : K) : aFH r y K := by
 unfold aFH
 split
 ·rw [h]; exact hk
 ·rw [h]; exact hk
 ·rw [h]; exact hk
 ·exact ⟨as9 _ _ h, hk⟩
theorem aGP {σ : St} {o : Oper} {K : Prop} (h : obR P σ o = true) (hk : K) : obU P σ o K := by
 unfold obR at h
 unfold obU
 split at h
 ·cases h
 ·rename_i d hd
  simp only [hd]
  split at h
  ·rename_i r hr
   refine T.holds_toO hr ?_
   split at h
   ·rename_i hl; simp only [hl]; exact hk
   ·split
    ·exact hk
    ·exact aIV h hk
  ·cases h
theorem aiO {ms : List Nat} {u m : Nat} {σ : St} {K : Prop} (hk : K) : ∀ {l : List Oper} {i : Nat}, aEB P ms u m σ l i = true → aeK P ms u m σ K l i
 | [], _, _ => hk
 | o :: r, i, h => by
  simp only [aEB] at h
  simp only [aeK]
  split at h
  ·rename_i hc
   simp only [hc]
   split at h
   ·rename_i ho; exact aGP ho (aiO hk h)
   ·cases h
  ·rename_i hc
   simp only [hc]
   exact aiO hk h
theorem aiB {u : Nat} {K : St → Prop} {σf : St} (hk : K σf) : ∀ (l : List Oper) (i : Nat) (σ : St), aDL P u l i σ = some σf → aIX P u K l i σ
 | [], _, σ, h => by injection h with h; subst h; exact hk
 | o :: r, i, σ, h => by
  simp only [aDL] at h
  simp only [aIX]
  split at h
  ·rename_i hc
   simp only [hc]
   split at h
   ·rename_i x hx; exact T.holds_toO hx (aiB hk r _ _ h)
   ·cases h
  ·rename_i hc
   simp only [hc]
   exact aiB hk r _ _ h
theorem avD {b : Nat} {pre : List Oper} {ms : List Nat} {tl : St → Prop} {σf : St} (hk : tl σf) : ∀ (k u m : Nat) (σ : St), aM0 P sig pf cr b pre ms k u m σ = some σf → aAe P (aa0 pf sig) (abF cr) b pre ms tl k false u m σ
 | 0, u, m, σ, h => by
  simp only [aM0] at h
  simp only [aAe]
  split at h
  ·rename_i h1 h2
   injection h with h; subst h
   refine aiO ?_ h1
   rw [h2]
   exact hk
  ·cases h
 | k + 1, u, m, σ, h => by
  simp only [aM0] at h
  simp only [aAe, ahW]
  split at h
  ·rename_i h1
   refine aiO ?_ h1
   split at h
   ·rename_i h2
    injection h with h; subst h
    rw [h2]
    exact hk
   ·rename_i c h2
    rw [h2]
    show aNu _ _
    split at h
    ·rename_i x hx
     rw [hx]
     show opS P _ _ x.2 σ _
     split at h
     ·rename_i σ' ho
      refine aj0 ho ?_
      split at h
      ·rename_i σ1 hr
       exact aiB (avD hk k _ _ σ1 h) _ _ _ hr
      ·cases h
     ·cases h
    ·cases h
  ·cases h
theorem az2 {ops : Array Oper} {σ σ' : St} {Q : Exit → St → Prop} (h : aHm P sig pf cr ops σ = some σ') (hq : Q .normal σ') : aEK P (aa0 pf sig) (abF cr) ops σ (ayK Q) := by
 unfold aHm aK3 at h
 unfold aEK
 simp only [ahW]
 split at h
 ·rename_i hc
  simp only [hc]
  split at h
  ·rename_i σ1 h1
   refine aiB ?_ _ _ _ h1
   split at h
   ·rename_i σ2 h2
    exact avD (abR _ _ _ (ayK Q) h hq) _ _ _ _ h2
   ·cases h
  ·cases h
 ·cases h
theorem awD : aDF sig = aDM (aa0 pf sig) := by
 funext g
 unfold aDF aDM
 rw [aeO]
 cases sig.find g <;> rfl
theorem aJ2 {sig : Sig} (h : (aa0 pf sig).ok P G) : (aa0 pf (aHK sig)).ok P G := by
 cases sig with
 | nil => exact h
 | cons x r => exact ⟨h.1, h⟩
theorem aHq {C : Ctx} {ρ : Nat → Nat} {σ : St} {a : Act} {w : World} (n1 : Nat) (hs : SRel C ρ σ a w) : SRel C ρ (gcR n1 σ) a w ∧ (∀ n, Fr C n ρ σ.H w ρ (gcR n1 σ).H w) ∧ (gcR n1 σ).next = σ.next := by
 unfold gcR
 split
 ·obtain ⟨h1, h2, h3⟩ := hs.m.keepP (keepP n1 (aG5 σ.H n1 100000 (aCR n1 σ.H (adP 10000 (σ.slots.map (·.2)) [])) []))
  exact ⟨hs.keepTo h1 h2 (h3 0).data (zm _), h3, rfl⟩
 ·exact ⟨hs, fun _ => Fr.refl _ _ _ _ _, rfl⟩
theorem abU (hG : acS G) (hmix : P.follows .mixedOrders = true) (hΓ : (aa0 pf sig).ok P G) (hcall : CallSat P G (abF cr)) {fuel : Nat} {rd : Option Nat} : ∀ (c : Code) (σ : St) (e : Exit) (σ' : St) (Q : Exit → St → Prop),
  abV P sig fuel pf cr rd c σ = some (e, σ') → Q e σ' → exec P G (aa0 pf sig) (abF cr) rd c σ Q
 | .skip, σ, e, σ', Q, h, hq => by simp only [abV] at h; injection h with h; injection h with h1 h2; subst h1; subst h2; exact hq
 | .region id ops draw, σ, e, σ', Q, h, hq => by
  simp only [abV] at h
  cases draw with
  | false =>
   simp only at h
   unfold aEv at h
   split at h
   ·rename_i s hx
    injection h with h; injection h with h1 h2; subst h1; subst h2
    exact abR _ _ _ (ayK Q) hx hq
   ·split at h
    ·rename_i x hx
     obtain ⟨ch, s⟩ := x
     injection h with h; injection h with h1 h2; subst h1; subst h2
     exact afR _ _ _ _ (ayK Q) hx hq
    ·cases h
  | true =>
   simp only at h
   unfold aEv at h
   split at h
   ·rename_i s hx
    injection h with h; injection h with h1 h2; subst h1; subst h2
    unfold aL2 at hx
    split at hx
    ·rename_i s' hy
     injection hx with hx
     subst hx
     rw [awD (pf := pf)] at hy
     exact Or.inl (asN (K := ayK Q) hy hq)
    ·split at hx
     ·rename_i s' hy
      injection hx with hx
      subst hx
      rw [awD (pf := pf)] at hy
      exact Or.inr (ab4 hG hmix (aJ2 hΓ) hcall (.region id ops true) σ Q (Or.inl (asN (K := ayK Q) hy hq)))
     ·split at hx
      ·rename_i s' hy
       injection hx with hx
       subst hx
       exact Or.inr (aFF hG hmix hΓ hcall (az2 (Q := Q) hy hq))
      ·obtain ⟨g1, g2⟩ := aFa (Q := Q) hx hq
       exact Or.inr (aLA hG hmix hΓ hcall g1 g2)
   ·split at h
    ·rename_i x hx
     obtain ⟨ch, s⟩ := x
     injection h with h; injection h with h1 h2; subst h1; subst h2
     rw [awD (pf := pf)] at hx
     exact Or.inl (aCd (K := ayK Q) hx hq)
    ·cases h
 | .seq x y, σ, e, σ', Q, h, hq => by
  simp only [abV] at h
  simp only [exec]
  cases hx : abV P sig fuel pf cr rd x σ with
  | none => rw [hx] at h; cases h
  | some p =>
   obtain ⟨e1, σ1⟩ := p
   rw [hx] at h
   refine abU hG hmix hΓ hcall x σ e1 σ1 _ hx ?_
   cases e1 with
   | normal => exact abU hG hmix hΓ hcall y σ1 e σ' Q h hq
   | _ => injection h with h; injection h with h1 h2; subst h1; subst h2; exact hq
 | .cond c x y, σ, e, σ', Q, h, hq => by
  simp only [abV] at h
  simp only [exec]
  split at h
  ·rename_i b hb
   simp only [hb]
   cases b with
   | true => exact abU hG hmix hΓ hcall x σ e σ' Q h hq
   | false => exact abU hG hmix hΓ hcall y σ e σ' Q h hq
  ·cases h
 | .block id c, σ, e, σ', Q, h, hq => by
  simp only [abV] at h
  simp only [exec]
  cases hx : abV P sig fuel pf cr rd c σ with
  | none => rw [hx] at h; cases h
  | some p =>
   obtain ⟨e1, σ1⟩ := p
   rw [hx] at h
   refine abU hG hmix hΓ hcall c σ e1 σ1 _ hx ?_
   cases e1 with
   | exit j =>
    simp only [aIb] at h
    simp only [as8]
    split at h
    ·rename_i hb
     injection h with h; injection h with h1 h2; subst h1; subst h2
     simp only [hb]; exact hq
    ·rename_i hb
     injection h with h; injection h with h1 h2; subst h1; subst h2
     simp only [hb]; exact hq
   | _ => injection h with h; injection h with h1 h2; subst h1; subst h2; exact hq
 | .loop c, σ, e, σ', Q, h, hq => by
  simp only [abV] at h
  simp only [exec]
  refine ⟨fun C hC ρ a w hs rnd hrd => ?_⟩
  refine anL (ι := Nat × St) (fun i a' w' => ∃ ρ', aJz σ.next (abV P sig fuel pf cr rd c) i.1 i.2 = some (e, σ') ∧ SRel C ρ' i.2 a' w' ∧ Fr C σ.next ρ σ.H w ρ' i.2.H w' ∧ σ.next ≤ i.2.next) (fun i => i.1) ?_ (fuel, σ) a w ⟨ρ, h, hs, Fr.refl _ _ _ _ _, zm _⟩
  rintro ⟨n, s⟩ a' w' ⟨ρ', h1, h2, h3, h4⟩
  cases n with
  | zero => cases h1
  | succ n =>
   simp only [aJz] at h1
   cases hx : abV P sig fuel pf cr rd c s with
   | none => rw [hx] at h1; cases h1
   | some p =>
    obtain ⟨e1, s1⟩ := p
    rw [hx] at h1
    have hex := abU hG hmix hΓ hcall c s e1 s1 (fun e2 s2 => e2 = e1 ∧ s2 = s1) hx ⟨rfl, rfl⟩
    refine wpIn_mono (ab4 hG hmix hΓ hcall c s _ hex C hC ρ' a' w' h2 rnd (hrd.fr h3 h4)) ?_
    rintro e2 a2 w2 ⟨ρ2, σ2, ⟨k1, k2⟩, k3, k4, k5⟩
    subst k1; subst k2
    have k4' : Fr C s.next ρ' s.H w' ρ2 σ2.H w2 := k4
    have k5' : s.next ≤ σ2.next := k5
    have hfr := h3.trans h4 k4'
    have hle : σ.next ≤ σ2.next := zF h4 k5'
    cases e2 with
    | normal =>
     obtain ⟨m1, m2, m3⟩ := aHq σ.next k3
     exact ⟨(n, gcR σ.next σ2), ⟨ρ2, h1, m1, hfr.trans (zm _) (m2 _), by rw [m3]; exact hle⟩, yd _⟩
    | _ => injection h1 with h1; injection h1 with g1 g2; subst g1; subst g2; exact ⟨ρ2, _, hq, k3, hfr, hle⟩
 | .exit id, σ, e, σ', Q, h, hq => by simp only [abV] at h; injection h with h; injection h with h1 h2; subst h1; subst h2; exact hq
 | .ret, σ, e, σ', Q, h, hq => by simp only [abV] at h; injection h with h; injection h with h1 h2; subst h1; subst h2; exact hq
 | .label l, σ, e, σ', Q, h, hq => by simp only [abV] at h; injection h with h; injection h with h1 h2; subst h1; subst h2; exact hq
 | .scope c, σ, e, σ', Q, h, hq => by
  simp only [abV] at h
  simp only [exec]
  cases hx : abV P sig fuel pf cr rd c σ with
  | none => rw [hx] at h; cases h
  | some p =>
   obtain ⟨e1, σ1⟩ := p
   rw [hx] at h
   refine abU hG hmix hΓ hcall c σ e1 σ1 _ hx ?_
   cases e1 with
   | goto l => cases h
   | _ => injection h with h; injection h with h1 h2; subst h1; subst h2; exact hq
 | .rangeFunc g ps assign body, σ, e, σ', Q, h, hq => by
  simp only [abV] at h
  simp only [exec]
  have key : ∀ f first caps, aCT σ σ.next (cr (.fn f) (first ++ .yld σ.next :: caps) (σ.lay σ.next ps assign body) (σ.next + 1)) = some (e, σ') → abF cr (.fn f) (first ++ .yld σ.next :: caps) (σ.lay σ.next ps assign body) (σ.next + 1) (ak9 σ σ.next Q) := by
   intro f first caps h
   cases hx : cr (.fn f) (first ++ .yld σ.next :: caps) (σ.lay σ.next ps assign body) (σ.next + 1) with
   | none => rw [hx] at h; cases h
   | some x =>
    rw [hx] at h
    refine ⟨x, hx, ?_⟩
    simp only [aCT] at h
    unfold ak9
    split at h
    ·cases h
    rename_i hpn
    simp only [hpn]
    split at h
    ·rename_i r hr
     simp only [hr]
     split at h
     ·cases h
     ·rename_i ex h1 h2
      injection h with h; injection h with g1 g2; subst g1; subst g2
      split
      ·rename_i hst; exact (h2 hst).elim
      ·rename_i ex' h4 h3
       rw [h1] at h4
       injection h4 with h4
       subst h4
       exact hq
      ·rename_i h4 h3; rw [h1] at h4; cases h4
     ·cases h
    ·cases h
  split at h
  ·rename_i f first caps hf
   simp only [hf]
   split at h
   ·exact key f first caps h
   ·rename_i l0
    split at h
    ·rename_i r hr
     simp only [hr]
     exact key f first caps h
    ·cases h
  ·cases h
 | .goto _, _, _, _, _, h, _ => by cases h
 | .refuse _, _, _, _, _, h, _ => by cases h
theorem amM (hG : acS G) (hmix : P.follows .mixedOrders = true) (hΓ : (aa0 pf sig).ok P G) (hcall : CallSat P G (abF cr)) {fuel : Nat} {g : FuncId} {caps : List AV} {x : AV} {σ σ' : St} {e : Exit} {Q : Exit → St → Prop}
  (h : aH1 P (aAT P sig pf cr) (abV P sig fuel pf cr) g caps x σ = some (e, σ')) (hq : Q e σ') : apM (fun l => exec P G (aa0 pf sig) (abF cr) (some l)) P (aa0 pf sig) (abF cr) g caps Q x σ := by
 unfold aH1 at h
 unfold apM
 split at h
 case h_2 => cases h
 rename_i c hc
 simp only [hc]
 split at h
 case h_2 => cases h
 rename_i hb
 split at h
 case h_2 => cases h
 rename_i s hs
 refine ⟨hb, abR _ _ _ _ hs ?_⟩
 show exec P G (aa0 pf sig) (abF cr) (some σ.next) c.B s _
 unfold aNs at h
 split at h
 case h_3 => cases h
 ·rename_i s2 hcd
  injection h with h; injection h with h1 h2; subst h1; subst h2
  exact abU hG hmix hΓ hcall c.B s _ _ _ hcd ⟨Or.inl rfl, hq⟩
 ·rename_i s2 hcd
  injection h with h; injection h with h1 h2; subst h1; subst h2
  exact abU hG hmix hΓ hcall c.B s _ _ _ hcd ⟨Or.inr rfl, hq⟩
theorem aDz (hG : acS G) (hmix : P.follows .mixedOrders = true) (hΓ : (aa0 pf sig).ok P G) (hcall : CallSat P G (abF cr)) {fuel : Nat} {g : FuncId} {caps : List AV} {y : Option (Exit × St)} {σ' : St} {e : Exit} {Q : Exit → St → Prop}
  (h : aNU P (aAT P sig pf cr) (abV P sig fuel pf cr) g caps y = some (e, σ')) (hq : Q e σ') : ∃ e1 s, y = some (e1, s) ∧ aHe (fun l => exec P G (aa0 pf sig) (abF cr) (some l)) P (aa0 pf sig) (abF cr) g caps Q e1 s := by
 unfold aNU at h
 split at h
 ·exact ⟨_, _, rfl, amM hG hmix hΓ hcall h hq⟩
 ·exact ⟨_, _, rfl, amM hG hmix hΓ hcall h hq⟩
 ·split at h
  ·rename_i x hx
   refine ⟨_, _, rfl, ?_⟩
   exact arM (K := fun x => apM (fun l => exec P G (aa0 pf sig) (abF cr) (some l)) P (aa0 pf sig) (abF cr) g caps Q x _) hx (amM hG hmix hΓ hcall h hq)
  ·cases h
 ·cases h
theorem ao0 (hG : acS G) (hmix : P.follows .mixedOrders = true) (hΓ : (aa0 pf sig).ok P G) (hcall : CallSat P G (abF cr)) {fuel : Nat} (c : Code) (σ : St) (e : Exit) (σ' : St) (Q : Exit → St → Prop)
  (h : aE4 P sig fuel pf cr c σ = some (e, σ')) (hq : Q e σ') : aL0 P G (aa0 pf sig) (abF cr) c σ Q := by
 unfold aE4 aMa at h
 split at h
 ·rename_i d hd
  refine Or.inr ⟨d, hd, ?_⟩
  unfold aON at h
  split at h
  case h_2 => cases h
  rename_i s1 h1
  split at h
  case h_2 => cases h
  rename_i s2 h2
  refine abR _ _ _ _ h1 (abR _ _ _ _ h2 ?_)
  show aDN (fun _ => exec P G (aa0 pf sig) (abF cr) none) (fun l => exec P G (aa0 pf sig) (abF cr) (some l)) P (aa0 pf sig) (abF cr) d Q s2
  unfold aMH at h
  unfold aDN
  split at h
  case h_2 => cases h
  rename_i g first caps hf
  split at h
  case h_2 => cases h
  simp only [hf]
  obtain ⟨e1, s3, h3, h4⟩ := aDz hG hmix hΓ hcall h hq
  exact abU hG hmix hΓ hcall d.rest _ e1 s3 _ h3 h4
 ·exact Or.inl (abU hG hmix hΓ hcall c σ e σ' Q h hq)
theorem auR {fn : Func} {x : Option (Exit × St)} {l : List AV} {σ : St} {K : List AV → St → Prop} (h : aMG P fn x = some (l, σ)) (hk : K l σ) : ∃ e, x = some (e, σ) ∧ aOF P fn K e σ := by
 unfold aMG at h
 split at h
 ·rename_i s
  split at h
  ·rename_i l' hl
   injection h with h; injection h with h1 h2; subst h1; subst h2
   exact ⟨_, rfl, T.holds_toO hl hk⟩
  ·cases h
 ·rename_i s
  split at h
  ·rename_i l' hl
   injection h with h; injection h with h1 h2; subst h1; subst h2
   exact ⟨_, rfl, T.holds_toO hl hk⟩
  ·cases h
 ·cases h
theorem aI1 (hG : acS G) (hmix : P.follows .mixedOrders = true) (hΓ : (aa0 pf sig).ok P G) (hcall : CallSat P G (abF cr)) {fuel : Nat} : aeD P G (aFX P sig fuel pf cr) := by
 intro f A R x y h
 unfold aFX at h
 split at h
 ·rename_i fn hf
  split at h
  ·rename_i code hb
   split at h
   ·rename_i hc
    rw [zn] at hc
    split at h
    ·rename_i l σ hr
     refine asR hf hb hc.1 _ rfl ?_ ?_
     ·intro z hz
      have hz' : z = x := hz
      rw [hz']; exact hc.2
     ·intro z _ hz
      have hz' : z = x := hz
      rw [hz']
      have hfin : aM7 R y l σ := by
       unfold aM7
       rw [h]
      obtain ⟨e, h1, h2⟩ := auR (K := aM7 R y) hr hfin
      exact avV hG hmix hΓ hcall (ao0 hG hmix hΓ hcall code _ e σ _ h1 h2)
    ·cases h
   ·cases h
  ·cases h
 ·cases h
theorem MRel.leave {C : Ctx} {ρ : Nat → Nat} {H : Heap} {next : Nat} {w : World} (hm : MRel C ρ H next w) (n : Nat) :
  MRel C ρ (H.keep (fun k => Nat.blt k n) aeM) n w ∧ ∀ x v, VR C ρ H w x v → VR C ρ (H.keep (fun k => Nat.blt k n) aeM) w (x.map (fun k => Nat.blt k n) aeM) v := by
 have hv : ∀ x v, VR C ρ H w x v → VR C ρ (H.keep (fun k => Nat.blt k n) aeM) w (x.map (fun k => Nat.blt k n) aeM) v := fun x v h =>
  VR.map (fun b hb => ⟨hb.keep, rfl⟩) (fun k hk hp => ⟨Heap.keys_keep.2 ⟨hp, hk⟩, rfl⟩) (fun k e t l hk hp => ⟨l, Heap.mem_keep.2 ⟨hp, _, hk, rfl⟩, zm _, fun c fr hc => ⟨c, fr, hc, rfl⟩⟩) (fun _ _ _ _ _ _ => .no) h
 have hd : ∀ b, Ok C ρ H w b → Ok C ρ (H.keep (fun k => Nat.blt k n) aeM) w b ∧ w.heap[b]? = w.heap[b]? := fun b hb => ⟨hb.keep, rfl⟩
 refine ⟨⟨hm.below, Heap.nodup_keep hm.nodup, fun k hk => Nat.le_of_ble_eq_true (Heap.keys_keep.1 hk).1, fun k hk k' hk' => hm.inj k (Heap.keys_keep.1 hk).2 k' (Heap.keys_keep.1 hk').2, fun k hk => hm.low k (Heap.keys_keep.1 hk).2, fun k b hb => ?_⟩, hv⟩
 obtain ⟨_, b', hb', rfl⟩ := Heap.mem_keep.1 hb
 have hbr := hm.mem k b' hb'
 cases b' with
 | vars e cells =>
  obtain ⟨c, g1, g2, g3⟩ := hbr
  exact ⟨c, g1, VRs.map hv g2, g3⟩
 | row e t l =>
  obtain ⟨c, g1, g2, g3, g4, g5⟩ := hbr
  exact ⟨c, g1, g2, g3, RdL.mono (fun x cs => Rd.mono hd t x cs) _ _ g4, g5⟩
 | loop r =>
  obtain ⟨fn, tmps, d, g1, g2, g3⟩ := hbr
  exact ⟨fn, tmps, d, g1, g2, fun t => by show VR C ρ _ w (acT (aa7 _ _ r.slots) t) _; rw [am5]; exact hv _ _ (g3 t)⟩
 | dic k l => obtain ⟨es, n, g1, g2⟩ := hbr; exact ⟨es, n, g1, g2.map hv⟩
 | any => exact hbr
theorem CallEnd.leave {C : Ctx} {ρ : Nat → Nat} {H : Heap} {next : Nat} {w : World} {r0 : AV} {H0 : Heap} {n0 : Nat} {K : AV → Heap → Nat → Prop} {e : Ending} {w' : World}
  (hk : K (arZ next r0 H0 n0).1 (arZ next r0 H0 n0).2.1 (arZ next r0 H0 n0).2.2) (hp : amH r0 = none) (hp2 : amH (arZ next r0 H0 n0).1 = none) (h : CallEnd C ρ H next w (fun r H' n' => r = r0 ∧ H' = H0 ∧ n' = n0) e w') : CallEnd C ρ H next w K e w' := by
 obtain ⟨ρ', r, H', n', ⟨rfl, rfl, rfl⟩, h3, h5, h6, hend⟩ := h
 rcases hend with ⟨v, h1, _, h4⟩ | ⟨x, ch, rfl, _, _⟩
 case inr => cases hp
 unfold arZ at hk hp2
 split at hk
 ·exact ⟨ρ', _, _, _, hk, h3, h5, h6, Or.inl ⟨v, h1, hp, h4⟩⟩
 ·rename_i hb
  simp only [hb] at hp2
  obtain ⟨g1, g2⟩ := h3.leave next
  refine ⟨ρ', _, _, _, hk, g1, ?_, zm _, Or.inl ⟨v, h1, hp2, g2 _ _ h4⟩⟩
  refine ⟨fun b hb => ?_, fun k hk hkm => h5.keys k hk (Heap.keys_keep.1 hkm).2, fun k e t l hk hkm hkn => ?_, h5.size⟩
  ·obtain ⟨c1, c2⟩ := h5.data b hb
   exact ⟨c1.keep, c2⟩
  ·obtain ⟨c1, c2⟩ := Heap.keys_keep.1 hkn
   obtain ⟨l', d1, d2, d3⟩ := h5.rows k e t l hk hkm c2
   exact ⟨l', Heap.mem_keep.2 ⟨c1, _, d1, rfl⟩, d2, d3⟩
theorem aEN (hG : acS G) (hmix : P.follows .mixedOrders = true) (hΓ : (aa0 pf sig).ok P G) (hcall : CallSat P G (abF cr)) {fuel : Nat} : CallSat P G (abF (asG P sig fuel pf cr)) := by
 have hS := aH6 hG hmix hΓ hcall
 refine ⟨fun f args H next K h C ρ w vs hC hm hv => ?_, fun l args H next K h C ρ w vs hC hm hv => ?_⟩
 ·obtain ⟨x, hx, hk⟩ := h
  simp only [asG] at hx
  split at hx
  ·rename_i fn hf
   split at hx
   ·rename_i code hb
    split at hx
    ·rename_i hc
     rw [zn] at hc
     unfold aOp at hx
     split at hx
     ·rename_i ch σ hcode
      split at hx
      ·rename_i y hy
       injection hx with hx
       subst hx
       have hcs : aCp P G (aa0 pf sig) (abF cr) (.fn f) args H next K := by
        simp only [aCp, aAF, hf, hb]
        refine ⟨hc.1, hc.2, ao0 hG hmix hΓ hcall code _ _ σ _ hcode ?_⟩
        exact arM (K := fun x => K (aMl x) σ.H σ.next) hy hk
       exact hS.fn f args H next _ hcs C ρ w vs hC hm hv
      ·cases hx
     ·split at hx
      ·rename_i l σ hr
       split at hx
       ·rename_i hp1 hp2
        injection hx with hx
        subst hx
        obtain ⟨e, h1, h2⟩ := auR (K := aJ4 fun r H' n' => r = atW l ∧ H' = σ.H ∧ n' = σ.next) hr (by unfold aJ4; simp [hp1])
        have hcs : aCp P G (aa0 pf sig) (abF cr) (.fn f) args H next fun r H' n' => r = atW l ∧ H' = σ.H ∧ n' = σ.next := by
         simp only [aCp, aAF, hf, hb]
         refine ⟨hc.1, hc.2, ao0 hG hmix hΓ hcall code _ e σ _ h1 ?_⟩
         cases e <;> first | exact h2 | exact h2.elim
        obtain ⟨g1, g2⟩ := hS.fn f args H next _ hcs C ρ w vs hC hm hv
        exact ⟨g1, g2.mono fun e w' hce => hce.leave hk hp1 hp2⟩
       ·cases hx
      ·cases hx
    ·cases hx
   ·cases hx
  ·cases hx
 ·obtain ⟨x, hx, hk⟩ := h
  simp only [asG] at hx
  split at hx
  ·rename_i r hfind
   split at hx
   ·rename_i hlen
    have hcs : aCp P G (aa0 pf sig) (abF cr) (.yld l) args H next K := by
     simp only [aCp, aAF, hfind, hlen]
     generalize hy : abV P sig fuel pf cr (some l) r.assign (ao1 { slots := r.slots, H := H, next := next, n := r.n } r.ps.toList args) = y at hx
     unfold aFJ at hx
     split at hx
     ·rename_i e σ he
      unfold aId at he
      split at he
      ·rename_i σ1
       refine abU hG hmix hΓ hcall r.assign _ .normal σ1 _ hy ?_
       simp only [aMb]
       split at he
       ·rename_i r1 hr1
        simp only [hr1]
        split at he
        ·rename_i hst
         simp only [hst]
         refine abU hG hmix hΓ hcall r.body _ e σ _ he ?_
         unfold aNL
         split at hx
         ·rename_i j hj
          simp only [hj]
          split at hx
          ·rename_i r2 hr2
           injection hx with hx
           subst hx
           simp only [hr2]
           exact hk
          ·cases hx
         ·cases hx
        ·cases he
       ·cases he
      ·cases he
     ·cases hx
    exact hS.yld l args H next K hcs C ρ w vs hC hm hv
   ·cases hx
  ·cases hx
theorem aAa {ext pf : abC} (h1 : aeD P G ext) (h2 : aeD P G pf) : aeD P G (alH ext pf) := by
 intro f A R x y h
 unfold alH at h
 split at h
 ·rename_i z hz
  injection h with h
  subst h
  exact h1 f A R x _ hz
 ·exact h2 f A R x y h
theorem aBa (hG : acS G) (hmix : P.follows .mixedOrders = true) {ext : abC} (hext : aeD P G ext) (hsig : ∀ x ∈ sig, acL P x.1 = true) (fuel : Nat) : ∀ d, aeD P G (azB P sig fuel ext d) ∧ CallSat P G (abF (apT P sig fuel ext d))
 | 0 => by
  refine ⟨by simp only [azB]; exact hext, ?_⟩
  simp only [apT]
  refine ⟨fun f args H next K h => ?_, fun l args H next K h => ?_⟩
  ·obtain ⟨x, hx, _⟩ := h; cases hx
  ·obtain ⟨x, hx, _⟩ := h; cases hx
 | d + 1 => by
  obtain ⟨h1, h2⟩ := aBa hG hmix hext hsig fuel d
  have hΓ := aAw h1 sig hsig
  exact ⟨by simp only [azB]; exact aAa hext (aI1 hG hmix hΓ h2), by simp only [apT]; exact aEN hG hmix hΓ h2⟩
end
end Go.Vg
