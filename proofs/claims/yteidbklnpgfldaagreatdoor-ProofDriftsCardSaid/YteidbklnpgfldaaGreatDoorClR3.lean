/-
  A runner over the evaluator, and calls that have been run. Own work; no condition.
-/
import Derived.Test.YteidbklnpgfldaaGreatDoorClR2
set_option linter.unusedVariables false
set_option linter.unusedSimpArgs false
namespace Go.Vg
open Go Go.RowKit
section
variable {P : Program} {G : World → Prop} {sig : Sig} {pf : aa4} {cr : ad2}
theorem T.holds_bind' {α β : Type} {x : T α} {f : α → T β} {K : β → Prop} (h : x.holds (fun a => (f a).holds K)) : (x.bind f).holds K := by
 induction x with
 | ok a => exact h
 | ite b x y hx hy =>
  cases b with
  | true => exact hx h
  | false => exact hy h
 | need p x hx => exact ⟨h.1, hx h.2⟩
 | bad => exact h
theorem abQ {ops : Array Oper} : ∀ (l : List Oper) (σ σ' : St) (K : Fi → Prop), aBv P sig pf cr ops l σ = some σ' → K (.go σ') → aa3 P (aaT pf sig) (aa9 cr) ops l σ K
 | [], σ, σ', K, h, hk => by injection h with h; subst h; exact hk
 | o :: rest, σ, σ', K, h, hk => by
  simp only [aBv] at h
  simp only [aa3]
  split at h
  ·rename_i hg
   simp only [hg]
   split at h
   ·rename_i s hs
    exact ajJ hs (abQ rest s σ' K h hk)
   ·cases h
  ·rename_i j want hg
   simp only [hg]
   split at h
   ·rename_i t ht
    simp only [ht]
    split at h
    ·rename_i x hx
     simp only [hx]
     cases x <;> cases want <;> simp only [at2] at h <;> simp only [al1]
     ·split at h
      ·rename_i hc; cases hc
       split at h
       ·rename_i s hs; exact ajJ hs (abQ rest s σ' K h hk)
       ·cases h
      ·rename_i hc; cases hc
     ·split at h
      ·rename_i hc; cases hc
      ·exact abQ rest _ σ' K h hk
     ·split at h
      ·rename_i hc; cases hc
      ·exact abQ rest _ σ' K h hk
     ·split at h
      ·rename_i hc; cases hc
       split at h
       ·rename_i s hs; exact ajJ hs (abQ rest s σ' K h hk)
       ·cases h
      ·rename_i hc; cases hc
    ·rename_i hx
     simp only [hx]
     exact abQ rest _ σ' K h hk
    ·cases h
   ·cases h
theorem afH {ops : Array Oper} : ∀ (l : List Oper) (σ σ' : St) (ch : List PanicEntry) (K : Fi → Prop), aJV P sig pf cr ops l σ = some (ch, σ') → K (.pan ch σ') → aa3 P (aaT pf sig) (aa9 cr) ops l σ K
 | [], σ, σ', ch, K, h, hk => by cases h
 | o :: rest, σ, σ', ch, K, h, hk => by
  have step : ∀ s0 : St, (match opR P sig pf cr o s0 with
    | some s => aJV P sig pf cr ops rest s
    | none => opP P sig cr o s0) = some (ch, σ') → opS P (aaT pf sig) (aa9 cr) o s0 (aNU (fun s => aa3 P (aaT pf sig) (aa9 cr) ops rest s K) K) := by
   intro s0 h
   split at h
   ·rename_i s hs
    exact ajJ hs (afH rest s σ' ch K h hk)
   ·exact aGY h hk
  simp only [aJV] at h
  simp only [aa3]
  split at h
  ·rename_i hg
   simp only [hg]
   exact step _ h
  ·rename_i j want hg
   simp only [hg]
   split at h
   ·rename_i t ht
    simp only [ht]
    split at h
    ·rename_i x hx
     simp only [hx]
     cases x <;> cases want <;> simp only [at2] at h <;> simp only [al1]
     ·split at h
      ·rename_i hc; cases hc
       exact step _ h
      ·rename_i hc; cases hc
     ·split at h
      ·rename_i hc; cases hc
      ·exact afH rest _ σ' ch K h hk
     ·split at h
      ·rename_i hc; cases hc
      ·exact afH rest _ σ' ch K h hk
     ·split at h
      ·rename_i hc; cases hc
       exact step _ h
      ·rename_i hc; cases hc
    ·rename_i hx
     simp only [hx]
     exact afH rest _ σ' ch K h hk
    ·cases h
   ·cases h
theorem aoC {sk : List (Nat × Nat)} {Hs : Heap} {K : Nat} {H0 : Heap} {arg : Operand → AV} {o : Oper} {u : Out} {Q : Out → Prop} (h : aQR P sig pf sk Hs K H0 arg o = some u) (hq : Q u) : (evS P (aaT pf sig) sk Hs K H0 arg o).holds Q := by
 unfold aQR at h
 unfold evS
 split at h
 ·rename_i t a x ho
  simp only [ho]
  split at h
  ·rename_i k hk
   simp only [hk]
   split at h
   ·rename_i b hb
    injection h with h
    subst h
    exact T.holds_bind' (T.holds_toO hb hq)
   ·cases h
  ·cases h
 ·rename_i hne
  have key : (match ajA sk K with
    | false => (evM P (aaT pf sig) K H0 arg o).bind fun x => .ok (.ran x.1 x.2)
    | true => match o.op with
     | .alloc e => match ab2 P e with
      | some _ => .ok (.ran (.ptr K 0) [(K, .any)])
      | none => .bad
     | _ => .bad : T Out).holds Q := by
   split at h
   ·rename_i hs
    simp only [hs]
    split at h
    ·rename_i x hx
     injection h with h
     subst h
     exact T.holds_bind' (asO hx hq)
    ·cases h
   ·rename_i hs
    simp only [hs]
    split at h
    ·rename_i e ho
     simp only [ho]
     split at h
     ·rename_i zs hz
      injection h with h
      subst h
      simp only [hz]
      exact hq
     ·cases h
    ·cases h
  split
  ·rename_i t a x ho; exact absurd ho (hne t a x)
  ·exact key
theorem adS {ops : Array Oper} {sk : List (Nat × Nat)} {Hs : Heap} {H0 : Nat → Heap → Heap} : ∀ (l : List Oper) (K : Nat) (σ : St) (s : List (Nat × Bk)) (y : St × List (Nat × Bk)) (Q : St × List (Nat × Bk) → Prop),
  aNe P sig pf ops sk Hs H0 l K σ s = some y → Q y → (ayU P (aaT pf sig) ops sk Hs H0 l K σ s).holds Q
 | [], K, σ, s, y, Q, h, hq => by injection h with h; subst h; exact hq
 | o :: rest, K, σ, s, y, Q, h, hq => by
  simp only [aNe] at h
  simp only [ayU]
  split at h
  ·rename_i hg
   simp only [hg]
   split at h
   ·rename_i u hu
    exact T.holds_bind' (aoC hu (adS rest _ _ _ y Q h hq))
   ·cases h
  ·rename_i j want hg
   simp only [hg]
   split at h
   ·rename_i t ht
    simp only [ht]
    split at h
    ·rename_i x hx
     simp only [hx]
     cases x <;> cases want <;> simp only [at2] at h <;> simp only [T.holds, al1]
     ·split at h
      ·rename_i hc; cases hc
       split at h
       ·rename_i u hu; exact T.holds_bind' (aoC hu (adS rest _ _ _ y Q h hq))
       ·cases h
      ·rename_i hc; cases hc
     ·split at h
      ·rename_i hc; cases hc
      ·exact adS rest _ _ _ y Q h hq
     ·split at h
      ·rename_i hc; cases hc
      ·exact adS rest _ _ _ y Q h hq
     ·split at h
      ·rename_i hc; cases hc
       split at h
       ·rename_i u hu; exact T.holds_bind' (aoC hu (adS rest _ _ _ y Q h hq))
       ·cases h
      ·rename_i hc; cases hc
    ·rename_i hx
     simp only [hx]
     exact adS rest _ _ _ y Q h hq
    ·cases h
   ·cases h
theorem asW {ops : Array Oper} {σ σ' : St} {K : Fi → Prop} (h : aLV P sig pf cr ops σ = some σ') (hk : K (.go σ')) : agR P (aaT pf sig) (aa9 cr) ops σ K := by
 unfold aLV aDC at h
 simp only at h
 unfold agR
 simp only
 split at h
 ·rename_i hok
  split at h
  ·rename_i sk hsk
   simp only [hsk]
   split at h
   ·rename_i hc
    split at h
    ·rename_i x hx
     rw [zl] at hc
     simp only [hok, hc.1, hc.2, Bool.and_self]
     exact adS _ _ _ _ x _ hx (abQ _ _ σ' K h hk)
    ·cases h
   ·cases h
  ·cases h
 ·cases h
theorem aCR {ops : Array Oper} {σ σ' : St} {ch : List PanicEntry} {K : Fi → Prop} (h : aLW P sig pf cr ops σ = some (ch, σ')) (hk : K (.pan ch σ')) : agR P (aaT pf sig) (aa9 cr) ops σ K := by
 unfold aLW aDC at h
 simp only at h
 unfold agR
 simp only
 split at h
 ·rename_i hok
  split at h
  ·rename_i sk hsk
   simp only [hsk]
   split at h
   ·rename_i hc
    split at h
    ·rename_i x hx
     rw [zl] at hc
     simp only [hok, hc.1, hc.2, Bool.and_self]
     exact adS _ _ _ _ x _ hx (afH _ _ σ' ch K h hk)
    ·cases h
   ·cases h
  ·cases h
 ·cases h
def Sub (l l' : List (Nat × St)) : Prop := ∀ m s, aLJ l m = some s → aLJ l' m = some s
theorem aBh {acc acc' : List (Nat × St)} {m : Nat} {σ : St} (h : aQW acc m σ = some acc') : Sub acc acc' ∧ aLJ acc' m = some σ := by
 unfold aQW at h
 split at h
 ·rename_i s hs
  split at h
  ·rename_i hb
   injection h with h
   subst h
   rw [aPc hb]
   exact ⟨fun _ _ h => h, hs⟩
  ·cases h
 ·rename_i hn
  injection h with h
  subst h
  refine ⟨fun k s hk => ?_, by simp [aLJ]⟩
  simp only [aLJ]
  cases hb : Nat.beq m k with
  | true => rw [Nat.eq_of_beq_eq_true hb] at hn; rw [hn] at hk; cases hk
  | false => exact hk
theorem aKK {ops : Array Oper} {b size k m : Nat} {σ : St} {i : Nat} {o : Oper} {acc acc' : List (Nat × St)} (h : aPW P sig pf cr ops b size k m σ i o acc = some acc') : Sub acc acc' := by
 unfold aPW at h
 split at h
 ·injection h with h; subst h; exact fun _ _ h => h
 ·split at h
  ·split at h
   ·split at h
    ·exact (aBh h).1
    ·cases h
   ·cases h
  ·injection h with h; subst h; exact fun _ _ h => h
theorem auS {f : Nat → Oper → List (Nat × St) → Option (List (Nat × St))} (hf : ∀ i o acc acc', f i o acc = some acc' → Sub acc acc') : ∀ {l : List Oper} {k : Nat} {acc acc' : List (Nat × St)}, aDk f l k acc = some acc' →
  Sub acc acc' ∧ ∀ j o, l[j]? = some o → ∃ a1 a2, f (k + j) o a1 = some a2 ∧ Sub a2 acc'
 | [], k, acc, acc', h => by injection h with h; subst h; exact ⟨fun _ _ h => h, fun j o hj => by simp at hj⟩
 | x :: r, k, acc, acc', h => by
  simp only [aDk] at h
  split at h
  ·rename_i a2 ha
   obtain ⟨h1, h2⟩ := auS hf h
   have h0 := hf _ _ _ _ ha
   refine ⟨fun m s hm => h1 m s (h0 m s hm), fun j o hj => ?_⟩
   cases j with
   | zero => simp only [List.getElem?_cons_zero, Option.some.injEq] at hj; subst hj; exact ⟨_, _, ha, h1⟩
   | succ j =>
    simp only [List.getElem?_cons_succ] at hj
    obtain ⟨a3, a4, g1, g2⟩ := h2 j o hj
    exact ⟨a3, a4, by rwa [show k + 1 + j = k + (j + 1) by omega] at g1, g2⟩
  ·cases h
theorem ar2 {ops : Array Oper} {b size k : Nat} : ∀ {l acc acc' : List (Nat × St)}, aDR P sig pf cr ops b size k l acc = some acc' →
  Sub acc acc' ∧ ∀ x ∈ l, ∀ i o, ops[i]? = some o → ∃ a1 a2, aPW P sig pf cr ops b size k x.1 x.2 i o a1 = some a2 ∧ Sub a2 acc'
 | [], acc, acc', h => by injection h with h; subst h; exact ⟨fun _ _ h => h, fun x hx => by cases hx⟩
 | y :: r, acc, acc', h => by
  simp only [aDR] at h
  split at h
  ·rename_i a2 ha
   obtain ⟨h1, h2⟩ := ar2 h
   obtain ⟨g1, g2⟩ := auS (fun i o a a' h => aKK h) ha
   refine ⟨fun m s hm => h1 m s (g1 m s hm), fun x hx i o ho => ?_⟩
   rcases zq.1 hx with rfl | hx
   ·obtain ⟨a3, a4, q1, q2⟩ := g2 i o (by rw [zU]; exact ho)
    rw [zp] at q1
    exact ⟨a3, a4, q1, fun m s hm => h1 m s (q2 m s hm)⟩
   ·exact h2 x hx i o ho
  ·cases h
theorem aD1 : ∀ {l : List (Nat × St)} {m : Nat} {s : St}, aLJ l m = some s → (m, s) ∈ l
 | [], _, _, h => by cases h
 | (k, t) :: r, m, s, h => by
  simp only [aLJ] at h
  cases hb : Nat.beq k m with
  | true =>
   rw [hb] at h
   injection h with h
   rw [← h, ← Nat.eq_of_beq_eq_true hb]
   exact zG ..
  | false => rw [hb] at h; exact zu _ (aD1 h)
theorem av5 {ops : Array Oper} {b size : Nat} {σf : St} {K : Fi → Prop} (hk : K (.go σf)) : ∀ (n : Nat) (l : List (Nat × St)), aQC P sig pf cr ops b size n l = some σf → ∀ x ∈ l, aoA P (aaT pf sig) (aa9 cr) ops b n x.1 x.2 K
 | 0, l, h, x, hx => by
  simp only [aQC] at h
  split at h
  ·injection h with h
   subst h
   simp only [ye] at hx
   subst hx
   exact hk
  ·cases h
 | n + 1, l, h, x, hx => by
  simp only [aQC] at h
  split at h
  ·rename_i l' hl
   obtain ⟨-, h2⟩ := ar2 hl
   have ih := av5 hk n l' h
   intro i o ho hm he
   obtain ⟨a1, a2, g1, g2⟩ := h2 x hx i o ho
   unfold aPW at g1
   simp only [hm, he] at g1
   split at g1
   ·rename_i σ' hs
    split at g1
    ·rename_i hn
     obtain ⟨-, q1⟩ := aBh g1
     refine abQ _ _ _ _ hs ?_
     show ∃ s, aFW b σ' s ∧ aoA P (aaT pf sig) (aa9 cr) ops b n (x.1 ||| 2 ^ i) s K
     exact ⟨_, aCx b _ _ _ σ' _ (Nat.le_of_ble_eq_true hn), ih _ (aD1 (g2 _ _ q1))⟩
    ·cases g1
   ·cases g1
  ·cases h
theorem aFS {ops : Array Oper} {σ σ' : St} {Q : Exit → St → Prop} (h : aRN P sig pf cr ops σ = some σ') (hq : Q .normal σ') :
  acP ops.toList 0 = true ∧ aoA P (aaT pf sig) (aa9 cr) ops σ.next ops.size 0 σ (ay9 Q) := by
 unfold aRN at h
 split at h
 ·rename_i hed
  exact ⟨hed, av5 (K := ay9 Q) hq _ _ h (0, σ) (zG ..)⟩
 ·cases h
theorem aKo {r y : AV} {K : Prop} (h : avE r y = true) (hk : K) : aGs r y K := by
 unfold aGs
 split
 ·rw [h]; exact hk
 ·rw [h]; exact hk
 ·rw [h]; exact hk
 ·exact ⟨atG _ _ h, hk⟩
theorem aHP {σ : St} {o : Oper} {K : Prop} (h : obR P σ o = true) (hk : K) : obU P σ o K := by
 unfold obR at h
 unfold obU
 split at h
 ·cases h
 ·rename_i d hd
  simp only [hd]
  split at h
  ·rename_i r hr
   refine T.holds_toO hr ?_
   split at h
   ·rename_i hl; simp only [hl]; exact hk
   ·split
    ·exact hk
    ·exact aKo h hk
  ·cases h
theorem aiI {ms : List Nat} {u m : Nat} {σ : St} {K : Prop} (hk : K) : ∀ {l : List Oper} {i : Nat}, aFm P ms u m σ l i = true → aeE P ms u m σ K l i
 | [], _, _ => hk
 | o :: r, i, h => by
  simp only [aFm] at h
  simp only [aeE]
  split at h
  ·rename_i hc
   simp only [hc]
   split at h
   ·rename_i ho; exact aHP ho (aiI hk h)
   ·cases h
  ·rename_i hc
   simp only [hc]
   exact aiI hk h
theorem ah2 {u : Nat} {K : St → Prop} {σf : St} (hk : K σf) : ∀ (l : List Oper) (i : Nat) (σ : St), aEy P u l i σ = some σf → aKq P u K l i σ
 | [], _, σ, h => by injection h with h; subst h; exact hk
 | o :: r, i, σ, h => by
  simp only [aEy] at h
  simp only [aKq]
  split at h
  ·rename_i hc
   simp only [hc]
   split at h
   ·rename_i x hx; exact T.holds_toO hx (ah2 hk r _ _ h)
   ·cases h
  ·rename_i hc
   simp only [hc]
   exact ah2 hk r _ _ h
theorem avA {b : Nat} {pre : List Oper} {ms : List Nat} {tl : St → Prop} {σf : St} (hk : tl σf) : ∀ (k u m : Nat) (σ : St), aP4 P sig pf cr b pre ms k u m σ = some σf → aAO P (aaT pf sig) (aa9 cr) b pre ms tl k false u m σ
 | 0, u, m, σ, h => by
  simp only [aP4] at h
  simp only [aAO]
  split at h
  ·rename_i h1 h2
   injection h with h; subst h
   refine aiI ?_ h1
   rw [h2]
   exact hk
  ·cases h
 | k + 1, u, m, σ, h => by
  simp only [aP4] at h
  simp only [aAO, ahF]
  split at h
  ·rename_i h1
   refine aiI ?_ h1
   split at h
   ·rename_i h2
    injection h with h; subst h
    rw [h2]
    exact hk
   ·rename_i c h2
    rw [h2]
    show aQD _ _
    split at h
    ·rename_i x hx
     rw [hx]
     show opS P _ _ x.2 σ _
     split at h
     ·rename_i σ' ho
      refine ajJ ho ?_
      split at h
      ·rename_i σ1 hr
       exact ah2 (avA hk k _ _ σ1 h) _ _ _ hr
      ·cases h
     ·cases h
    ·cases h
  ·cases h
theorem aAs {ops : Array Oper} {σ σ' : St} {Q : Exit → St → Prop} (h : aIr P sig pf cr ops σ = some σ') (hq : Q .normal σ') : aFz P (aaT pf sig) (aa9 cr) ops σ (ay9 Q) := by
 unfold aIr aNr at h
 unfold aFz
 simp only [ahF]
 split at h
 ·rename_i hc
  simp only [hc]
  split at h
  ·rename_i σ1 h1
   refine ah2 ?_ _ _ _ h1
   split at h
   ·rename_i σ2 h2
    exact avA (abQ _ _ _ (ay9 Q) h hq) _ _ _ _ h2
   ·cases h
  ·cases h
 ·cases h
theorem awX : aEv sig = aEz (aaT pf sig) := by
 funext g
 unfold aEv aEz
 rw [aeH]
 cases sig.find g <;> rfl
theorem aLZ {sig : Sig} (h : (aaT pf sig).ok P G) : (aaT pf (aI2 sig)).ok P G := by
 cases sig with
 | nil => exact h
 | cons x r => exact ⟨h.1, h⟩
theorem aIu {C : Ctx} {ρ : Nat → Nat} {σ : St} {a : Act} {w : World} (n1 : Nat) (hs : SRel C ρ σ a w) : SRel C ρ (gcR n1 σ) a w ∧ (∀ n, Fr C n ρ σ.H w ρ (gcR n1 σ).H w) ∧ (gcR n1 σ).next = σ.next := by
 unfold gcR
 split
 ·obtain ⟨h1, h2, h3⟩ := hs.m.keepP (keepP n1 (aH9 σ.H n1 100000 (aDu n1 σ.H (adV 10000 (σ.slots.map (·.2)) [])) []))
  exact ⟨hs.keepTo h1 h2 (h3 0).data (zj _), h3, rfl⟩
 ·exact ⟨hs, fun _ => Fr.refl _ _ _ _ _, rfl⟩
theorem abR (hG : acS G) (hmix : P.follows .mixedOrders = true) (hΓ : (aaT pf sig).ok P G) (hcall : CallSat P G (aa9 cr)) {fuel : Nat} {rd : Option Nat} : ∀ (c : Code) (σ : St) (e : Exit) (σ' : St) (Q : Exit → St → Prop),
  abT P sig fuel pf cr rd c σ = some (e, σ') → Q e σ' → exec P G (aaT pf sig) (aa9 cr) rd c σ Q
 | .skip, σ, e, σ', Q, h, hq => by simp only [abT] at h; injection h with h; injection h with h1 h2; subst h1; subst h2; exact hq
 | .region id ops draw, σ, e, σ', Q, h, hq => by
  simp only [abT] at h
  cases draw with
  | false =>
   simp only at h
   unfold aFe at h
   split at h
   ·rename_i s hx
    injection h with h; injection h with h1 h2; subst h1; subst h2
    exact abQ _ _ _ (ay9 Q) hx hq
   ·split at h
    ·rename_i x hx
     obtain ⟨ch, s⟩ := x
     injection h with h; injection h with h1 h2; subst h1; subst h2
     exact afH _ _ _ _ (ay9 Q) hx hq
    ·cases h
  | true =>
   simp only at h
   unfold aFe at h
   split at h
   ·rename_i s hx
    injection h with h; injection h with h1 h2; subst h1; subst h2
    unfold aOI at hx
    split at hx
    ·rename_i s' hy
     injection hx with hx
     subst hx
     rw [awX (pf := pf)] at hy
     exact Or.inl (asW (K := ay9 Q) hy hq)
    ·split at hx
     ·rename_i s' hy
      injection hx with hx
      subst hx
      rw [awX (pf := pf)] at hy
      exact Or.inr (ab3 hG hmix (aLZ hΓ) hcall (.region id ops true) σ Q (Or.inl (asW (K := ay9 Q) hy hq)))
     ·split at hx
      ·rename_i s' hy
       injection hx with hx
       subst hx
       exact Or.inr (aGq hG hmix hΓ hcall (aAs (Q := Q) hy hq))
      ·obtain ⟨g1, g2⟩ := aFS (Q := Q) hx hq
       exact Or.inr (aNW hG hmix hΓ hcall g1 g2)
   ·split at h
    ·rename_i x hx
     obtain ⟨ch, s⟩ := x
     injection h with h; injection h with h1 h2; subst h1; subst h2
     rw [awX (pf := pf)] at hx
     exact Or.inl (aCR (K := ay9 Q) hx hq)
    ·cases h
 | .seq x y, σ, e, σ', Q, h, hq => by
  simp only [abT] at h
  simp only [exec]
  cases hx : abT P sig fuel pf cr rd x σ with
  | none => rw [hx] at h; cases h
  | some p =>
   obtain ⟨e1, σ1⟩ := p
   rw [hx] at h
   refine abR hG hmix hΓ hcall x σ e1 σ1 _ hx ?_
   cases e1 with
   | normal => exact abR hG hmix hΓ hcall y σ1 e σ' Q h hq
   | _ => injection h with h; injection h with h1 h2; subst h1; subst h2; exact hq
 | .cond c x y, σ, e, σ', Q, h, hq => by
  simp only [abT] at h
  simp only [exec]
  split at h
  ·rename_i b hb
   simp only [hb]
   cases b with
   | true => exact abR hG hmix hΓ hcall x σ e σ' Q h hq
   | false => exact abR hG hmix hΓ hcall y σ e σ' Q h hq
  ·cases h
 | .block id c, σ, e, σ', Q, h, hq => by
  simp only [abT] at h
  simp only [exec]
  cases hx : abT P sig fuel pf cr rd c σ with
  | none => rw [hx] at h; cases h
  | some p =>
   obtain ⟨e1, σ1⟩ := p
   rw [hx] at h
   refine abR hG hmix hΓ hcall c σ e1 σ1 _ hx ?_
   cases e1 with
   | exit j =>
    simp only [aJr] at h
    simp only [atE]
    split at h
    ·rename_i hb
     injection h with h; injection h with h1 h2; subst h1; subst h2
     simp only [hb]; exact hq
    ·rename_i hb
     injection h with h; injection h with h1 h2; subst h1; subst h2
     simp only [hb]; exact hq
   | _ => injection h with h; injection h with h1 h2; subst h1; subst h2; exact hq
 | .loop c, σ, e, σ', Q, h, hq => by
  simp only [abT] at h
  simp only [exec]
  refine ⟨fun C hC ρ a w hs rnd hrd => ?_⟩
  refine anC (ι := Nat × St) (fun i a' w' => ∃ ρ', aLw σ.next (abT P sig fuel pf cr rd c) i.1 i.2 = some (e, σ') ∧ SRel C ρ' i.2 a' w' ∧ Fr C σ.next ρ σ.H w ρ' i.2.H w' ∧ σ.next ≤ i.2.next) (fun i => i.1) ?_ (fuel, σ) a w ⟨ρ, h, hs, Fr.refl _ _ _ _ _, zj _⟩
  rintro ⟨n, s⟩ a' w' ⟨ρ', h1, h2, h3, h4⟩
  cases n with
  | zero => cases h1
  | succ n =>
   simp only [aLw] at h1
   cases hx : abT P sig fuel pf cr rd c s with
   | none => rw [hx] at h1; cases h1
   | some p =>
    obtain ⟨e1, s1⟩ := p
    rw [hx] at h1
    have hex := abR hG hmix hΓ hcall c s e1 s1 (fun e2 s2 => e2 = e1 ∧ s2 = s1) hx ⟨rfl, rfl⟩
    refine wpIn_mono (ab3 hG hmix hΓ hcall c s _ hex C hC ρ' a' w' h2 rnd (hrd.fr h3 h4)) ?_
    rintro e2 a2 w2 ⟨ρ2, σ2, ⟨k1, k2⟩, k3, k4, k5⟩
    subst k1; subst k2
    have k4' : Fr C s.next ρ' s.H w' ρ2 σ2.H w2 := k4
    have k5' : s.next ≤ σ2.next := k5
    have hfr := h3.trans h4 k4'
    have hle : σ.next ≤ σ2.next := zt h4 k5'
    cases e2 with
    | normal =>
     obtain ⟨m1, m2, m3⟩ := aIu σ.next k3
     exact ⟨(n, gcR σ.next σ2), ⟨ρ2, h1, m1, hfr.trans (zj _) (m2 _), by rw [m3]; exact hle⟩, yp _⟩
    | _ => injection h1 with h1; injection h1 with g1 g2; subst g1; subst g2; exact ⟨ρ2, _, hq, k3, hfr, hle⟩
 | .exit id, σ, e, σ', Q, h, hq => by simp only [abT] at h; injection h with h; injection h with h1 h2; subst h1; subst h2; exact hq
 | .ret, σ, e, σ', Q, h, hq => by simp only [abT] at h; injection h with h; injection h with h1 h2; subst h1; subst h2; exact hq
 | .label l, σ, e, σ', Q, h, hq => by simp only [abT] at h; injection h with h; injection h with h1 h2; subst h1; subst h2; exact hq
 | .scope c, σ, e, σ', Q, h, hq => by
  simp only [abT] at h
  simp only [exec]
  cases hx : abT P sig fuel pf cr rd c σ with
  | none => rw [hx] at h; cases h
  | some p =>
   obtain ⟨e1, σ1⟩ := p
   rw [hx] at h
   refine abR hG hmix hΓ hcall c σ e1 σ1 _ hx ?_
   cases e1 with
   | goto l => cases h
   | _ => injection h with h; injection h with h1 h2; subst h1; subst h2; exact hq
 | .rangeFunc g ps assign body, σ, e, σ', Q, h, hq => by
  simp only [abT] at h
  simp only [exec]
  have key : ∀ f first caps, aDw σ σ.next (cr (.fn f) (first ++ .yld σ.next :: caps) (σ.lay σ.next ps assign body) (σ.next + 1)) = some (e, σ') → aa9 cr (.fn f) (first ++ .yld σ.next :: caps) (σ.lay σ.next ps assign body) (σ.next + 1) (akV σ σ.next Q) := by
   intro f first caps h
   cases hx : cr (.fn f) (first ++ .yld σ.next :: caps) (σ.lay σ.next ps assign body) (σ.next + 1) with
   | none => rw [hx] at h; cases h
   | some x =>
    rw [hx] at h
    refine ⟨x, hx, ?_⟩
    simp only [aDw] at h
    unfold akV
    split at h
    ·cases h
    rename_i hpn
    simp only [hpn]
    split at h
    ·rename_i r hr
     simp only [hr]
     split at h
     ·cases h
     ·rename_i ex h1 h2
      injection h with h; injection h with g1 g2; subst g1; subst g2
      split
      ·rename_i hst; exact (h2 hst).elim
      ·rename_i ex' h4 h3
       rw [h1] at h4
       injection h4 with h4
       subst h4
       exact hq
      ·rename_i h4 h3; rw [h1] at h4; cases h4
     ·cases h
    ·cases h
  split at h
  ·rename_i f first caps hf
   simp only [hf]
   split at h
   ·exact key f first caps h
   ·rename_i l0
    split at h
    ·rename_i r hr
     simp only [hr]
     exact key f first caps h
    ·cases h
  ·cases h
 | .goto _, _, _, _, _, h, _ => by cases h
 | .refuse _, _, _, _, _, h, _ => by cases h
theorem alZ (hG : acS G) (hmix : P.follows .mixedOrders = true) (hΓ : (aaT pf sig).ok P G) (hcall : CallSat P G (aa9 cr)) {fuel : Nat} {g : FuncId} {caps : List AV} {x : AV} {σ σ' : St} {e : Exit} {Q : Exit → St → Prop}
  (h : aJl P (aBv P sig pf cr) (abT P sig fuel pf cr) g caps x σ = some (e, σ')) (hq : Q e σ') : ao4 (fun l => exec P G (aaT pf sig) (aa9 cr) (some l)) P (aaT pf sig) (aa9 cr) g caps Q x σ := by
 unfold aJl at h
 unfold ao4
 split at h
 case h_2 => cases h
 rename_i c hc
 simp only [hc]
 split at h
 case h_2 => cases h
 rename_i hb
 split at h
 case h_2 => cases h
 rename_i s hs
 refine ⟨hb, abQ _ _ _ _ hs ?_⟩
 show exec P G (aaT pf sig) (aa9 cr) (some σ.next) c.B s _
 unfold aQB at h
 split at h
 case h_3 => cases h
 ·rename_i s2 hcd
  injection h with h; injection h with h1 h2; subst h1; subst h2
  exact abR hG hmix hΓ hcall c.B s _ _ _ hcd ⟨Or.inl rfl, hq⟩
 ·rename_i s2 hcd
  injection h with h; injection h with h1 h2; subst h1; subst h2
  exact abR hG hmix hΓ hcall c.B s _ _ _ hcd ⟨Or.inr rfl, hq⟩
theorem aEo (hG : acS G) (hmix : P.follows .mixedOrders = true) (hΓ : (aaT pf sig).ok P G) (hcall : CallSat P G (aa9 cr)) {fuel : Nat} {g : FuncId} {caps : List AV} {y : Option (Exit × St)} {σ' : St} {e : Exit} {Q : Exit → St → Prop}
  (h : aQ2 P (aBv P sig pf cr) (abT P sig fuel pf cr) g caps y = some (e, σ')) (hq : Q e σ') : ∃ e1 s, y = some (e1, s) ∧ aIh (fun l => exec P G (aaT pf sig) (aa9 cr) (some l)) P (aaT pf sig) (aa9 cr) g caps Q e1 s := by
 unfold aQ2 at h
 split at h
 ·exact ⟨_, _, rfl, alZ hG hmix hΓ hcall h hq⟩
 ·exact ⟨_, _, rfl, alZ hG hmix hΓ hcall h hq⟩
 ·split at h
  ·rename_i x hx
   refine ⟨_, _, rfl, ?_⟩
   exact arR (K := fun x => ao4 (fun l => exec P G (aaT pf sig) (aa9 cr) (some l)) P (aaT pf sig) (aa9 cr) g caps Q x _) hx (alZ hG hmix hΓ hcall h hq)
  ·cases h
 ·cases h
theorem aoI (hG : acS G) (hmix : P.follows .mixedOrders = true) (hΓ : (aaT pf sig).ok P G) (hcall : CallSat P G (aa9 cr)) {fuel : Nat} (c : Code) (σ : St) (e : Exit) (σ' : St) (Q : Exit → St → Prop)
  (h : aFK P sig fuel pf cr c σ = some (e, σ')) (hq : Q e σ') : aOF P G (aaT pf sig) (aa9 cr) c σ Q := by
 unfold aFK aOR at h
 split at h
 ·rename_i d hd
  refine Or.inr ⟨d, hd, ?_⟩
  unfold aR1 at h
  split at h
  case h_2 => cases h
  rename_i s1 h1
  split at h
  case h_2 => cases h
  rename_i s2 h2
  refine abQ _ _ _ _ h1 (abQ _ _ _ _ h2 ?_)
  show aEA (fun _ => exec P G (aaT pf sig) (aa9 cr) none) (fun l => exec P G (aaT pf sig) (aa9 cr) (some l)) P (aaT pf sig) (aa9 cr) d Q s2
  unfold aPj at h
  unfold aEA
  split at h
  case h_2 => cases h
  rename_i g first caps hf
  split at h
  case h_2 => cases h
  simp only [hf]
  obtain ⟨e1, s3, h3, h4⟩ := aEo hG hmix hΓ hcall h hq
  exact abR hG hmix hΓ hcall d.rest _ e1 s3 _ h3 h4
 ·exact Or.inl (abR hG hmix hΓ hcall c σ e σ' Q h hq)
theorem auT {fn : Func} {x : Option (Exit × St)} {l : List AV} {σ : St} {K : List AV → St → Prop} (h : aPi P fn x = some (l, σ)) (hk : K l σ) : ∃ e, x = some (e, σ) ∧ aRQ P fn K e σ := by
 unfold aPi at h
 split at h
 ·rename_i s
  split at h
  ·rename_i l' hl
   injection h with h; injection h with h1 h2; subst h1; subst h2
   exact ⟨_, rfl, T.holds_toO hl hk⟩
  ·cases h
 ·rename_i s
  split at h
  ·rename_i l' hl
   injection h with h; injection h with h1 h2; subst h1; subst h2
   exact ⟨_, rfl, T.holds_toO hl hk⟩
  ·cases h
 ·cases h
theorem aKC (hG : acS G) (hmix : P.follows .mixedOrders = true) (hΓ : (aaT pf sig).ok P G) (hcall : CallSat P G (aa9 cr)) {fuel : Nat} : adP P G (aGL P sig fuel pf cr) := by
 intro f A R x y h
 unfold aGL at h
 split at h
 ·rename_i fn hf
  split at h
  ·rename_i code hb
   split at h
   ·rename_i hc
    rw [zl] at hc
    split at h
    ·rename_i l σ hr
     refine as3 hf hb hc.1 _ rfl ?_ ?_
     ·intro z hz
      have hz' : z = x := hz
      rw [hz']; exact hc.2
     ·intro z _ hz
      have hz' : z = x := hz
      rw [hz']
      have hfin : aQe R y l σ := by
       unfold aQe
       rw [h]
      obtain ⟨e, h1, h2⟩ := auT (K := aQe R y) hr hfin
      exact av2 hG hmix hΓ hcall (aoI hG hmix hΓ hcall code _ e σ _ h1 h2)
    ·cases h
   ·cases h
  ·cases h
 ·cases h
theorem MRel.leave {C : Ctx} {ρ : Nat → Nat} {H : Heap} {next : Nat} {w : World} (hm : MRel C ρ H next w) (n : Nat) :
  MRel C ρ (H.keep (fun k => Nat.blt k n) aeG) n w ∧ ∀ x v, VR C ρ H w x v → VR C ρ (H.keep (fun k => Nat.blt k n) aeG) w (x.map (fun k => Nat.blt k n) aeG) v := by
 have hv : ∀ x v, VR C ρ H w x v → VR C ρ (H.keep (fun k => Nat.blt k n) aeG) w (x.map (fun k => Nat.blt k n) aeG) v := fun x v h =>
  VR.map (fun b hb => ⟨hb.keep, rfl⟩) (fun k hk hp => ⟨Heap.keys_keep.2 ⟨hp, hk⟩, rfl⟩) (fun k e t l hk hp => ⟨l, Heap.mem_keep.2 ⟨hp, _, hk, rfl⟩, zj _, fun c fr hc => ⟨c, fr, hc, rfl⟩⟩) (fun _ _ _ _ _ _ => .no) h
 have hd : ∀ b, Ok C ρ H w b → Ok C ρ (H.keep (fun k => Nat.blt k n) aeG) w b ∧ w.heap[b]? = w.heap[b]? := fun b hb => ⟨hb.keep, rfl⟩
 refine ⟨⟨hm.below, Heap.nodup_keep hm.nodup, fun k hk => Nat.le_of_ble_eq_true (Heap.keys_keep.1 hk).1, fun k hk k' hk' => hm.inj k (Heap.keys_keep.1 hk).2 k' (Heap.keys_keep.1 hk').2, fun k hk => hm.low k (Heap.keys_keep.1 hk).2, fun k b hb => ?_⟩, hv⟩
 obtain ⟨_, b', hb', rfl⟩ := Heap.mem_keep.1 hb
 have hbr := hm.mem k b' hb'
 cases b' with
 | vars e cells =>
  obtain ⟨c, g1, g2, g3⟩ := hbr
  exact ⟨c, g1, VRs.map hv g2, g3⟩
 | row e t l =>
  obtain ⟨c, g1, g2, g3, g4, g5⟩ := hbr
  exact ⟨c, g1, g2, g3, RdL.mono (fun x cs => Rd.mono hd t x cs) _ _ g4, g5⟩
 | loop r =>
  obtain ⟨fn, tmps, d, g1, g2, g3⟩ := hbr
  exact ⟨fn, tmps, d, g1, g2, fun t => by show VR C ρ _ w (acT (aa1 _ _ r.slots) t) _; rw [amP]; exact hv _ _ (g3 t)⟩
 | dic k l => obtain ⟨es, n, g1, g2⟩ := hbr; exact ⟨es, n, g1, g2.map hv⟩
 | dicv k t l => obtain ⟨es, n, g1, g2⟩ := hbr; exact ⟨es, n, g1, g2.impD fun x => hv (.d t x)⟩
 | any => exact hbr
theorem CallEnd.leave {C : Ctx} {ρ : Nat → Nat} {H : Heap} {next : Nat} {w : World} {r0 : AV} {H0 : Heap} {n0 : Nat} {K : AV → Heap → Nat → Prop} {e : Ending} {w' : World}
  (hk : K (ar3 next r0 H0 n0).1 (ar3 next r0 H0 n0).2.1 (ar3 next r0 H0 n0).2.2) (hp : alK r0 = none) (hp2 : alK (ar3 next r0 H0 n0).1 = none) (h : CallEnd C ρ H next w (fun r H' n' => r = r0 ∧ H' = H0 ∧ n' = n0) e w') : CallEnd C ρ H next w K e w' := by
 obtain ⟨ρ', r, H', n', ⟨rfl, rfl, rfl⟩, h3, h5, h6, hend⟩ := h
 rcases hend with ⟨v, h1, _, h4⟩ | ⟨x, ch, rfl, _, _⟩
 case inr => cases hp
 unfold ar3 at hk hp2
 split at hk
 ·exact ⟨ρ', _, _, _, hk, h3, h5, h6, Or.inl ⟨v, h1, hp, h4⟩⟩
 ·rename_i hb
  simp only [hb] at hp2
  obtain ⟨g1, g2⟩ := h3.leave next
  refine ⟨ρ', _, _, _, hk, g1, ?_, zj _, Or.inl ⟨v, h1, hp2, g2 _ _ h4⟩⟩
  refine ⟨fun b hb => ?_, fun k hk hkm => h5.keys k hk (Heap.keys_keep.1 hkm).2, fun k e t l hk hkm hkn => ?_, h5.size⟩
  ·obtain ⟨c1, c2⟩ := h5.data b hb
   exact ⟨c1.keep, c2⟩
  ·obtain ⟨c1, c2⟩ := Heap.keys_keep.1 hkn
   obtain ⟨l', d1, d2, d3⟩ := h5.rows k e t l hk hkm c2
   exact ⟨l', Heap.mem_keep.2 ⟨c1, _, d1, rfl⟩, d2, d3⟩
theorem aFC (hG : acS G) (hmix : P.follows .mixedOrders = true) (hΓ : (aaT pf sig).ok P G) (hcall : CallSat P G (aa9 cr)) {fuel : Nat} : CallSat P G (aa9 (asR P sig fuel pf cr)) := by
 have hS := aJo hG hmix hΓ hcall
 refine ⟨fun f args H next K h C ρ w vs hC hm hv => ?_, fun l args H next K h C ρ w vs hC hm hv => ?_⟩
 ·obtain ⟨x, hx, hk⟩ := h
  simp only [asR] at hx
  split at hx
  ·rename_i fn hf
   split at hx
   ·rename_i code hb
    split at hx
    ·rename_i hc
     rw [zl] at hc
     unfold aRG at hx
     split at hx
     ·rename_i ch σ hcode
      split at hx
      ·rename_i y hy
       injection hx with hx
       subst hx
       have hcs : aC4 P G (aaT pf sig) (aa9 cr) (.fn f) args H next K := by
        simp only [aC4, aA9, hf, hb]
        refine ⟨hc.1, hc.2, aoI hG hmix hΓ hcall code _ _ σ _ hcode ?_⟩
        exact arR (K := fun x => K (aO1 x) σ.H σ.next) hy hk
       exact hS.fn f args H next _ hcs C ρ w vs hC hm hv
      ·cases hx
     ·split at hx
      ·rename_i l σ hr
       split at hx
       ·rename_i hp1 hp2
        injection hx with hx
        subst hx
        obtain ⟨e, h1, h2⟩ := auT (K := aL1 fun r H' n' => r = at3 l ∧ H' = σ.H ∧ n' = σ.next) hr (by unfold aL1; simp [hp1])
        have hcs : aC4 P G (aaT pf sig) (aa9 cr) (.fn f) args H next fun r H' n' => r = at3 l ∧ H' = σ.H ∧ n' = σ.next := by
         simp only [aC4, aA9, hf, hb]
         refine ⟨hc.1, hc.2, aoI hG hmix hΓ hcall code _ e σ _ h1 ?_⟩
         cases e <;> first | exact h2 | exact h2.elim
        obtain ⟨g1, g2⟩ := hS.fn f args H next _ hcs C ρ w vs hC hm hv
        exact ⟨g1, g2.mono fun e w' hce => hce.leave hk hp1 hp2⟩
       ·cases hx
      ·cases hx
    ·cases hx
   ·cases hx
  ·cases hx
 ·obtain ⟨x, hx, hk⟩ := h
  simp only [asR] at hx
  split at hx
  ·rename_i r hfind
   split at hx
   ·rename_i hlen
    have hcs : aC4 P G (aaT pf sig) (aa9 cr) (.yld l) args H next K := by
     simp only [aC4, aA9, hfind, hlen]
     generalize hy : abT P sig fuel pf cr (some l) r.assign (aoJ { slots := r.slots, H := H, next := next, n := r.n } r.ps.toList args) = y at hx
     unfold aGu at hx
     split at hx
     ·rename_i e σ he
      unfold aJt at he
      split at he
      ·rename_i σ1
       refine abR hG hmix hΓ hcall r.assign _ .normal σ1 _ hy ?_
       simp only [aOS]
       split at he
       ·rename_i r1 hr1
        simp only [hr1]
        split at he
        ·rename_i hst
         simp only [hst]
         refine abR hG hmix hΓ hcall r.body _ e σ _ he ?_
         unfold aQS
         split at hx
         ·rename_i j hj
          simp only [hj]
          split at hx
          ·rename_i r2 hr2
           injection hx with hx
           subst hx
           simp only [hr2]
           exact hk
          ·cases hx
         ·cases hx
        ·cases he
       ·cases he
      ·cases he
     ·cases hx
    exact hS.yld l args H next K hcs C ρ w vs hC hm hv
   ·cases hx
  ·cases hx
theorem aAG {ext pf : aa4} (h1 : adP P G ext) (h2 : adP P G pf) : adP P G (ahK ext pf) := by
 intro f A R x y h
 unfold ahK at h
 split at h
 ·rename_i z hz
  injection h with h
  subst h
  exact h1 f A R x _ hz
 ·exact h2 f A R x y h
theorem aBQ (hG : acS G) (hmix : P.follows .mixedOrders = true) {ext : aa4} (hext : adP P G ext) (hsig : ∀ x ∈ sig, acM P x.1 = true) (fuel : Nat) : ∀ d, adP P G (azR P sig fuel ext d) ∧ CallSat P G (aa9 (apD P sig fuel ext d))
 | 0 => by
  refine ⟨by simp only [azR]; exact hext, ?_⟩
  simp only [apD]
  refine ⟨fun f args H next K h => ?_, fun l args H next K h => ?_⟩
  ·obtain ⟨x, hx, _⟩ := h; cases hx
  ·obtain ⟨x, hx, _⟩ := h; cases hx
 | d + 1 => by
  obtain ⟨h1, h2⟩ := aBQ hG hmix hext hsig fuel d
  have hΓ := aA3 h1 sig hsig
  exact ⟨by simp only [azR]; exact aAG hext (aKC hG hmix hΓ h2), by simp only [apD]; exact aFC hG hmix hΓ h2⟩
end
end Go.Vg
