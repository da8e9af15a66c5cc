/-
  The runner, part C: regions, code, calls, and functions on data. Own work; no condition.
-/
import Derived.Test.YtbfajgbedclfeaaGreatDoorRunB
namespace Go.Vg
open Go Go.RowKit

section
variable {P : Program} {G : World → Prop} {sig : Sig} {pf : PureT} {cr : CallR}

theorem T.holds_bind' {α β : Type} {x : T α} {f : α → T β} {K : β → Prop} (h : x.holds (fun a => (f a).holds K)) : (x.bind f).holds K := by
  induction x with
  | ok a => exact h
  | ite b x y hx hy =>
    cases b with
    | true => exact hx h
    | false => exact hy h
  | need p x hx => exact ⟨h.1, hx h.2⟩
  | bad => exact h

theorem seqR_sound {ops : Array Oper} : ∀ (l : List Oper) (σ σ' : St) (K : Fi → Prop), seqR P sig pf cr ops l σ = some σ' → K (.go σ') → execSeq P (consOf pf sig) (callOf cr) ops l σ K
  | [], σ, σ', K, h, hk => by injection h with h; subst h; exact hk
  | o :: rest, σ, σ', K, h, hk => by
    simp only [seqR] at h
    simp only [execSeq]
    split at h
    · rename_i hg
      simp only [hg]
      split at h
      · rename_i s hs
        exact opR_sound hs (seqR_sound rest s σ' K h hk)
      · cases h
    · rename_i j want hg
      simp only [hg]
      split at h
      · rename_i t ht
        simp only [ht]
        split at h
        · rename_i x hx
          simp only [hx]
          cases x <;> cases want <;> simp only [sameB] at h <;> simp only [bcase]
          · split at h
            · rename_i hc; cases hc
              split at h
              · rename_i s hs; exact opR_sound hs (seqR_sound rest s σ' K h hk)
              · cases h
            · rename_i hc; cases hc
          · split at h
            · rename_i hc; cases hc
            · exact seqR_sound rest _ σ' K h hk
          · split at h
            · rename_i hc; cases hc
            · exact seqR_sound rest _ σ' K h hk
          · split at h
            · rename_i hc; cases hc
              split at h
              · rename_i s hs; exact opR_sound hs (seqR_sound rest s σ' K h hk)
              · cases h
            · rename_i hc; cases hc
        · rename_i hx
          simp only [hx]
          exact seqR_sound rest _ σ' K h hk
        · cases h
      · cases h

theorem seqP_sound {ops : Array Oper} : ∀ (l : List Oper) (σ σ' : St) (ch : List PanicEntry) (K : Fi → Prop), seqP P sig pf cr ops l σ = some (ch, σ') → K (.pan ch σ') → execSeq P (consOf pf sig) (callOf cr) ops l σ K
  | [], σ, σ', ch, K, h, hk => by cases h
  | o :: rest, σ, σ', ch, K, h, hk => by
    have step : ∀ s0 : St, (match opR P sig pf cr o s0 with
        | some s => seqP P sig pf cr ops rest s
        | none => opP P sig cr o s0) = some (ch, σ') → opS P (consOf pf sig) (callOf cr) o s0 (seqF (fun s => execSeq P (consOf pf sig) (callOf cr) ops rest s K) K) := by
      intro s0 h
      split at h
      · rename_i s hs
        exact opR_sound hs (seqP_sound rest s σ' ch K h hk)
      · exact opP_sound h hk
    simp only [seqP] at h
    simp only [execSeq]
    split at h
    · rename_i hg
      simp only [hg]
      exact step _ h
    · rename_i j want hg
      simp only [hg]
      split at h
      · rename_i t ht
        simp only [ht]
        split at h
        · rename_i x hx
          simp only [hx]
          cases x <;> cases want <;> simp only [sameB] at h <;> simp only [bcase]
          · split at h
            · rename_i hc; cases hc
              exact step _ h
            · rename_i hc; cases hc
          · split at h
            · rename_i hc; cases hc
            · exact seqP_sound rest _ σ' ch K h hk
          · split at h
            · rename_i hc; cases hc
            · exact seqP_sound rest _ σ' ch K h hk
          · split at h
            · rename_i hc; cases hc
              exact step _ h
            · rename_i hc; cases hc
        · rename_i hx
          simp only [hx]
          exact seqP_sound rest _ σ' ch K h hk
        · cases h
      · cases h

theorem evSR_sound {sk : List (Nat × Nat)} {Hs : Heap} {K : Nat} {H0 : Heap} {arg : Operand → AV} {o : Oper} {u : Out} {Q : Out → Prop} (h : evSR P sig pf sk Hs K H0 arg o = some u) (hq : Q u) : (evS P (consOf pf sig) sk Hs K H0 arg o).holds Q := by
  unfold evSR at h
  unfold evS
  split at h
  · rename_i t a x ho
    simp only [ho]
    split at h
    · rename_i k hk
      simp only [hk]
      split at h
      · rename_i b hb
        injection h with h
        subst h
        exact T.holds_bind' (T.holds_toO hb hq)
      · cases h
    · cases h
  · rename_i hne
    have key : (match skHas sk K with
        | false => (evM P (consOf pf sig) K H0 arg o).bind fun x => .ok (.ran x.1 x.2)
        | true => match o.op with
          | .alloc e => match zeroAVs P e with
            | some _ => .ok (.ran (.ptr K 0) [(K, .any)])
            | none => .bad
          | _ => .bad : T Out).holds Q := by
      split at h
      · rename_i hs
        simp only [hs]
        split at h
        · rename_i x hx
          injection h with h
          subst h
          exact T.holds_bind' (evR_sound hx hq)
        · cases h
      · rename_i hs
        simp only [hs]
        split at h
        · rename_i e ho
          simp only [ho]
          split at h
          · rename_i zs hz
            injection h with h
            subst h
            simp only [hz]
            exact hq
          · cases h
        · cases h
    split
    · rename_i t a x ho; exact absurd ho (hne t a x)
    · exact key

theorem preR_sound {ops : Array Oper} {sk : List (Nat × Nat)} {Hs : Heap} {H0 : Nat → Heap → Heap} : ∀ (l : List Oper) (K : Nat) (σ : St) (s : List (Nat × Bk)) (y : St × List (Nat × Bk)) (Q : St × List (Nat × Bk) → Prop),
    preR P sig pf ops sk Hs H0 l K σ s = some y → Q y → (preT P (consOf pf sig) ops sk Hs H0 l K σ s).holds Q
  | [], K, σ, s, y, Q, h, hq => by injection h with h; subst h; exact hq
  | o :: rest, K, σ, s, y, Q, h, hq => by
    simp only [preR] at h
    simp only [preT]
    split at h
    · rename_i hg
      simp only [hg]
      split at h
      · rename_i u hu
        exact T.holds_bind' (evSR_sound hu (preR_sound rest _ _ _ y Q h hq))
      · cases h
    · rename_i j want hg
      simp only [hg]
      split at h
      · rename_i t ht
        simp only [ht]
        split at h
        · rename_i x hx
          simp only [hx]
          cases x <;> cases want <;> simp only [sameB] at h <;> simp only [T.holds, bcase]
          · split at h
            · rename_i hc; cases hc
              split at h
              · rename_i u hu; exact T.holds_bind' (evSR_sound hu (preR_sound rest _ _ _ y Q h hq))
              · cases h
            · rename_i hc; cases hc
          · split at h
            · rename_i hc; cases hc
            · exact preR_sound rest _ _ _ y Q h hq
          · split at h
            · rename_i hc; cases hc
            · exact preR_sound rest _ _ _ y Q h hq
          · split at h
            · rename_i hc; cases hc
              split at h
              · rename_i u hu; exact T.holds_bind' (evSR_sound hu (preR_sound rest _ _ _ y Q h hq))
              · cases h
            · rename_i hc; cases hc
        · rename_i hx
          simp only [hx]
          exact preR_sound rest _ _ _ y Q h hq
        · cases h
      · cases h

theorem drawR_sound {ops : Array Oper} {σ σ' : St} {K : Fi → Prop} (h : drawR P sig pf cr ops σ = some σ') (hk : K (.go σ')) : execDraw P (consOf pf sig) (callOf cr) ops σ K := by
  unfold drawR planOf at h
  simp only at h
  unfold execDraw
  simp only
  split at h
  · rename_i hok
    split at h
    · rename_i sk hsk
      simp only [hsk]
      split at h
      · rename_i hc
        split at h
        · rename_i x hx
          rw [Bool.and_eq_true] at hc
          simp only [hok, hc.1, hc.2, Bool.and_self]
          exact preR_sound _ _ _ _ x _ hx (seqR_sound _ _ σ' K h hk)
        · cases h
      · cases h
    · cases h
  · cases h

theorem drawP_sound {ops : Array Oper} {σ σ' : St} {ch : List PanicEntry} {K : Fi → Prop} (h : drawP P sig pf cr ops σ = some (ch, σ')) (hk : K (.pan ch σ')) : execDraw P (consOf pf sig) (callOf cr) ops σ K := by
  unfold drawP planOf at h
  simp only at h
  unfold execDraw
  simp only
  split at h
  · rename_i hok
    split at h
    · rename_i sk hsk
      simp only [hsk]
      split at h
      · rename_i hc
        split at h
        · rename_i x hx
          rw [Bool.and_eq_true] at hc
          simp only [hok, hc.1, hc.2, Bool.and_self]
          exact preR_sound _ _ _ _ x _ hx (seqP_sound _ _ σ' ch K h hk)
        · cases h
      · cases h
    · cases h
  · cases h

/-- What is in a table stays there. -/
def Sub (l l' : List (Nat × St)) : Prop := ∀ m s, getB l m = some s → getB l' m = some s

theorem addB_spec {acc acc' : List (Nat × St)} {m : Nat} {σ : St} (h : addB acc m σ = some acc') : Sub acc acc' ∧ getB acc' m = some σ := by
  unfold addB at h
  split at h
  · rename_i s hs
    split at h
    · rename_i hb
      injection h with h
      subst h
      rw [stE_eq hb]
      exact ⟨fun _ _ h => h, hs⟩
    · cases h
  · rename_i hn
    injection h with h
    subst h
    refine ⟨fun k s hk => ?_, by simp [getB]⟩
    simp only [getB]
    cases hb : Nat.beq m k with
    | true => rw [Nat.eq_of_beq_eq_true hb] at hn; rw [hn] at hk; cases hk
    | false => exact hk

theorem oneB_sub {ops : Array Oper} {b size k m : Nat} {σ : St} {i : Nat} {o : Oper} {acc acc' : List (Nat × St)} (h : oneB P sig pf cr ops b size k m σ i o acc = some acc') : Sub acc acc' := by
  unfold oneB at h
  split at h
  · injection h with h; subst h; exact fun _ _ h => h
  · split at h
    · split at h
      · split at h
        · exact (addB_spec h).1
        · cases h
      · cases h
    · injection h with h; subst h; exact fun _ _ h => h

theorem stepsB_sub {f : Nat → Oper → List (Nat × St) → Option (List (Nat × St))} (hf : ∀ i o acc acc', f i o acc = some acc' → Sub acc acc') : ∀ {l : List Oper} {k : Nat} {acc acc' : List (Nat × St)}, stepsB f l k acc = some acc' →
    Sub acc acc' ∧ ∀ j o, l[j]? = some o → ∃ a1 a2, f (k + j) o a1 = some a2 ∧ Sub a2 acc'
  | [], k, acc, acc', h => by injection h with h; subst h; exact ⟨fun _ _ h => h, fun j o hj => by simp at hj⟩
  | x :: r, k, acc, acc', h => by
    simp only [stepsB] at h
    split at h
    · rename_i a2 ha
      obtain ⟨h1, h2⟩ := stepsB_sub hf h
      have h0 := hf _ _ _ _ ha
      refine ⟨fun m s hm => h1 m s (h0 m s hm), fun j o hj => ?_⟩
      cases j with
      | zero => simp only [List.getElem?_cons_zero, Option.some.injEq] at hj; subst hj; exact ⟨_, _, ha, h1⟩
      | succ j =>
        simp only [List.getElem?_cons_succ] at hj
        obtain ⟨a3, a4, g1, g2⟩ := h2 j o hj
        exact ⟨a3, a4, by rwa [show k + 1 + j = k + (j + 1) by omega] at g1, g2⟩
    · cases h

theorem levelB_spec {ops : Array Oper} {b size k : Nat} : ∀ {l acc acc' : List (Nat × St)}, levelB P sig pf cr ops b size k l acc = some acc' →
    Sub acc acc' ∧ ∀ x ∈ l, ∀ i o, ops[i]? = some o → ∃ a1 a2, oneB P sig pf cr ops b size k x.1 x.2 i o a1 = some a2 ∧ Sub a2 acc'
  | [], acc, acc', h => by injection h with h; subst h; exact ⟨fun _ _ h => h, fun x hx => by cases hx⟩
  | y :: r, acc, acc', h => by
    simp only [levelB] at h
    split at h
    · rename_i a2 ha
      obtain ⟨h1, h2⟩ := levelB_spec h
      obtain ⟨g1, g2⟩ := stepsB_sub (fun i o a a' h => oneB_sub h) ha
      refine ⟨fun m s hm => h1 m s (g1 m s hm), fun x hx i o ho => ?_⟩
      rcases List.mem_cons.1 hx with rfl | hx
      · obtain ⟨a3, a4, q1, q2⟩ := g2 i o (by rw [Array.getElem?_toList]; exact ho)
        rw [Nat.zero_add] at q1
        exact ⟨a3, a4, q1, fun m s hm => h1 m s (q2 m s hm)⟩
      · exact h2 x hx i o ho
    · cases h

theorem getB_mem : ∀ {l : List (Nat × St)} {m : Nat} {s : St}, getB l m = some s → (m, s) ∈ l
  | [], _, _, h => by cases h
  | (k, t) :: r, m, s, h => by
    simp only [getB] at h
    cases hb : Nat.beq k m with
    | true =>
      rw [hb] at h
      injection h with h
      rw [← h, ← Nat.eq_of_beq_eq_true hb]
      exact List.mem_cons_self ..
    | false => rw [hb] at h; exact List.mem_cons_of_mem _ (getB_mem h)

theorem anyB_sound {ops : Array Oper} {b size : Nat} {σf : St} {K : Fi → Prop} (hk : K (.go σf)) : ∀ (n : Nat) (l : List (Nat × St)), anyB P sig pf cr ops b size n l = some σf → ∀ x ∈ l, execAny P (consOf pf sig) (callOf cr) ops b n x.1 x.2 K
  | 0, l, h, x, hx => by
    simp only [anyB] at h
    split at h
    · injection h with h
      subst h
      simp only [List.mem_singleton] at hx
      subst hx
      exact hk
    · cases h
  | n + 1, l, h, x, hx => by
    simp only [anyB] at h
    split at h
    · rename_i l' hl
      obtain ⟨-, h2⟩ := levelB_spec hl
      have ih := anyB_sound hk n l' h
      intro i o ho hm he
      obtain ⟨a1, a2, g1, g2⟩ := h2 x hx i o ho
      unfold oneB at g1
      simp only [hm, he] at g1
      split at g1
      · rename_i σ' hs
        split at g1
        · rename_i hn
          obtain ⟨-, q1⟩ := addB_spec g1
          refine seqR_sound _ _ _ _ hs ?_
          show ∃ s, Leads b σ' s ∧ execAny P (consOf pf sig) (callOf cr) ops b n (x.1 ||| 2 ^ i) s K
          exact ⟨_, leads_canon b _ _ _ σ' _ (Nat.le_of_ble_eq_true hn), ih _ (getB_mem (g2 _ _ q1))⟩
        · cases g1
      · cases g1
    · cases h

theorem anyR_sound {ops : Array Oper} {σ σ' : St} {Q : Exit → St → Prop} (h : anyR P sig pf cr ops σ = some σ') (hq : Q .normal σ') :
    chkEdges ops.toList 0 = true ∧ execAny P (consOf pf sig) (callOf cr) ops σ.next ops.size 0 σ (regK Q) := by
  unfold anyR at h
  split at h
  · rename_i hed
    exact ⟨hed, anyB_sound (K := regK Q) hq _ _ h (0, σ) (List.mem_cons_self ..)⟩
  · cases h

theorem same2_in {r y : AV} {K : Prop} (h : avE r y = true) (hk : K) : same2 r y K := by
  unfold same2
  split
  · rw [h]; exact hk
  · rw [h]; exact hk
  · rw [h]; exact hk
  · exact ⟨avE_eq _ _ h, hk⟩
theorem obR_sound {σ : St} {o : Oper} {K : Prop} (h : obR P σ o = true) (hk : K) : obU P σ o K := by
  unfold obR at h
  unfold obU
  split at h
  · cases h
  · rename_i d hd
    simp only [hd]
    split at h
    · rename_i r hr
      refine T.holds_toO hr ?_
      split at h
      · rename_i hl; simp only [hl]; exact hk
      · split
        · exact hk
        · exact same2_in h hk
    · cases h
theorem lateR_sound {ms : List Nat} {u m : Nat} {σ : St} {K : Prop} (hk : K) : ∀ {l : List Oper} {i : Nat}, lateR P ms u m σ l i = true → lateAll P ms u m σ K l i
  | [], _, _ => hk
  | o :: r, i, h => by
    simp only [lateR] at h
    simp only [lateAll]
    split at h
    · rename_i hc
      simp only [hc]
      split at h
      · rename_i ho; exact obR_sound ho (lateR_sound hk h)
      · cases h
    · rename_i hc
      simp only [hc]
      exact lateR_sound hk h
theorem runUR_sound {u : Nat} {K : St → Prop} {σf : St} (hk : K σf) : ∀ (l : List Oper) (i : Nat) (σ : St), runUR P u l i σ = some σf → runU P u K l i σ
  | [], _, σ, h => by injection h with h; subst h; exact hk
  | o :: r, i, σ, h => by
    simp only [runUR] at h
    simp only [runU]
    split at h
    · rename_i hc
      simp only [hc]
      split at h
      · rename_i x hx; exact T.holds_toO hx (runUR_sound hk r _ _ h)
      · cases h
    · rename_i hc
      simp only [hc]
      exact runUR_sound hk r _ _ h
theorem nHoR_sound {b : Nat} {pre : List Oper} {ms : List Nat} {tl : St → Prop} {σf : St} (hk : tl σf) : ∀ (k u m : Nat) (σ : St), nHoR P sig pf cr b pre ms k u m σ = some σf → execN P (consOf pf sig) (callOf cr) b pre ms tl k false u m σ
  | 0, u, m, σ, h => by
    simp only [nHoR] at h
    simp only [execN]
    split at h
    · rename_i h1 h2
      injection h with h; subst h
      refine lateR_sound ?_ h1
      rw [h2]
      exact hk
    · cases h
  | k + 1, u, m, σ, h => by
    simp only [nHoR] at h
    simp only [execN, normSt_eq]
    split at h
    · rename_i h1
      refine lateR_sound ?_ h1
      split at h
      · rename_i h2
        injection h with h; subst h
        rw [h2]
        exact hk
      · rename_i c h2
        rw [h2]
        show allB _ _
        split at h
        · rename_i x hx
          rw [hx]
          show opS P _ _ x.2 σ _
          split at h
          · rename_i σ' ho
            refine opR_sound ho ?_
            split at h
            · rename_i σ1 hr
              exact runUR_sound (nHoR_sound hk k _ _ σ1 h) _ _ _ hr
            · cases h
          · cases h
        · cases h
    · cases h
theorem hoistR_sound {ops : Array Oper} {σ σ' : St} {Q : Exit → St → Prop} (h : hoistR P sig pf cr ops σ = some σ') (hq : Q .normal σ') : execH P (consOf pf sig) (callOf cr) ops σ (regK Q) := by
  unfold hoistR hoistG at h
  unfold execH
  simp only [normSt_eq]
  split at h
  · rename_i hc
    simp only [hc]
    split at h
    · rename_i σ1 h1
      refine runUR_sound ?_ _ _ _ h1
      split at h
      · rename_i σ2 h2
        exact nHoR_sound (seqR_sound _ _ _ (regK Q) h hq) _ _ _ _ h2
      · cases h
    · cases h
  · cases h

theorem sigSl_eq : sigSl sig = retSl (consOf pf sig) := by
  funext g
  unfold sigSl retSl
  rw [consOf_find]
  cases sig.find g <;> rfl

theorem cons_dup {sig : Sig} (h : (consOf pf sig).ok P G) : (consOf pf (dupSig sig)).ok P G := by
  cases sig with
  | nil => exact h
  | cons x r => exact ⟨h.1, h⟩

theorem gcR_sound {C : Ctx} {ρ : Nat → Nat} {σ : St} {a : Act} {w : World} (n1 : Nat) (hs : SRel C ρ σ a w) : SRel C ρ (gcR n1 σ) a w ∧ (∀ n, Fr C n ρ σ.H w ρ (gcR n1 σ).H w) ∧ (gcR n1 σ).next = σ.next := by
  unfold gcR
  split
  · obtain ⟨h1, h2, h3⟩ := hs.m.keepP (keepP n1 (markR σ.H n1 100000 (rootsR n1 σ.H (keysOf 10000 (σ.slots.map (·.2)) [])) []))
    exact ⟨hs.keepTo h1 h2 (h3 0).data (Nat.le_refl _), h3, rfl⟩
  · exact ⟨hs, fun _ => Fr.refl _ _ _ _ _, rfl⟩

theorem codeR_exec (hG : GMono G) (hmix : P.follows .mixedOrders = true) (hΓ : (consOf pf sig).ok P G) (hcall : CallSat P G (callOf cr)) {fuel : Nat} {rd : Option Nat} : ∀ (c : Code) (σ : St) (e : Exit) (σ' : St) (Q : Exit → St → Prop),
    codeR P sig fuel pf cr rd c σ = some (e, σ') → Q e σ' → exec P G (consOf pf sig) (callOf cr) rd c σ Q
  | .skip, σ, e, σ', Q, h, hq => by simp only [codeR] at h; injection h with h; injection h with h1 h2; subst h1; subst h2; exact hq
  | .region id ops draw, σ, e, σ', Q, h, hq => by
    simp only [codeR] at h
    cases draw with
    | false =>
      simp only at h
      unfold normR at h
      split at h
      · rename_i s hx
        injection h with h; injection h with h1 h2; subst h1; subst h2
        exact seqR_sound _ _ _ (regK Q) hx hq
      · split at h
        · rename_i x hx
          obtain ⟨ch, s⟩ := x
          injection h with h; injection h with h1 h2; subst h1; subst h2
          exact seqP_sound _ _ _ _ (regK Q) hx hq
        · cases h
    | true =>
      simp only at h
      unfold normR at h
      split at h
      · rename_i s hx
        injection h with h; injection h with h1 h2; subst h1; subst h2
        unfold drawX at hx
        split at hx
        · rename_i s' hy
          injection hx with hx
          subst hx
          rw [sigSl_eq (pf := pf)] at hy
          exact Or.inl (drawR_sound (K := regK Q) hy hq)
        · split at hx
          · rename_i s' hy
            injection hx with hx
            subst hx
            rw [sigSl_eq (pf := pf)] at hy
            exact Or.inr (exec_sound hG hmix (cons_dup hΓ) hcall (.region id ops true) σ Q (Or.inl (drawR_sound (K := regK Q) hy hq)))
          · split at hx
            · rename_i s' hy
              injection hx with hx
              subst hx
              exact Or.inr (sat_hoist hG hmix hΓ hcall (hoistR_sound (Q := Q) hy hq))
            · obtain ⟨g1, g2⟩ := anyR_sound (Q := Q) hx hq
              exact Or.inr (sat_any hG hmix hΓ hcall g1 g2)
      · split at h
        · rename_i x hx
          obtain ⟨ch, s⟩ := x
          injection h with h; injection h with h1 h2; subst h1; subst h2
          rw [sigSl_eq (pf := pf)] at hx
          exact Or.inl (drawP_sound (K := regK Q) hx hq)
        · cases h
  | .seq x y, σ, e, σ', Q, h, hq => by
    simp only [codeR] at h
    simp only [exec]
    cases hx : codeR P sig fuel pf cr rd x σ with
    | none => rw [hx] at h; cases h
    | some p =>
      obtain ⟨e1, σ1⟩ := p
      rw [hx] at h
      refine codeR_exec hG hmix hΓ hcall x σ e1 σ1 _ hx ?_
      cases e1 with
      | normal => exact codeR_exec hG hmix hΓ hcall y σ1 e σ' Q h hq
      | _ => injection h with h; injection h with h1 h2; subst h1; subst h2; exact hq
  | .cond c x y, σ, e, σ', Q, h, hq => by
    simp only [codeR] at h
    simp only [exec]
    split at h
    · rename_i b hb
      simp only [hb]
      cases b with
      | true => exact codeR_exec hG hmix hΓ hcall x σ e σ' Q h hq
      | false => exact codeR_exec hG hmix hΓ hcall y σ e σ' Q h hq
    · cases h
  | .block id c, σ, e, σ', Q, h, hq => by
    simp only [codeR] at h
    simp only [exec]
    cases hx : codeR P sig fuel pf cr rd c σ with
    | none => rw [hx] at h; cases h
    | some p =>
      obtain ⟨e1, σ1⟩ := p
      rw [hx] at h
      refine codeR_exec hG hmix hΓ hcall c σ e1 σ1 _ hx ?_
      cases e1 with
      | exit j =>
        simp only [blockR] at h
        simp only [blockQ]
        split at h
        · rename_i hb
          injection h with h; injection h with h1 h2; subst h1; subst h2
          simp only [hb]; exact hq
        · rename_i hb
          injection h with h; injection h with h1 h2; subst h1; subst h2
          simp only [hb]; exact hq
      | _ => injection h with h; injection h with h1 h2; subst h1; subst h2; exact hq
  | .loop c, σ, e, σ', Q, h, hq => by
    simp only [codeR] at h
    simp only [exec]
    refine ⟨fun C hC ρ a w hs rnd hrd => ?_⟩
    refine wp_loop_ix (ι := Nat × St) (fun i a' w' => ∃ ρ', loopN σ.next (codeR P sig fuel pf cr rd c) i.1 i.2 = some (e, σ') ∧ SRel C ρ' i.2 a' w' ∧ Fr C σ.next ρ σ.H w ρ' i.2.H w' ∧ σ.next ≤ i.2.next) (fun i => i.1) ?_ (fuel, σ) a w ⟨ρ, h, hs, Fr.refl _ _ _ _ _, Nat.le_refl _⟩
    rintro ⟨n, s⟩ a' w' ⟨ρ', h1, h2, h3, h4⟩
    cases n with
    | zero => cases h1
    | succ n =>
      simp only [loopN] at h1
      cases hx : codeR P sig fuel pf cr rd c s with
      | none => rw [hx] at h1; cases h1
      | some p =>
        obtain ⟨e1, s1⟩ := p
        rw [hx] at h1
        have hex := codeR_exec hG hmix hΓ hcall c s e1 s1 (fun e2 s2 => e2 = e1 ∧ s2 = s1) hx ⟨rfl, rfl⟩
        refine wpIn_mono (exec_sound hG hmix hΓ hcall c s _ hex C hC ρ' a' w' h2 rnd (hrd.fr h3 h4)) ?_
        rintro e2 a2 w2 ⟨ρ2, σ2, ⟨k1, k2⟩, k3, k4, k5⟩
        subst k1; subst k2
        have k4' : Fr C s.next ρ' s.H w' ρ2 σ2.H w2 := k4
        have k5' : s.next ≤ σ2.next := k5
        have hfr := h3.trans h4 k4'
        have hle : σ.next ≤ σ2.next := Nat.le_trans h4 k5'
        cases e2 with
        | normal =>
          obtain ⟨m1, m2, m3⟩ := gcR_sound σ.next k3
          exact ⟨(n, gcR σ.next σ2), ⟨ρ2, h1, m1, hfr.trans (Nat.le_refl _) (m2 _), by rw [m3]; exact hle⟩, Nat.lt_succ_self _⟩
        | _ => injection h1 with h1; injection h1 with g1 g2; subst g1; subst g2; exact ⟨ρ2, _, hq, k3, hfr, hle⟩
  | .exit id, σ, e, σ', Q, h, hq => by simp only [codeR] at h; injection h with h; injection h with h1 h2; subst h1; subst h2; exact hq
  | .ret, σ, e, σ', Q, h, hq => by simp only [codeR] at h; injection h with h; injection h with h1 h2; subst h1; subst h2; exact hq
  | .label l, σ, e, σ', Q, h, hq => by simp only [codeR] at h; injection h with h; injection h with h1 h2; subst h1; subst h2; exact hq
  | .scope c, σ, e, σ', Q, h, hq => by
    simp only [codeR] at h
    simp only [exec]
    cases hx : codeR P sig fuel pf cr rd c σ with
    | none => rw [hx] at h; cases h
    | some p =>
      obtain ⟨e1, σ1⟩ := p
      rw [hx] at h
      refine codeR_exec hG hmix hΓ hcall c σ e1 σ1 _ hx ?_
      cases e1 with
      | goto l => cases h
      | _ => injection h with h; injection h with h1 h2; subst h1; subst h2; exact hq
  | .rangeFunc g ps assign body, σ, e, σ', Q, h, hq => by
    simp only [codeR] at h
    simp only [exec]
    have key : ∀ f first caps, rangeR σ σ.next (cr (.fn f) (first ++ .yld σ.next :: caps) (σ.lay σ.next ps assign body) (σ.next + 1)) = some (e, σ') → callOf cr (.fn f) (first ++ .yld σ.next :: caps) (σ.lay σ.next ps assign body) (σ.next + 1) (rangeQ σ σ.next Q) := by
      intro f first caps h
      cases hx : cr (.fn f) (first ++ .yld σ.next :: caps) (σ.lay σ.next ps assign body) (σ.next + 1) with
      | none => rw [hx] at h; cases h
      | some x =>
        rw [hx] at h
        refine ⟨x, hx, ?_⟩
        simp only [rangeR] at h
        unfold rangeQ
        split at h
        · cases h
        rename_i hpn
        simp only [hpn]
        split at h
        · rename_i r hr
          simp only [hr]
          split at h
          · cases h
          · rename_i ex h1 h2
            injection h with h; injection h with g1 g2; subst g1; subst g2
            split
            · rename_i hst; exact (h2 hst).elim
            · rename_i ex' h4 h3
              rw [h1] at h4
              injection h4 with h4
              subst h4
              exact hq
            · rename_i h4 h3; rw [h1] at h4; cases h4
          · cases h
        · cases h
    split at h
    · rename_i f first caps hf
      simp only [hf]
      split at h
      · exact key f first caps h
      · rename_i l0
        split at h
        · rename_i r hr
          simp only [hr]
          exact key f first caps h
        · cases h
    · cases h
  | .goto _, _, _, _, _, h, _ => by cases h
  | .refuse _, _, _, _, _, h, _ => by cases h

theorem closR_sound (hG : GMono G) (hmix : P.follows .mixedOrders = true) (hΓ : (consOf pf sig).ok P G) (hcall : CallSat P G (callOf cr)) {fuel : Nat} {g : FuncId} {caps : List AV} {x : AV} {σ σ' : St} {e : Exit} {Q : Exit → St → Prop}
    (h : closR P (seqR P sig pf cr) (codeR P sig fuel pf cr) g caps x σ = some (e, σ')) (hq : Q e σ') : leaveS (fun l => exec P G (consOf pf sig) (callOf cr) (some l)) P (consOf pf sig) (callOf cr) g caps Q x σ := by
  unfold closR at h
  unfold leaveS
  split at h
  case h_2 => cases h
  rename_i c hc
  simp only [hc]
  split at h
  case h_2 => cases h
  rename_i hb
  split at h
  case h_2 => cases h
  rename_i s hs
  refine ⟨hb, seqR_sound _ _ _ _ hs ?_⟩
  show exec P G (consOf pf sig) (callOf cr) (some σ.next) c.B s _
  unfold backR at h
  split at h
  case h_3 => cases h
  · rename_i s2 hcd
    injection h with h; injection h with h1 h2; subst h1; subst h2
    exact codeR_exec hG hmix hΓ hcall c.B s _ _ _ hcd ⟨Or.inl rfl, hq⟩
  · rename_i s2 hcd
    injection h with h; injection h with h1 h2; subst h1; subst h2
    exact codeR_exec hG hmix hΓ hcall c.B s _ _ _ hcd ⟨Or.inr rfl, hq⟩

theorem wayR_sound (hG : GMono G) (hmix : P.follows .mixedOrders = true) (hΓ : (consOf pf sig).ok P G) (hcall : CallSat P G (callOf cr)) {fuel : Nat} {g : FuncId} {caps : List AV} {y : Option (Exit × St)} {σ' : St} {e : Exit} {Q : Exit → St → Prop}
    (h : wayR P (seqR P sig pf cr) (codeR P sig fuel pf cr) g caps y = some (e, σ')) (hq : Q e σ') : ∃ e1 s, y = some (e1, s) ∧ leaveQ (fun l => exec P G (consOf pf sig) (callOf cr) (some l)) P (consOf pf sig) (callOf cr) g caps Q e1 s := by
  unfold wayR at h
  split at h
  · exact ⟨_, _, rfl, closR_sound hG hmix hΓ hcall h hq⟩
  · exact ⟨_, _, rfl, closR_sound hG hmix hΓ hcall h hq⟩
  · split at h
    · rename_i x hx
      refine ⟨_, _, rfl, ?_⟩
      exact ofChainP_mk (K := fun x => leaveS (fun l => exec P G (consOf pf sig) (callOf cr) (some l)) P (consOf pf sig) (callOf cr) g caps Q x _) hx (closR_sound hG hmix hΓ hcall h hq)
    · cases h
  · cases h

theorem bodyR_exec (hG : GMono G) (hmix : P.follows .mixedOrders = true) (hΓ : (consOf pf sig).ok P G) (hcall : CallSat P G (callOf cr)) {fuel : Nat} (c : Code) (σ : St) (e : Exit) (σ' : St) (Q : Exit → St → Prop)
    (h : bodyR P sig fuel pf cr c σ = some (e, σ')) (hq : Q e σ') : execB P G (consOf pf sig) (callOf cr) c σ Q := by
  unfold bodyR bodyX at h
  split at h
  · rename_i d hd
    refine Or.inr ⟨d, hd, ?_⟩
    unfold defR at h
    split at h
    case h_2 => cases h
    rename_i s1 h1
    split at h
    case h_2 => cases h
    rename_i s2 h2
    refine seqR_sound _ _ _ _ h1 (seqR_sound _ _ _ _ h2 ?_)
    show restS (fun _ => exec P G (consOf pf sig) (callOf cr) none) (fun l => exec P G (consOf pf sig) (callOf cr) (some l)) P (consOf pf sig) (callOf cr) d Q s2
    unfold restR at h
    unfold restS
    split at h
    case h_2 => cases h
    rename_i g first caps hf
    split at h
    case h_2 => cases h
    simp only [hf]
    obtain ⟨e1, s3, h3, h4⟩ := wayR_sound hG hmix hΓ hcall h hq
    exact codeR_exec hG hmix hΓ hcall d.rest _ e1 s3 _ h3 h4
  · exact Or.inl (codeR_exec hG hmix hΓ hcall c σ e σ' Q h hq)

theorem retR_sound {fn : Func} {x : Option (Exit × St)} {l : List AV} {σ : St} {K : List AV → St → Prop} (h : retR P fn x = some (l, σ)) (hk : K l σ) : ∃ e, x = some (e, σ) ∧ retQ P fn K e σ := by
  unfold retR at h
  split at h
  · rename_i s
    split at h
    · rename_i l' hl
      injection h with h; injection h with h1 h2; subst h1; subst h2
      exact ⟨_, rfl, T.holds_toO hl hk⟩
    · cases h
  · rename_i s
    split at h
    · rename_i l' hl
      injection h with h; injection h with h1 h2; subst h1; subst h2
      exact ⟨_, rfl, T.holds_toO hl hk⟩
    · cases h
  · cases h

/-- A function on data. -/
theorem pureR_ok (hG : GMono G) (hmix : P.follows .mixedOrders = true) (hΓ : (consOf pf sig).ok P G) (hcall : CallSat P G (callOf cr)) {fuel : Nat} : PureOk P G (pureR P sig fuel pf cr) := by
  intro f A R x y h
  unfold pureR at h
  split at h
  · rename_i fn hf
    split at h
    · rename_i code hb
      split at h
      · rename_i hc
        rw [Bool.and_eq_true] at hc
        split at h
        · rename_i l σ hr
          refine con_of_body hf hb hc.1 _ rfl ?_ ?_
          · intro z hz
            have hz' : z = x := hz
            rw [hz']; exact hc.2
          · intro z _ hz
            have hz' : z = x := hz
            rw [hz']
            have hfin : finQ R y l σ := by
              unfold finQ
              rw [h]
            obtain ⟨e, h1, h2⟩ := retR_sound (K := finQ R y) hr hfin
            exact body_sound hG hmix hΓ hcall (bodyR_exec hG hmix hΓ hcall code _ e σ _ h1 h2)
        · cases h
      · cases h
    · cases h
  · cases h

/-- A call's own blocks are dropped behind it. -/
theorem MRel.leave {C : Ctx} {ρ : Nat → Nat} {H : Heap} {next : Nat} {w : World} (hm : MRel C ρ H next w) (n : Nat) :
    MRel C ρ (H.keep (fun k => Nat.blt k n) dead) n w ∧ ∀ x v, VR C ρ H w x v → VR C ρ (H.keep (fun k => Nat.blt k n) dead) w (x.map (fun k => Nat.blt k n) dead) v := by
  have hv : ∀ x v, VR C ρ H w x v → VR C ρ (H.keep (fun k => Nat.blt k n) dead) w (x.map (fun k => Nat.blt k n) dead) v := fun x v h =>
    VR.map (fun b hb => ⟨hb.keep, rfl⟩) (fun k hk hp => ⟨Heap.keys_keep.2 ⟨hp, hk⟩, rfl⟩) (fun k e t l hk hp => ⟨l, Heap.mem_keep.2 ⟨hp, _, hk, rfl⟩, Nat.le_refl _, fun c fr hc => ⟨c, fr, hc, rfl⟩⟩) (fun _ _ _ _ _ _ => .no) h
  have hd : ∀ b, Ok C ρ H w b → Ok C ρ (H.keep (fun k => Nat.blt k n) dead) w b ∧ w.heap[b]? = w.heap[b]? := fun b hb => ⟨hb.keep, rfl⟩
  refine ⟨⟨hm.below, Heap.nodup_keep hm.nodup, fun k hk => Nat.le_of_ble_eq_true (Heap.keys_keep.1 hk).1, fun k hk k' hk' => hm.inj k (Heap.keys_keep.1 hk).2 k' (Heap.keys_keep.1 hk').2, fun k hk => hm.low k (Heap.keys_keep.1 hk).2, fun k b hb => ?_⟩, hv⟩
  obtain ⟨_, b', hb', rfl⟩ := Heap.mem_keep.1 hb
  have hbr := hm.mem k b' hb'
  cases b' with
  | vars e cells =>
    obtain ⟨c, g1, g2, g3⟩ := hbr
    exact ⟨c, g1, VRs.map hv g2, g3⟩
  | row e t l =>
    obtain ⟨c, g1, g2, g3, g4, g5⟩ := hbr
    exact ⟨c, g1, g2, g3, RdL.mono (fun x cs => Rd.mono hd t x cs) _ _ g4, g5⟩
  | loop r =>
    obtain ⟨fn, tmps, d, g1, g2, g3⟩ := hbr
    exact ⟨fn, tmps, d, g1, g2, fun t => by show VR C ρ _ w (look (mapSlots _ _ r.slots) t) _; rw [look_map]; exact hv _ _ (g3 t)⟩
  | dic k l => obtain ⟨es, n, g1, g2⟩ := hbr; exact ⟨es, n, g1, g2.map hv⟩
  | any => exact hbr

theorem CallEnd.leave {C : Ctx} {ρ : Nat → Nat} {H : Heap} {next : Nat} {w : World} {r0 : AV} {H0 : Heap} {n0 : Nat} {K : AV → Heap → Nat → Prop} {e : Ending} {w' : World}
    (hk : K (leaveR next r0 H0 n0).1 (leaveR next r0 H0 n0).2.1 (leaveR next r0 H0 n0).2.2) (hp : isPan r0 = none) (hp2 : isPan (leaveR next r0 H0 n0).1 = none) (h : CallEnd C ρ H next w (fun r H' n' => r = r0 ∧ H' = H0 ∧ n' = n0) e w') : CallEnd C ρ H next w K e w' := by
  obtain ⟨ρ', r, H', n', ⟨rfl, rfl, rfl⟩, h3, h5, h6, hend⟩ := h
  rcases hend with ⟨v, h1, _, h4⟩ | ⟨x, ch, rfl, _, _⟩
  case inr => cases hp
  unfold leaveR at hk hp2
  split at hk
  · exact ⟨ρ', _, _, _, hk, h3, h5, h6, Or.inl ⟨v, h1, hp, h4⟩⟩
  · rename_i hb
    simp only [hb] at hp2
    obtain ⟨g1, g2⟩ := h3.leave next
    refine ⟨ρ', _, _, _, hk, g1, ?_, Nat.le_refl _, Or.inl ⟨v, h1, hp2, g2 _ _ h4⟩⟩
    refine ⟨fun b hb => ?_, fun k hk hkm => h5.keys k hk (Heap.keys_keep.1 hkm).2, fun k e t l hk hkm hkn => ?_, h5.size⟩
    · obtain ⟨c1, c2⟩ := h5.data b hb
      exact ⟨c1.keep, c2⟩
    · obtain ⟨c1, c2⟩ := Heap.keys_keep.1 hkn
      obtain ⟨l', d1, d2, d3⟩ := h5.rows k e t l hk hkm c2
      exact ⟨l', Heap.mem_keep.2 ⟨c1, _, d1, rfl⟩, d2, d3⟩

/-- A call that is entered. -/
theorem enterR_sat (hG : GMono G) (hmix : P.follows .mixedOrders = true) (hΓ : (consOf pf sig).ok P G) (hcall : CallSat P G (callOf cr)) {fuel : Nat} : CallSat P G (callOf (enterR P sig fuel pf cr)) := by
  have hS := callS_sat hG hmix hΓ hcall
  refine ⟨fun f args H next K h C ρ w vs hC hm hv => ?_, fun l args H next K h C ρ w vs hC hm hv => ?_⟩
  · obtain ⟨x, hx, hk⟩ := h
    simp only [enterR] at hx
    split at hx
    · rename_i fn hf
      split at hx
      · rename_i code hb
        split at hx
        · rename_i hc
          rw [Bool.and_eq_true] at hc
          unfold endR at hx
          split at hx
          · rename_i ch σ hcode
            split at hx
            · rename_i y hy
              injection hx with hx
              subst hx
              have hcs : callS P G (consOf pf sig) (callOf cr) (.fn f) args H next K := by
                simp only [callS, callX, hf, hb]
                refine ⟨hc.1, hc.2, bodyR_exec hG hmix hΓ hcall code _ _ σ _ hcode ?_⟩
                exact ofChainP_mk (K := fun x => K (panE x) σ.H σ.next) hy hk
              exact hS.fn f args H next _ hcs C ρ w vs hC hm hv
            · cases hx
          · split at hx
            · rename_i l σ hr
              split at hx
              · rename_i hp1 hp2
                injection hx with hx
                subst hx
                obtain ⟨e, h1, h2⟩ := retR_sound (K := callQ fun r H' n' => r = resAV l ∧ H' = σ.H ∧ n' = σ.next) hr (by unfold callQ; simp [hp1])
                have hcs : callS P G (consOf pf sig) (callOf cr) (.fn f) args H next fun r H' n' => r = resAV l ∧ H' = σ.H ∧ n' = σ.next := by
                  simp only [callS, callX, hf, hb]
                  refine ⟨hc.1, hc.2, bodyR_exec hG hmix hΓ hcall code _ e σ _ h1 ?_⟩
                  cases e <;> first | exact h2 | exact h2.elim
                obtain ⟨g1, g2⟩ := hS.fn f args H next _ hcs C ρ w vs hC hm hv
                exact ⟨g1, g2.mono fun e w' hce => hce.leave hk hp1 hp2⟩
              · cases hx
            · cases hx
        · cases hx
      · cases hx
    · cases hx
  · obtain ⟨x, hx, hk⟩ := h
    simp only [enterR] at hx
    split at hx
    · rename_i r hfind
      split at hx
      · rename_i hlen
        have hcs : callS P G (consOf pf sig) (callOf cr) (.yld l) args H next K := by
          simp only [callS, callX, hfind, hlen]
          generalize hy : codeR P sig fuel pf cr (some l) r.assign (bindS { slots := r.slots, H := H, next := next, n := r.n } r.ps.toList args) = y at hx
          unfold roundR at hx
          split at hx
          · rename_i e σ he
            unfold beginR at he
            split at he
            · rename_i σ1
              refine codeR_exec hG hmix hΓ hcall r.assign _ .normal σ1 _ hy ?_
              simp only [bodyQ]
              split at he
              · rename_i r1 hr1
                simp only [hr1]
                split at he
                · rename_i hst
                  simp only [hst]
                  refine codeR_exec hG hmix hΓ hcall r.body _ e σ _ he ?_
                  unfold endQ
                  split at hx
                  · rename_i j hj
                    simp only [hj]
                    split at hx
                    · rename_i r2 hr2
                      injection hx with hx
                      subst hx
                      simp only [hr2]
                      exact hk
                    · cases hx
                  · cases hx
                · cases he
              · cases he
            · cases he
          · cases hx
        exact hS.yld l args H next K hcs C ρ w vs hC hm hv
      · cases hx
    · cases hx

theorem firstR_ok {ext pf : PureT} (h1 : PureOk P G ext) (h2 : PureOk P G pf) : PureOk P G (firstR ext pf) := by
  intro f A R x y h
  unfold firstR at h
  split at h
  · rename_i z hz
    injection h with h
    subst h
    exact h1 f A R x _ hz
  · exact h2 f A R x y h

/-- The runner, to any depth. -/
theorem runD_ok (hG : GMono G) (hmix : P.follows .mixedOrders = true) {ext : PureT} (hext : PureOk P G ext) (hsig : ∀ x ∈ sig, enters P x.1 = true) (fuel : Nat) : ∀ d, PureOk P G (pureD P sig fuel ext d) ∧ CallSat P G (callOf (enterD P sig fuel ext d))
  | 0 => by
    refine ⟨by simp only [pureD]; exact hext, ?_⟩
    simp only [enterD]
    refine ⟨fun f args H next K h => ?_, fun l args H next K h => ?_⟩
    · obtain ⟨x, hx, _⟩ := h; cases hx
    · obtain ⟨x, hx, _⟩ := h; cases hx
  | d + 1 => by
    obtain ⟨h1, h2⟩ := runD_ok hG hmix hext hsig fuel d
    have hΓ := consOf_ok h1 sig hsig
    exact ⟨by simp only [pureD]; exact firstR_ok hext (pureR_ok hG hmix hΓ h2), by simp only [enterD]; exact enterR_sat hG hmix hΓ h2⟩

end
end Go.Vg
