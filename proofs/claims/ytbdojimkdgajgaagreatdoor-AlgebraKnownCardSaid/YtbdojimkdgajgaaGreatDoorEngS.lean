/-
  The engine, part S: a region whose operations may run in more than one order comes to what it comes to in the order of the text. Own work; no condition.
-/
import Derived.Test.YtbdojimkdgajgaaGreatDoorEngR
namespace Go.Vg
open Go Go.RowKit

def upS (nt : Nat) (f : Nat → AV) (dst : Option Nat) (x : AV) : Nat → AV := fun t =>
  match dst with
  | some d => if d = t ∧ d < nt then x else f t
  | none => f t

theorem look_put (σ : St) (dst : Option Nat) (x : AV) : look (σ.put dst x).slots = upS σ.n (look σ.slots) dst x := by
  funext t
  unfold St.put upS
  cases dst with
  | none => rfl
  | some d =>
    simp only
    cases hb : Nat.blt d σ.n with
    | true =>
      have hlt : d < σ.n := Nat.le_of_ble_eq_true hb
      simp only [look]
      cases hu : Nat.beq d t with
      | true => have := beq_true hu; subst this; simp [hlt]
      | false => have hne := beq_false hu; simp only; rw [look_del_ne hne, if_neg (fun h => hne h.1)]
    | false =>
      have hge : ¬ d < σ.n := fun hlt => by simp [Nat.blt, Nat.ble_eq_true_of_le hlt] at hb
      simp only
      rw [if_neg (fun h => hge h.2)]

theorem upS_self {nt : Nat} {f : Nat → AV} {t : Nat} {x : AV} (h : f t = x) : upS nt f (some t) x = f := by
  funext u
  simp only [upS]
  split
  · rename_i hc; rw [← hc.1]; exact h.symm
  · rfl

def evalF (f : Nat → AV) : Operand → AV
  | .tmp t => f t
  | .const v => constAg v
  | .func f => .fn f [] []
  | .global _ => .no

theorem eval_evalF (σ : St) : σ.eval = evalF (look σ.slots) := by funext x; cases x <;> rfl

def Wanted (ops : Array Oper) (f : Nat → AV) (o : Oper) : Prop :=
  o.guard = none ∨ ∃ j want t, o.guard = some (j, want) ∧ guardSlot ops j = some t ∧ f t = .d .bool want
def Unwanted (ops : Array Oper) (f : Nat → AV) (o : Oper) : Prop :=
  ∃ j want t, o.guard = some (j, want) ∧ guardSlot ops j = some t ∧ (f t = .d .bool (!want) ∨ f t = .und)

def StepF (P : Program) (Γ : Cons) (ops : Array Oper) (sk : List (Nat × Nat)) (Hs Hx : Heap) (K : Nat) (f : Nat → AV) (o : Oper) : Out → Prop
  | .ran r new => Wanted ops f o ∧ (skHas sk K = false ∧ (evM P Γ K Hx (evalF f) o).Leaf (r, new) ∨ ∃ e zs, o.op = .alloc e ∧ zeroAVs P e = some zs ∧ r = .ptr K 0 ∧ new = [(K, .any)])
  | .skip => Unwanted ops f o
  | .st k b => Wanted ops f o ∧ skGet sk K = some k ∧ ∃ t a x, o.op = .store t a x ∧ (stB P Hs k t (evalF f a) (evalF f x)).Leaf b

theorem evS_step {P : Program} {Γ : Cons} {ops : Array Oper} {sk : List (Nat × Nat)} {Hs Hx : Heap} {K : Nat} {f : Nat → AV} {o : Oper} {u : Out} (hw : Wanted ops f o) (h : (evS P Γ sk Hs K Hx (evalF f) o).Leaf u) : StepF P Γ ops sk Hs Hx K f o u := by
  unfold evS at h
  split at h
  · rename_i t a x ho
    split at h
    · rename_i k hk
      obtain ⟨b, h1, h2⟩ := T.Leaf.bind h
      cases h2
      exact ⟨hw, hk, t, a, x, ho, h1⟩
    · cases h
  · split at h
    · rename_i hk
      obtain ⟨y, h1, h2⟩ := T.Leaf.bind h
      cases h2
      exact ⟨hw, Or.inl ⟨hk, h1⟩⟩
    · split at h
      · rename_i e ho
        split at h
        · rename_i zs hz
          cases h
          exact ⟨hw, Or.inr ⟨e, zs, ho, hz, rfl, rfl⟩⟩
        · cases h
      · cases h

inductive Tr (P : Program) (Γ : Cons) (ops : Array Oper) (sk : List (Nat × Nat)) (Hs : Heap) (H0 : Nat → Heap → Heap) (nt : Nat) : List Oper → Nat → Heap → (Nat → AV) → List Out → (Nat → AV) → Prop where
  | nil {K : Nat} {N : Heap} {f : Nat → AV} : Tr P Γ ops sk Hs H0 nt [] K N f [] f
  | cons {K : Nat} {N : Heap} {f f' : Nat → AV} {o : Oper} {rest : List Oper} {u : Out} {us : List Out} (h : StepF P Γ ops sk Hs (H0 K N) K f o u) (ht : Tr P Γ ops sk Hs H0 nt rest (K + 1) (u.new ++ N) (upS nt f o.dst u.av) us f') :
      Tr P Γ ops sk Hs H0 nt (o :: rest) K N f (u :: us) f'

section
variable {C : Ctx} {P : Program} {G : World → Prop} {Γ : Cons} {ops : Array Oper} {sk : List (Nat × Nat)} {Hs : Heap} {H0 : Nat → Heap → Heap} {nt : Nat}

theorem preT_trace : ∀ (l : List Oper) (K : Nat) (σ : St) (s : List (Nat × Bk)) (y : St × List (Nat × Bk)), (preT P Γ ops sk Hs H0 l K σ s).Leaf y →
    ∃ us : List Out, Tr P Γ ops sk Hs H0 σ.n l K σ.H (look σ.slots) us (look y.1.slots) ∧ (∀ x, x ∈ y.1.H ↔ x ∈ σ.H ∨ ∃ (j : Nat) (u : Out), us[j]? = some u ∧ x ∈ u.new) ∧ y.1.next = σ.next ∧ y.1.n = σ.n ∧
      ∀ x, x ∈ y.2 ↔ x ∈ s ∨ ∃ (j : Nat) (u : Out), us[j]? = some u ∧ x ∈ u.sts
  | [], K, σ, s, y, h => by
    cases h
    exact ⟨[], .nil, by simp, rfl, rfl, by simp⟩
  | o :: rest, K, σ, s, y, h => by
    have key : ∀ (σ1 : St) (u : Out), look σ1.slots = look σ.slots → σ1.H = σ.H → σ1.next = σ.next → σ1.n = σ.n → StepF P Γ ops sk Hs (H0 K σ.H) K (look σ.slots) o u → (preT P Γ ops sk Hs H0 rest (K + 1) (σ1.step o u) (u.sts ++ s)).Leaf y →
        ∃ us : List Out, Tr P Γ ops sk Hs H0 σ.n (o :: rest) K σ.H (look σ.slots) us (look y.1.slots) ∧ (∀ x, x ∈ y.1.H ↔ x ∈ σ.H ∨ ∃ (j : Nat) (u : Out), us[j]? = some u ∧ x ∈ u.new) ∧ y.1.next = σ.next ∧ y.1.n = σ.n ∧
          ∀ x, x ∈ y.2 ↔ x ∈ s ∨ ∃ (j : Nat) (u : Out), us[j]? = some u ∧ x ∈ u.sts := by
      intro σ1 u e1 e2 e3 e4 hst hl
      obtain ⟨us, h1, h2, h3, h4, h5⟩ := preT_trace rest (K + 1) _ _ y hl
      have hn : (σ1.step o u).n = σ1.n := by unfold St.step St.put; split <;> (try split) <;> rfl
      have hs : look (σ1.step o u).slots = upS σ.n (look σ.slots) o.dst u.av := by
        unfold St.step; rw [look_put]; simp only [e1, e4]
      have hH : (σ1.step o u).H = u.new ++ σ.H := by unfold St.step; rw [St.put_H]; simp only [e2]
      have hnx : (σ1.step o u).next = σ.next := by unfold St.step; rw [St.put_next]; exact e3
      rw [hn, hs, e4, hH] at h1
      refine ⟨u :: us, .cons hst h1, fun x => ?_, by rw [h3, hnx], by rw [h4, hn, e4], fun x => ?_⟩
      · rw [h2, hH, List.mem_append]
        constructor
        · rintro ((hx | hx) | ⟨j, v, hj, hx⟩)
          · exact Or.inr ⟨0, u, rfl, hx⟩
          · exact Or.inl hx
          · exact Or.inr ⟨j + 1, v, by simpa using hj, hx⟩
        · rintro (hx | ⟨j, v, hj, hx⟩)
          · exact Or.inl (Or.inr hx)
          · cases j with
            | zero => simp at hj; subst hj; exact Or.inl (Or.inl hx)
            | succ j => exact Or.inr ⟨j, v, by simpa using hj, hx⟩
      · rw [h5, List.mem_append]
        constructor
        · rintro ((hx | hx) | ⟨j, v, hj, hx⟩)
          · exact Or.inr ⟨0, u, rfl, hx⟩
          · exact Or.inl hx
          · exact Or.inr ⟨j + 1, v, by simpa using hj, hx⟩
        · rintro (hx | ⟨j, v, hj, hx⟩)
          · exact Or.inl (Or.inr hx)
          · cases j with
            | zero => simp at hj; subst hj; exact Or.inl (Or.inl hx)
            | succ j => exact Or.inr ⟨j, v, by simpa using hj, hx⟩
    simp only [preT] at h
    split at h
    · rename_i hg
      obtain ⟨u, h1, h2⟩ := T.Leaf.bind h
      rw [eval_evalF] at h1
      exact key σ u rfl rfl rfl rfl (evS_step (Or.inl hg) h1) h2
    · rename_i j want hg
      split at h
      · rename_i t ht
        split at h
        · rename_i b hb
          have hr : ∀ b', b = b' → look (σ.put (some t) (.d .bool b')).slots = look σ.slots := fun b' e => by rw [look_put]; exact upS_self (by rw [hb, e])
          have hf : ∀ b', (σ.put (some t) (.d .bool b')).H = σ.H ∧ (σ.put (some t) (.d .bool b')).next = σ.next ∧ (σ.put (some t) (.d .bool b')).n = σ.n := fun b' => ⟨St.put_H _ _ _, St.put_next _ _ _, by unfold St.put; simp only; split <;> rfl⟩
          cases h with
          | t h =>
            cases want with
            | true =>
              obtain ⟨u, h1, h2⟩ := T.Leaf.bind h
              rw [eval_evalF, hr true rfl] at h1
              exact key _ u (hr true rfl) (hf true).1 (hf true).2.1 (hf true).2.2 (evS_step (Or.inr ⟨j, true, t, hg, ht, hb⟩) h1) h2
            | false => exact key _ .skip (hr true rfl) (hf true).1 (hf true).2.1 (hf true).2.2 ⟨j, false, t, hg, ht, Or.inl hb⟩ h
          | f h =>
            cases want with
            | true => exact key _ .skip (hr false rfl) (hf false).1 (hf false).2.1 (hf false).2.2 ⟨j, true, t, hg, ht, Or.inl hb⟩ h
            | false =>
              obtain ⟨u, h1, h2⟩ := T.Leaf.bind h
              rw [eval_evalF, hr false rfl] at h1
              exact key _ u (hr false rfl) (hf false).1 (hf false).2.1 (hf false).2.2 (evS_step (Or.inr ⟨j, false, t, hg, ht, hb⟩) h1) h2
        · rename_i hb
          exact key σ .skip rfl rfl rfl rfl ⟨j, want, t, hg, ht, Or.inr hb⟩ h
        · cases h
      · cases h

theorem Tr.length {l : List Oper} {K : Nat} {N : Heap} {f f' : Nat → AV} {us : List Out} (h : Tr P Γ ops sk Hs H0 nt l K N f us f') : us.length = l.length := by
  induction h with
  | nil => rfl
  | cons _ _ ih => simp [ih]

theorem Tr.slot {l : List Oper} {K : Nat} {N : Heap} {f f' : Nat → AV} {us : List Out} (h : Tr P Γ ops sk Hs H0 nt l K N f us f') (t : Nat) :
    (∃ (j : Nat) (o : Oper) (u : Out), l[j]? = some o ∧ us[j]? = some u ∧ o.dst = some t ∧ t < nt ∧ f' t = u.av) ∨ ((∀ (j : Nat) (o : Oper), l[j]? = some o → o.dst = some t → ¬ t < nt) ∧ f' t = f t) := by
  induction h with
  | nil => exact Or.inr ⟨by simp, rfl⟩
  | @cons K N f f' o rest u us h _ ih =>
    rcases ih with ⟨j, o', u', h1, h2, h3, h4, h5⟩ | ⟨h1, h2⟩
    · exact Or.inl ⟨j + 1, o', u', by simpa using h1, by simpa using h2, h3, h4, h5⟩
    · by_cases hd : o.dst = some t ∧ t < nt
      · refine Or.inl ⟨0, o, u, rfl, rfl, hd.1, hd.2, ?_⟩
        rw [h2]
        simp [upS, hd.1, hd.2]
      · refine Or.inr ⟨fun j o' hj ho => ?_, ?_⟩
        · cases j with
          | zero => simp at hj; subst hj; exact fun hlt => hd ⟨ho, hlt⟩
          | succ j => exact h1 j o' (by simpa using hj) ho
        · rw [h2]
          unfold upS
          split
          · rename_i d hd'
            rw [if_neg]
            rintro ⟨rfl, hlt⟩
            exact hd ⟨hd', hlt⟩
          · rfl

theorem Tr.nth {l : List Oper} {K : Nat} {N : Heap} {f f' : Nat → AV} {us : List Out} (h : Tr P Γ ops sk Hs H0 nt l K N f us f') : ∀ {i : Nat} {o : Oper}, l[i]? = some o →
    ∃ u fi Ni, us[i]? = some u ∧ Tr P Γ ops sk Hs H0 nt (l.take i) K N f (us.take i) fi ∧ StepF P Γ ops sk Hs (H0 (K + i) Ni) (K + i) fi o u ∧ ∀ x ∈ Ni, x ∈ N ∨ ∃ (j : Nat) (v : Out), us[j]? = some v ∧ x ∈ v.new := by
  induction h with
  | nil => intro i o hi; simp at hi
  | @cons K N f f' o rest u us h _ ih =>
    intro i o' hi
    cases i with
    | zero => simp at hi; subst hi; exact ⟨u, f, N, rfl, .nil, h, fun x hx => Or.inl hx⟩
    | succ i =>
      obtain ⟨u', fi, Ni, h1, h2, h3, h4⟩ := ih (i := i) (by simpa using hi)
      refine ⟨u', fi, Ni, by simpa using h1, .cons h h2, ?_, fun x hx => ?_⟩
      · rwa [show K + 1 + i = K + (i + 1) by omega] at h3
      · rcases h4 x hx with hx | ⟨j, v, hj, hv⟩
        · rcases List.mem_append.1 hx with hx | hx
          · exact Or.inr ⟨0, u, rfl, hx⟩
          · exact Or.inl hx
        · exact Or.inr ⟨j + 1, v, by simpa using hj, hv⟩

end

theorem chkRead_spec {i : Nat} {o : Oper} {t : Nat} : ∀ {l : List Oper} {k : Nat}, chkRead i o t l k = true → ∀ {j : Nat} {p : Oper}, l[j]? = some p → p.dst = some t → k + j < i ∧ hasEdge o (k + j) = true ∨ i < k + j ∧ hasEdge p i = true
  | [], _, _, j, p, hp, _ => by simp at hp
  | q :: r, k, h, j, p, hp, hd => by
    simp only [chkRead, Bool.and_eq_true] at h
    cases j with
    | zero =>
      simp at hp
      subst hp
      rw [hd] at h
      simp only [Nat.beq_refl, Bool.and_eq_true, Bool.or_eq_true] at h
      rcases h.1 with ⟨h1, h2⟩ | ⟨h1, h2⟩
      · exact Or.inl ⟨Nat.le_of_ble_eq_true h1, h2⟩
      · exact Or.inr ⟨Nat.le_of_ble_eq_true h1, h2⟩
    | succ j =>
      have := chkRead_spec h.2 (j := j) (by simpa using hp) hd
      rwa [show k + 1 + j = k + (j + 1) by omega] at this

theorem chkDst_spec {i d : Nat} : ∀ {l : List Oper} {k : Nat}, chkDst i d l k = true → ∀ {j : Nat} {p : Oper}, l[j]? = some p → p.dst = some d → i = k + j
  | [], _, _, j, p, hp, _ => by simp at hp
  | q :: r, k, h, j, p, hp, hd => by
    simp only [chkDst, Bool.and_eq_true] at h
    cases j with
    | zero =>
      simp at hp
      subst hp
      rw [hd] at h
      simp only [Nat.beq_refl] at h
      exact beq_true h.1
    | succ j =>
      have := chkDst_spec h.2 (j := j) (by simpa using hp) hd
      omega

theorem chkPre_spec {ops : Array Oper} {pre : List Oper} : ∀ {l : List Oper} {k : Nat}, chkPre ops pre l k = true → ∀ {i : Nat} {o : Oper}, l[i]? = some o →
    (∀ t ∈ readsOf ops o, chkRead (k + i) o t pre 0 = true) ∧ (∀ d, o.dst = some d → chkDst (k + i) d pre 0 = true)
  | [], _, _, i, o, ho => by simp at ho
  | q :: r, k, h, i, o, ho => by
    simp only [chkPre, Bool.and_eq_true, List.all_eq_true] at h
    cases i with
    | zero =>
      simp at ho
      subst ho
      refine ⟨fun t ht => h.1.1 t ht, fun d hd => ?_⟩
      rw [hd] at h
      exact h.1.2
    | succ i =>
      have := chkPre_spec h.2 (i := i) (by simpa using ho)
      rwa [show k + 1 + i = k + (i + 1) by omega] at this

theorem chkEdges_spec : ∀ {l : List Oper} {k : Nat}, chkEdges l k = true → ∀ {i : Nat} {o : Oper}, l[i]? = some o → ∀ e ∈ o.after, binding e = true → e.on < k + i
  | [], _, _, i, o, ho => by simp at ho
  | q :: r, k, h, i, o, ho => by
    simp only [chkEdges, Bool.and_eq_true, List.all_eq_true] at h
    cases i with
    | zero =>
      simp at ho
      subst ho
      intro e he hb
      have := h.1 e (by simpa using he)
      rw [hb] at this
      simp at this
      omega
    | succ i =>
      intro e he hb
      have := chkEdges_spec h.2 (i := i) (by simpa using ho) e he hb
      omega

theorem hasEdge_spec {o : Oper} {j : Nat} (h : hasEdge o j = true) : ∃ e ∈ o.after, binding e = true ∧ e.on = j := by
  unfold hasEdge at h
  rw [List.any_eq_true] at h
  obtain ⟨e, he, hb⟩ := h
  simp only [Bool.and_eq_true] at hb
  exact ⟨e, by simpa using he, hb.1, beq_true hb.2⟩

theorem masks_prefix : ∀ (l : List Oper) (acc : List Nat), acc = (masks l acc).take acc.length ∧ (masks l acc).length = acc.length + l.length
  | [], acc => by simp [masks]
  | o :: r, acc => by
    obtain ⟨h1, h2⟩ := masks_prefix r (acc ++ [maskEdges acc o.after.toList])
    simp only [masks]
    refine ⟨?_, by rw [h2]; simp; omega⟩
    have := congrArg (List.take acc.length) h1
    rw [List.take_take] at this
    simp at this
    exact this

theorem masks_nth : ∀ (l : List Oper) (acc : List Nat) (j : Nat) (o : Oper), l[j]? = some o → (masks l acc)[acc.length + j]? = some (maskEdges ((masks l acc).take (acc.length + j)) o.after.toList)
  | [], acc, j, o, h => by simp at h
  | p :: r, acc, j, o, h => by
    simp only [masks]
    cases j with
    | zero =>
      simp at h
      subst h
      obtain ⟨h1, h2⟩ := masks_prefix r (acc ++ [maskEdges acc p.after.toList])
      generalize masks r (acc ++ [maskEdges acc p.after.toList]) = M at *
      have e1 : M.take acc.length = acc := by
        have := congrArg (List.take acc.length) h1
        rw [List.take_take] at this
        simp at this
        exact this.symm
      have e2 : M[acc.length]? = some (maskEdges acc p.after.toList) := by
        have := congrArg (fun l => l[acc.length]?) h1
        simp at this
        exact this.symm
      rw [Nat.add_zero, e1, e2]
    | succ j =>
      have := masks_nth r (acc ++ [maskEdges acc p.after.toList]) j o (by simpa using h)
      rw [List.length_append] at this
      simp only [List.length_cons, List.length_nil] at this
      rwa [show acc.length + (0 + 1) + j = acc.length + (j + 1) by omega] at this

theorem maskEdges_bit {acc : List Nat} {i : Nat} : ∀ {es : List Edge}, (maskEdges acc es).testBit i = true → ∃ e ∈ es, binding e = true ∧ (i = e.on ∨ (acc.getD e.on 0).testBit i = true)
  | [], h => by simp [maskEdges] at h
  | e :: r, h => by
    simp only [maskEdges] at h
    cases hb : binding e with
    | true =>
      rw [hb] at h
      simp only [Nat.testBit_or, Bool.or_eq_true] at h
      rcases h with (h | h) | h
      · rw [Nat.testBit_two_pow] at h
        simp at h
        exact ⟨e, by simp, hb, Or.inl h.symm⟩
      · exact ⟨e, by simp, hb, Or.inr h⟩
      · obtain ⟨e', h1, h2⟩ := maskEdges_bit h
        exact ⟨e', List.mem_cons_of_mem _ h1, h2⟩
    | false =>
      rw [hb] at h
      obtain ⟨e', h1, h2⟩ := maskEdges_bit h
      exact ⟨e', List.mem_cons_of_mem _ h1, h2⟩

/-- What has been carried out is closed under 'comes before'. -/
def Closed (l : List Oper) (ls : Nat → Bool) : Prop := ∀ (j : Nat) (o : Oper), l[j]? = some o → ls j = true → ∀ e ∈ o.after, binding e = true → ls e.on = true

theorem closed_bits {l : List Oper} {ls : Nat → Bool} (hc : Closed l ls) (he : chkEdges l 0 = true) : ∀ (j : Nat) (o : Oper), l[j]? = some o → (∀ e ∈ o.after, binding e = true → ls e.on = true) → ∀ x i, (masks l [])[j]? = some x → x.testBit i = true → ls i = true := by
  intro j
  induction j using Nat.strongRecOn with
  | _ j ih =>
    intro o ho hed x i hx hb
    have hm := masks_nth l [] j o ho
    simp only [List.length_nil, Nat.zero_add] at hm
    rw [hx] at hm
    injection hm with hm
    subst hm
    obtain ⟨e, he1, he2, he3⟩ := maskEdges_bit hb
    have he1' : e ∈ o.after := by simpa using he1
    have hlt := chkEdges_spec he ho e he1' he2
    rw [Nat.zero_add] at hlt
    rcases he3 with rfl | he3
    · exact hed e he1' he2
    · have hjl : j < l.length := (List.getElem?_eq_some_iff.1 ho).1
      have hel : e.on < l.length := by omega
      obtain ⟨p, hp⟩ : ∃ p, l[e.on]? = some p := ⟨l[e.on], by simp [hel]⟩
      have hmx : e.on < (masks l []).length := by rw [(masks_prefix l []).2]; simpa using hel
      have hgx : (masks l [])[e.on]? = some (masks l [])[e.on] := by simp [hmx]
      have hgd : ((masks l []).take j).getD e.on 0 = (masks l [])[e.on] := by
        rw [List.getD_eq_getElem?_getD, List.getElem?_take, if_pos hlt, hgx]; rfl
      rw [hgd] at he3
      exact ih e.on hlt p hp (hc e.on p hp (hed e he1' he2)) _ i hgx he3

theorem chkTail_spec {m : Nat} : ∀ {l : List Nat} {k : Nat}, chkTail m l k = true → ∀ {j x : Nat}, l[j]? = some x → m ≤ k + j → x = 2 ^ (k + j) - 1
  | [], _, _, j, x, hx => by simp at hx
  | y :: r, k, h, j, x, hx => by
    simp only [chkTail, Bool.and_eq_true] at h
    intro hm
    cases j with
    | zero =>
      simp at hx
      subst hx
      rw [Nat.add_zero] at hm ⊢
      rw [Nat.ble_eq_true_of_le hm] at h
      exact beq_true h.1
    | succ j =>
      have := chkTail_spec h.2 (j := j) (by simpa using hx) (by omega)
      rwa [show k + 1 + j = k + (j + 1) by omega] at this

end Go.Vg
