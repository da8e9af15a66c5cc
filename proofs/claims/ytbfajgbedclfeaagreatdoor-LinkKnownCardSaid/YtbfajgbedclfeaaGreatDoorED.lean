/-
  The engine, parts T U V W. Own work; no condition.
-/
import Derived.Test.YtbfajgbedclfeaaGreatDoorEC
namespace Go.Vg
open Go Go.RowKit

def SlotIs (pre : List Oper) (us : List Out) (nt : Nat) (f0 : Nat → AV) (ls : Nat → Bool) (t : Nat) (x : AV) : Prop :=
  (∃ (j : Nat) (o : Oper) (u : Out), pre[j]? = some o ∧ us[j]? = some u ∧ o.dst = some t ∧ t < nt ∧ ls j = true ∧ x = u.av) ∨
  ((∀ (j : Nat) (o : Oper), pre[j]? = some o → o.dst = some t → t < nt → ls j = false) ∧ x = f0 t)

/-- The blocks into which is stored: as they were, or as they have been stored. -/
def SkInv (C : Ctx) (ρ : Nat → Nat) (Hd : Heap) (w : World) (Hs : Heap) (sk : List (Nat × Nat)) (base : Nat) (us : List Out) (ls : Nat → Bool) : Prop :=
  ∀ K k, (K, k) ∈ sk → base ≤ K ∧ ∃ e cells, Hs.find k = some (.vars e cells) ∧ (k ∈ Hd.keys → (k, Bk.any) ∈ Hd ∧
    ((∃ b, us[K - base]? = some (.st k b) ∧ ls (K - base) = true ∧ BkR C ρ Hd w (ρ k) b) ∨
     ((ls (K - base) = false ∨ us[K - base]? = some .skip) ∧ BkR C ρ Hd w (ρ k) (.vars e cells))))

def AInv (C : Ctx) (ρ0 : Nat → Nat) (ws : World) (σ0 : St) (Hs : Heap) (sk : List (Nat × Nat)) (base : Nat) (pre : List Oper) (us : List Out) (ls : Nat → Bool) (a : Act) (w : World) : Prop :=
  ∃ (ρ : Nat → Nat) (Hd : Heap), (∀ x, x ∈ Hd ↔ x ∈ σ0.H ∨ ∃ (j : Nat) (u : Out), us[j]? = some u ∧ ls j = true ∧ x ∈ u.new) ∧ MRel C ρ Hd σ0.next w ∧
    (∀ t x, SlotIs pre us σ0.n (look σ0.slots) ls t x → VR C ρ Hd w x (a.tmps.getD t undef)) ∧ a.tmps.size = σ0.n ∧ Dfs C ρ Hd w a.defers ∧ Ext C ρ0 σ0.H ws ρ Hd w ∧ SkInv C ρ Hd w Hs sk base us ls

def addL (ls : Nat → Bool) (i : Nat) : Nat → Bool := fun j => if j = i then true else ls j

section
variable {C : Ctx} {P : Program} {G : World → Prop} {Γ : Cons} {ops : Array Oper}

theorem up_id {H : Heap} {k : Nat} {b : Bk} (hn : H.keys.Nodup) (h : (k, b) ∈ H) : H.up k b = H := by
  induction H with
  | nil => rfl
  | cons x r ih =>
    obtain ⟨j, y⟩ := x
    have hn' := List.nodup_cons.1 hn
    simp only [Heap.up]
    cases hb : Nat.beq j k with
    | true =>
      have := beq_true hb; subst this
      rcases List.mem_cons.1 h with e | h
      · injection e with _ e; rw [e]
      · exact absurd (mem_keys h) hn'.1
    | false =>
      rcases List.mem_cons.1 h with e | h
      · injection e with e _; exact absurd e.symm (beq_false hb)
      · simp only [ih hn'.2 h]

/-- A store into a block that is not looked at. -/
theorem store_any {ρ : Nat → Nat} {H : Heap} {next : Nat} {w : World} (hm : MRel C ρ H next w) {k off : Nat} {e : TypeId} {cells cs : List AV} {n : Nat} {t : TypeId} {y : AV} {vy : Value} (hk : (k, Bk.any) ∈ H)
    (hb : BkR C ρ H w (ρ k) (.vars e cells)) (hcs : cellsOf y = some cs) (hsz : sizeAt P t = some n) (hlen : cs.length = n) (hle : off + n ≤ cells.length) (hy : VR C ρ H w y vy) :
    ∃ w', (Instr.storeAt t (.pointer (some ⟨ρ k, off, none⟩)) vy).run P w = .ok () w' ∧ MRel C ρ H next w' ∧ Ext C ρ H w ρ H w' ∧ BkR C ρ H w' (ρ k) (.vars e (over cells off cs)) ∧ (∀ j, j ≠ ρ k → w'.heap[j]? = w.heap[j]?) := by
  obtain ⟨c, h1, h2, h3⟩ := hb
  obtain ⟨hv, hv1⟩ := cellsOf_sound hcs hy
  have hl1 := hv.length
  have hl2 := h2.length
  have hcl : c.toList.length = c.size := by simp
  have hvs : vy.cells.toList.length = n := by omega
  have hrun := store_run (P := P) (vs := vy.cells.toList) h1 (o := off) (by omega) hv1
  have hovl : (over c.toList off vy.cells.toList).length = c.toList.length := over_length _ _ _ (by omega)
  obtain ⟨hm', hext⟩ := hm.write (nb := .any) (c' := ⟨over c.toList off vy.cells.toList⟩) hk h1 (by simp [hovl]) (fun e t l h => by cases h) (fun H' w' _ hw' => ⟨_, hw'⟩)
  rw [up_id hm.nodup hk] at hm' hext
  refine ⟨_, ?_, hm', hext, ⟨_, setRow_heap _ _ _ _ _ _ h1, (h2.imp (fun _ _ => hext.vr)).over (hv.imp (fun _ _ => hext.vr)) off, ?_⟩, fun j hj => setRow_other _ _ _ _ hj⟩
  · simp only [Instr.storeAt, Instr.sureAddr, Sem.run_bind, Sem.run_pure, Result.andThen_ok, storeVar, sizeAt_run hsz, Sem.run_ite]
    rw [if_neg (by simp at hl1; omega)]
    exact hrun
  · intro v hv
    rcases over_mem hv with h | h
    · exact h3 v h
    · exact hv1 v h

theorem getD_put {a : Act} {dst : Option Nat} {v : Value} {t : Nat} : (a.put dst v).tmps.getD t undef = if dst = some t ∧ t < a.tmps.size then v else a.tmps.getD t undef := by
  cases dst with
  | none => simp [Act.put]
  | some d =>
    simp only [Act.put, Array.getD_eq_getD_getElem?]
    by_cases h : d = t
    · subst h
      by_cases hlt : d < a.tmps.size
      · simp [hlt]
      · simp [hlt]
    · rw [Array.getElem?_setIfInBounds_ne h]
      simp [h]

theorem put_size {a : Act} {dst : Option Nat} {v : Value} : (a.put dst v).tmps.size = a.tmps.size := by cases dst <;> simp [Act.put]
theorem put_defers {a : Act} {dst : Option Nat} {v : Value} : (a.put dst v).defers = a.defers := by cases dst <;> rfl

theorem mem_tmpsOf {t : Nat} : ∀ {l : List Operand}, .tmp t ∈ l → t ∈ tmpsOf l
  | [], h => by simp at h
  | x :: r, h => by
    rcases List.mem_cons.1 h with e | h1
    · subst e; simp [tmpsOf]
    · have := mem_tmpsOf h1
      cases x <;> simp [tmpsOf, this]

theorem tmpsOf_reads {o : Oper} {t : Nat} (h : t ∈ tmpsOf o.op.operands.toList) : t ∈ readsOf ops o := by
  unfold readsOf
  split
  · exact h
  · split
    · exact List.mem_cons_of_mem _ h
    · exact h

theorem guard_reads {o : Oper} {j : Nat} {want : Bool} {t : Nat} (hg : o.guard = some (j, want)) (ht : guardSlot ops j = some t) : t ∈ readsOf ops o := by
  unfold readsOf
  rw [hg]
  simp only [ht]
  exact List.mem_cons_self

theorem evM_store {K : Nat} {H : Heap} {arg : Operand → AV} {o : Oper} {x : AV × List (Nat × Bk)} {t : TypeId} {p y : Operand} (ho : o.op = .store t p y) (h : (evM P Γ K H arg o).Leaf x) : False := by
  simp only [evM, evP, ho] at h
  obtain ⟨_, h1, _⟩ := T.Leaf.bind h
  cases h1

theorem sk_inj {sk : List (Nat × Nat)} (hn : (sk.map (·.2)).Nodup) {K K' k : Nat} (h : (K, k) ∈ sk) (h' : (K', k) ∈ sk) : K = K' := by
  induction sk with
  | nil => cases h
  | cons x r ih =>
    have hn' := List.nodup_cons.1 hn
    rcases List.mem_cons.1 h with e | h1 <;> rcases List.mem_cons.1 h' with e' | h2
    · rw [← e] at e'; injection e' with e' _; exact e'.symm
    · subst e; exact absurd (List.mem_map.2 ⟨_, h2, rfl⟩) hn'.1
    · subst e'; exact absurd (List.mem_map.2 ⟨_, h1, rfl⟩) hn'.1
    · exact ih hn'.2 h1 h2

/-- What is known of the blocks into which is stored. -/
structure SkOk (sk : List (Nat × Nat)) (base : Nat) (pre : List Oper) : Prop where
  nodup : (sk.map (·.2)).Nodup
  get : ∀ K k, (K, k) ∈ sk → skGet sk K = some k
  op : ∀ K k, (K, k) ∈ sk → ∃ o t a x, pre[K - base]? = some o ∧ o.op = .store t a x
  laid : ∀ K k, (K, k) ∈ sk → base ≤ k → ∃ o, pre[K - base]? = some o ∧ hasEdge o (k - base) = true

theorem chkLaid_spec {pre : List Oper} {base : Nat} : ∀ {sk : List (Nat × Nat)}, chkLaid pre base sk = true → ∀ K k, (K, k) ∈ sk → base ≤ k → ∃ o, pre[K - base]? = some o ∧ hasEdge o (k - base) = true
  | [], _, _, _, hm, _ => by cases hm
  | (K', k') :: r, h, K, k, hm, hk => by
    simp only [chkLaid, Bool.and_eq_true, Bool.or_eq_true] at h
    rcases List.mem_cons.1 hm with e | hm
    · injection e with e1 e2
      subst e1; subst e2
      rcases h.1 with h1 | h1
      · have := Nat.le_of_ble_eq_true h1; omega
      · split at h1
        · rename_i o ho; exact ⟨o, ho, h1⟩
        · cases h1
    · exact chkLaid_spec h.2 K k hm hk

theorem skGet_mem {sk : List (Nat × Nat)} {K k : Nat} (h : skGet sk K = some k) : (K, k) ∈ sk := by
  induction sk with
  | nil => cases h
  | cons x r ih =>
    obtain ⟨K', k'⟩ := x
    simp only [skGet] at h
    cases hb : Nat.beq K' K with
    | true => rw [hb] at h; injection h with h; subst h; have := beq_true hb; subst this; exact List.mem_cons_self
    | false => rw [hb] at h; exact List.mem_cons_of_mem _ (ih h)

theorem skHas_iff {sk : List (Nat × Nat)} {k : Nat} : skHas sk k = true ↔ ∃ K, (K, k) ∈ sk := by
  induction sk with
  | nil => simp [skHas]
  | cons x r ih =>
    obtain ⟨K', j⟩ := x
    simp only [skHas]
    cases hb : Nat.beq j k with
    | true => have := beq_true hb; subst this; exact ⟨fun _ => ⟨K', List.mem_cons_self⟩, fun _ => rfl⟩
    | false =>
      rw [ih]
      have hne := beq_false hb
      constructor
      · rintro ⟨K, h⟩; exact ⟨K, List.mem_cons_of_mem _ h⟩
      · rintro ⟨K, h⟩
        rcases List.mem_cons.1 h with e | h
        · injection e with _ e; exact absurd e.symm hne
        · exact ⟨K, h⟩

/-- Memory of which other things are known. -/
theorem MRel.reveal {ρ : Nat → Nat} {H H' : Heap} {next : Nat} {w : World} (hm : MRel C ρ H next w) (hk : ∀ k, k ∈ H.keys ↔ k ∈ H'.keys) (hr : ∀ k e t l, (k, Bk.row e t l) ∈ H → (k, Bk.row e t l) ∈ H') (hn : H'.keys.Nodup)
    (hb : ∀ k b, (k, b) ∈ H' → BkR C ρ H w (ρ k) b) : MRel C ρ H' next w ∧ Ext C ρ H w ρ H' w := by
  have hext : Ext C ρ H w ρ H' w := ⟨fun b ⟨h1, h2, h3⟩ => ⟨⟨h1, h2, fun k hk' => h3 k ((hk k).2 hk')⟩, rfl⟩, fun k hk' => ⟨(hk k).1 hk', rfl⟩, fun k e t l hm => ⟨l, hr k e t l hm, Nat.le_refl _, fun c fr hc => ⟨c, fr, hc, rfl⟩⟩, Nat.le_refl _⟩
  exact ⟨⟨hm.below, hn, fun k hk' => hm.lt k ((hk k).2 hk'), fun k hk1 k' hk2 => hm.inj k ((hk k).2 hk1) k' ((hk k').2 hk2), fun k hk' => hm.low k ((hk k).2 hk'), fun k b hb' => (hb k b hb').ext hext rfl⟩, hext⟩

theorem putBlocks_keys (H : Heap) : ∀ l : List (Nat × Bk), (putBlocks H l).keys = H.keys
  | [] => rfl
  | (k, b) :: r => by simp only [putBlocks]; rw [Heap.keys_up, putBlocks_keys H r]

theorem putBlocks_mem {H : Heap} (hn : H.keys.Nodup) : ∀ {l : List (Nat × Bk)} {k : Nat} {b : Bk}, (k, b) ∈ putBlocks H l → (k, b) ∈ l ∨ (∀ b', (k, b') ∉ l) ∧ (k, b) ∈ H
  | [], k, b, h => Or.inr ⟨(by intro b' hb; cases hb), h⟩
  | (j, y) :: r, k, b, h => by
    simp only [putBlocks] at h
    by_cases hj : k = j
    · subst hj
      rw [Heap.mem_up_eq (by rw [putBlocks_keys]; exact hn) h]
      exact Or.inl List.mem_cons_self
    · rcases putBlocks_mem hn ((Heap.mem_up_ne hj).1 h) with h | ⟨h1, h2⟩
      · exact Or.inl (List.mem_cons_of_mem _ h)
      · refine Or.inr ⟨fun b' hb' => ?_, h2⟩
        rcases List.mem_cons.1 hb' with e | hb'
        · injection e with e _; exact hj e
        · exact h1 b' hb'

theorem putBlocks_other {H : Heap} : ∀ {l : List (Nat × Bk)} {k : Nat} {b : Bk}, (k, b) ∈ H → (∀ b', (k, b') ∉ l) → (k, b) ∈ putBlocks H l
  | [], _, _, h, _ => h
  | (j, y) :: r, k, b, h, hl => by
    simp only [putBlocks]
    have hne : k ≠ j := fun e => hl y (by rw [e]; exact List.mem_cons_self)
    exact (Heap.mem_up_ne hne).2 (putBlocks_other h (fun b' hb' => hl b' (List.mem_cons_of_mem _ hb')))

theorem olds_mem {H : Heap} : ∀ {sk : List (Nat × Nat)} {k : Nat} {b : Bk}, (k, b) ∈ olds H sk ↔ (∃ K, (K, k) ∈ sk) ∧ H.find k = some b
  | [], k, b => by simp [olds]
  | (K', j) :: r, k, b => by
    simp only [olds]
    cases hf : H.find j with
    | none =>
      simp only [olds_mem, List.mem_cons, Prod.mk.injEq]
      constructor
      · rintro ⟨⟨K, h1⟩, h2⟩; exact ⟨⟨K, Or.inr h1⟩, h2⟩
      · rintro ⟨⟨K, ⟨_, rfl⟩ | h1⟩, h2⟩
        · rw [hf] at h2; cases h2
        · exact ⟨⟨K, h1⟩, h2⟩
    | some y =>
      simp only [List.mem_cons, olds_mem, Prod.mk.injEq]
      constructor
      · rintro (⟨rfl, rfl⟩ | ⟨⟨K, h1⟩, h2⟩)
        · exact ⟨⟨K', Or.inl ⟨rfl, rfl⟩⟩, hf⟩
        · exact ⟨⟨K, Or.inr h1⟩, h2⟩
      · rintro ⟨⟨K, ⟨_, rfl⟩ | h1⟩, h2⟩
        · rw [hf] at h2; injection h2 with h2; exact Or.inl ⟨rfl, h2.symm⟩
        · exact Or.inr ⟨⟨K, h1⟩, h2⟩

theorem putBlocks_in {H : Heap} : ∀ {l : List (Nat × Bk)} {k : Nat} {b : Bk}, k ∈ H.keys → (k, b) ∈ l → (∀ b', (k, b') ∈ l → b' = b) → (k, b) ∈ putBlocks H l
  | [], _, _, _, h, _ => by cases h
  | (j, y) :: r, k, b, hk, h, hu => by
    simp only [putBlocks]
    by_cases hj : k = j
    · subst hj
      rw [hu y List.mem_cons_self]
      exact Heap.mem_up_same (by rw [putBlocks_keys]; exact hk)
    · refine (Heap.mem_up_ne hj).2 (putBlocks_in hk ?_ (fun b' hb' => hu b' (List.mem_cons_of_mem _ hb')))
      rcases List.mem_cons.1 h with e | h
      · injection e with e _; exact absurd e hj
      · exact h

theorem lateSk_spec {pre : List Oper} {base i : Nat} : ∀ {sk : List (Nat × Nat)} {K k : Nat}, (K, k) ∈ lateSk pre base i sk → (K, k) ∈ sk ∧ ∃ o, pre[K - base]? = some o ∧ hasEdge o i = true
  | [], _, _, h => by cases h
  | (K', k') :: r, K, k, h => by
    simp only [lateSk] at h
    split at h
    · rename_i o ho
      split at h
      · rename_i he
        rcases List.mem_cons.1 h with e | h
        · injection e with e1 e2; subst e1; subst e2; exact ⟨List.mem_cons_self, o, ho, he⟩
        · obtain ⟨h1, h2⟩ := lateSk_spec h; exact ⟨List.mem_cons_of_mem _ h1, h2⟩
      · obtain ⟨h1, h2⟩ := lateSk_spec h; exact ⟨List.mem_cons_of_mem _ h1, h2⟩
    · obtain ⟨h1, h2⟩ := lateSk_spec h; exact ⟨List.mem_cons_of_mem _ h1, h2⟩

theorem lateH_eq (pre : List Oper) (base : Nat) (sk : List (Nat × Nat)) (Hs H : Heap) (K : Nat) (N : Heap) : lateH pre base sk Hs H K N = pickO sk base N pre[K - base]? ++ putBlocks H (olds Hs (lateSk pre base (K - base) sk)) := by
  cases sk <;> rfl

theorem pickH_spec {sk : List (Nat × Nat)} {o : Oper} {base : Nat} : ∀ {N : Heap} {x : Nat × Bk}, x ∈ pickH sk o base N → x ∈ N ∧ base ≤ x.1 ∧ hasEdge o (x.1 - base) = true ∧ skHas sk x.1 = false
  | [], _, h => by cases h
  | (k, b) :: r, x, h => by
    simp only [pickH] at h
    split at h
    · rename_i hb
      split at h
      · rename_i hc
        simp only [Bool.and_eq_true, Bool.not_eq_true'] at hc
        rcases List.mem_cons.1 h with rfl | h
        · exact ⟨List.mem_cons_self, Nat.le_of_ble_eq_true hb, hc⟩
        · obtain ⟨h1, h2⟩ := pickH_spec h; exact ⟨List.mem_cons_of_mem _ h1, h2⟩
      · obtain ⟨h1, h2⟩ := pickH_spec h; exact ⟨List.mem_cons_of_mem _ h1, h2⟩
    · cases h

theorem SkInv.keep {ρ ρ' : Nat → Nat} {Hd new : Heap} {w w' : World} {Hs : Heap} {sk : List (Nat × Nat)} {base : Nat} {us : List Out} {ls : Nat → Bool} {i : Nat} (h : SkInv C ρ Hd w Hs sk base us ls) (he : Ext C ρ Hd w ρ' (new ++ Hd) w')
    (hb : ∀ k ∈ Hd.keys, w'.heap[ρ k]? = w.heap[ρ k]?) (hi : ∀ K k, (K, k) ∈ sk → K - base = i → us[i]? = some .skip)
    (hnew : ∀ K k e cells, (K, k) ∈ sk → Hs.find k = some (.vars e cells) → k ∈ Heap.keys new → (k, Bk.any) ∈ new ∧ ls (K - base) = false ∧ BkR C ρ' (new ++ Hd) w' (ρ' k) (.vars e cells)) : SkInv C ρ' (new ++ Hd) w' Hs sk base us (addL ls i) := by
  intro K k hk
  obtain ⟨h0, e, cells, h1, h2⟩ := h K k hk
  refine ⟨h0, e, cells, h1, fun hkk => ?_⟩
  have hcase : k ∈ Heap.keys new ∨ k ∈ Hd.keys := by
    simp only [Heap.keys, List.map_append, List.mem_append] at hkk
    exact hkk
  rcases hcase with hkk | hkk
  · obtain ⟨g1, g2, g3⟩ := hnew K k e cells hk h1 hkk
    refine ⟨List.mem_append.2 (Or.inl g1), Or.inr ⟨?_, g3⟩⟩
    by_cases hi' : K - base = i
    · rw [hi']; exact Or.inr (hi K k hk hi')
    · exact Or.inl (by unfold addL; rw [if_neg hi']; exact g2)
  · obtain ⟨h2, h3⟩ := h2 hkk
    have hr := (he.keys k hkk).2
    refine ⟨List.mem_append.2 (Or.inr h2), ?_⟩
    rw [hr]
    rcases h3 with ⟨b, g1, g2, g3⟩ | ⟨g1, g2⟩
    · exact Or.inl ⟨b, g1, by unfold addL; split <;> first | rfl | exact g2, g3.ext he (hb k hkk)⟩
    · refine Or.inr ⟨?_, g2.ext he (hb k hkk)⟩
      by_cases hi' : K - base = i
      · rw [hi']; exact Or.inr (hi K k hk hi')
      · rcases g1 with g1 | g1
        · exact Or.inl (by unfold addL; rw [if_neg hi']; exact g1)
        · exact Or.inr g1

/-- One operation of the part whose order is open. -/
theorem AInv.step (hG : GMono G) (hC : G C.w0) (hΓ : Γ.ok P G) {ρ0 : Nat → Nat} {ws : World} {σ0 : St} {base : Nat} {l pre : List Oper} {us : List Out} {f' : Nat → AV} {ls : Nat → Bool} {a : Act} {w : World}
    {i : Nat} {o : Oper} {Q : Exit → Act → World → Prop} {nx : Act → World → Prop} (hops : ops.toList = l) (hpre : ∀ (j : Nat) (p : Oper), pre[j]? = some p → l[j]? = some p)
    {Hs : Heap} {sk : List (Nat × Nat)} (hsk : SkOk sk base pre) (htr : Tr P Γ ops sk Hs (lateH pre base sk Hs σ0.H) σ0.n pre base σ0.H (look σ0.slots) us f') (hchk : chkPre ops pre pre 0 = true) (hnd0 : σ0.H.keys.Nodup) (hbase : ∀ k ∈ σ0.H.keys, k < base) (hnext : base + pre.length ≤ σ0.next)
    (hinit : ∀ (i : Nat) (o : Oper) (e : TypeId) (zs : List AV), pre[i]? = some o → o.op = .alloc e → zeroAVs P e = some zs → Hs.find (base + i) = some (.vars e zs)) (hcl : Closed l ls)
    (ho : pre[i]? = some o) (hls : ls i = false) (hedge : ∀ e ∈ o.after, binding e = true → ls e.on = true) (hinv : AInv C ρ0 ws σ0 Hs sk base pre us ls a w)
    (hnx : ∀ a' w', AInv C ρ0 ws σ0 Hs sk base pre us (addL ls i) a' w' → nx a' w') (rnd : Option Nat) : wpOpIn (wideR rnd) 0 P ops Q i nx a w := by
  obtain ⟨ρ, Hd, hH, hm, hsl, hsz, hdf, hext, hski⟩ := hinv
  obtain ⟨u, fi, Ni, hu, htri, hst, hNi⟩ := htr.nth ho
  obtain ⟨hrd, hdst⟩ := chkPre_spec hchk ho
  rw [Nat.zero_add] at hrd hdst
  have hilt : i < pre.length := (List.getElem?_eq_some_iff.1 ho).1
  -- what the operation reads
  have hread : ∀ t ∈ readsOf ops o, VR C ρ Hd w (fi t) (a.tmps.getD t undef) := by
    intro t ht
    have hc := hrd t ht
    apply hsl t
    rcases htri.slot t with ⟨j, p, v, h1, h2, h3, h4, h5⟩ | ⟨h1, h2⟩
    · have hji : j < i := by
        have := (List.getElem?_eq_some_iff.1 h1).1
        simp at this; omega
      rw [List.getElem?_take, if_pos hji] at h1 h2
      have h7 : hasEdge o j = true := by
        have h7 := chkRead_spec hc h1 h3
        rw [Nat.zero_add] at h7
        rcases h7 with h7 | h7
        · exact h7.2
        · omega
      obtain ⟨e, he1, he2, he3⟩ := hasEdge_spec h7
      exact Or.inl ⟨j, p, v, h1, h2, h3, h4, by rw [← he3]; exact hedge e he1 he2, h5⟩
    · refine Or.inr ⟨fun j p hp hd hlt => ?_, h2⟩
      have h6 := chkRead_spec hc hp hd
      rw [Nat.zero_add] at h6
      rcases h6 with ⟨h6, _⟩ | ⟨_, h6⟩
      · exact absurd hlt (h1 j p (by rw [List.getElem?_take, if_pos h6]; exact hp) hd)
      · obtain ⟨ed, d1, d2, d3⟩ := hasEdge_spec h6
        cases hb : ls j with
        | false => rfl
        | true =>
          have := hcl _ _ (hpre _ _ hp) hb ed d1 d2
          rw [d3, hls] at this
          cases this
  -- the keys of the new blocks
  have hnewk : ∀ (j : Nat) (v : Out), us[j]? = some v → ∀ x ∈ v.new, x.1 = base + j := by
    intro j v hj x hx
    have hjl : j < pre.length := by have := (List.getElem?_eq_some_iff.1 hj).1; rw [htr.length] at this; exact this
    obtain ⟨v', fj, _, h1, _, h3, _⟩ := htr.nth (i := j) (o := pre[j]) (by simp [hjl])
    rw [hj] at h1
    injection h1 with h1
    subst h1
    cases v with
    | ran r new =>
      rcases h3.2 with ⟨_, h3⟩ | ⟨_, _, _, _, _, rfl⟩
      · exact evM_keys h3 x hx
      · simp only [Out.new, List.mem_singleton] at hx; subst hx; rfl
    | skip => cases hx
    | st k b => cases hx
  have hKn : base + i ∉ Hd.keys := by
    intro hk
    obtain ⟨x, hx, e⟩ := List.mem_map.1 hk
    rcases (hH x).1 hx with h | ⟨j, v, h1, h2, h3⟩
    · have := hbase x.1 (List.mem_map.2 ⟨x, h, rfl⟩); omega
    · have := hnewk j v h1 x h3
      have : j = i := by omega
      subst this
      rw [hls] at h2; cases h2
  -- what holds behind it
  have done : ∀ (v : Value) (ρ' : Nat → Nat) (w' : World), MRel C ρ' (u.new ++ Hd) σ0.next w' → Ext C ρ Hd w ρ' (u.new ++ Hd) w' → VR C ρ' (u.new ++ Hd) w' u.av v → SkInv C ρ' (u.new ++ Hd) w' Hs sk base us (addL ls i) → AInv C ρ0 ws σ0 Hs sk base pre us (addL ls i) (a.put o.dst v) w' := by
    intro v ρ' w' hm' he hv hsk'
    refine ⟨ρ', u.new ++ Hd, fun x => ?_, hm', fun t x hx => ?_, by rw [put_size]; exact hsz, by rw [put_defers]; exact hdf.mono he.data he.size, hext.trans he, hsk'⟩
    · rw [List.mem_append, hH]
      constructor
      · rintro (h | h | ⟨j, v, h1, h2, h3⟩)
        · exact Or.inr ⟨i, u, hu, by simp [addL], h⟩
        · exact Or.inl h
        · exact Or.inr ⟨j, v, h1, by unfold addL; split <;> first | rfl | exact h2, h3⟩
      · rintro (h | ⟨j, v, h1, h2, h3⟩)
        · exact Or.inr (Or.inl h)
        · by_cases hj : j = i
          · subst hj; rw [hu] at h1; injection h1 with h1; subst h1; exact Or.inl h3
          · exact Or.inr (Or.inr ⟨j, v, h1, by unfold addL at h2; rwa [if_neg hj] at h2, h3⟩)
    · rw [getD_put]
      rcases hx with ⟨j, p, v', h1, h2, h3, h4, h5, h6⟩ | ⟨h1, h2⟩
      · by_cases hj : j = i
        · subst hj
          rw [ho] at h1; injection h1 with h1; subst h1
          rw [hu] at h2; injection h2 with h2; subst h2
          rw [if_pos ⟨h3, by rw [hsz]; exact h4⟩, h6]
          exact hv
        · rw [if_neg]
          · exact he.vr (hsl t x (Or.inl ⟨j, p, v', h1, h2, h3, h4, by unfold addL at h5; rwa [if_neg hj] at h5, h6⟩))
          · rintro ⟨hd, _⟩
            have := chkDst_spec (hdst t hd) h1 h3
            omega
      · rw [if_neg]
        · exact he.vr (hsl t x (Or.inr ⟨fun j p hp hd hlt => by
            have := h1 j p hp hd hlt
            unfold addL at this
            split at this
            · cases this
            · exact this, h2⟩))
        · rintro ⟨hd, hlt⟩
          have := h1 i o ho hd (by rw [← hsz]; exact hlt)
          simp [addL] at this
  have hoi : ops[i]? = some o := by
    have := hpre i o ho
    rw [← hops, Array.getElem?_toList] at this
    exact this
  unfold wpOpIn
  rw [hoi]
  simp only
  have hyield : ∀ (j t : Nat) (b : Bool), guardSlot ops j = some t → fi t = .d .bool b → t ∈ readsOf ops o → yielded ops a.tmps j = some b := by
    intro j t b ht hf hr
    have := hread t hr
    rw [hf] at this
    have e := bool_value this
    rw [Array.getD_eq_getD_getElem?] at e
    unfold yielded
    unfold guardSlot at ht
    rw [ht]
    cases hg : a.tmps[t]? with
    | none => rw [hg] at e; cases e
    | some v => rw [hg] at e; simp at e; subst e; simp [hg]
  cases u with
  | skip =>
    obtain ⟨j, want, t, hg, ht, hor⟩ := hst
    have hr := guard_reads hg ht
    rw [if_neg]
    · exact ⟨fun _ _ => trivial, hnx _ _ (done undef ρ w hm (Ext.refl _ _ _ _) .und (hski.keep (new := []) (Ext.refl _ _ _ _) (fun _ _ => rfl) (fun _ _ _ _ => hu) (fun _ _ _ _ _ _ h => by cases h)))⟩
    · rcases hor with hf | hf
      · rw [show Region.wanted o (yielded ops a.tmps) = false by simp [Region.wanted, hg, hyield j t _ ht hf hr]]
        simp
      · have := hread t hr
        rw [hf] at this
        have e : a.tmps.getD t undef = undef := by generalize a.tmps.getD t undef = v at this; cases this; rfl
        rw [Array.getD_eq_getD_getElem?] at e
        have hy : yielded ops a.tmps j = none := by
          unfold yielded
          unfold guardSlot at ht
          rw [ht]
          simp only [Option.bind_some]
          cases hg : a.tmps[t]? with
          | none => rfl
          | some v => rw [hg] at e; simp at e; rw [e]; rfl
        rw [show Region.wanted o (yielded ops a.tmps) = false by simp [Region.wanted, hg, hy]]
        simp
  | st k b =>
    obtain ⟨hw, hsg, t, pa, px, hop, hl⟩ := hst
    rw [if_pos]
    · have hval : ∀ x ∈ o.op.operands, VR C ρ Hd w (evalF fi x) (a.eval x) := by
        intro x hx
        cases x with
        | tmp t => exact hread t (tmpsOf_reads (mem_tmpsOf (by simpa using hx)))
        | const v => exact constAg_sound v
        | func f => exact .fn .nil .nil
        | global g => exact .no
      have hva := hval pa (by rw [hop]; simp [Op.operands])
      have hvx := hval px (by rw [hop]; simp [Op.operands])
      have hmem := skGet_mem hsg
      obtain ⟨_, e0, cells0, hf0, hcond⟩ := hski _ _ hmem
      have hidx : base + i - base = i := by omega
      rw [hidx] at hcond
      unfold stB at hl
      split at hl
      · rename_i k' off hpa
        split at hl
        · rename_i hbq
          have hbq := beq_true hbq
          subst hbq
          split at hl
          · rename_i e cells cs n hf hcs hsz'
            rw [hf0] at hf
            injection hf with hf
            injection hf with hf1 hf2
            subst hf1; subst hf2
            split at hl
            · rename_i hc
              cases hl
              simp only [Bool.and_eq_true] at hc
              rw [hpa] at hva
              generalize hvp : a.eval pa = vp at hva
              cases hva with
              | ptr hkk =>
                obtain ⟨hany, hor⟩ := hcond hkk
                have hold : BkR C ρ Hd w (ρ k') (.vars e0 cells0) := by
                  rcases hor with ⟨b', _, g, _⟩ | ⟨_, g⟩
                  · rw [hls] at g; cases g
                  · exact g
                obtain ⟨w', hrun, hm', hext', hnew, hoth⟩ := store_any (P := P) hm hany hold hcs hsz' (beq_true hc.1) (Nat.le_of_ble_eq_true hc.2) hvx
                refine wpIn_of_wp (fun c e => by rw [hop] at e; cases e) ?_
                unfold Oper.wp
                rw [show (execOp a.eval o).run P w = .ok .skip w' by simp [execOp, hop, hvp, hrun]]
                refine hnx _ _ (done undef ρ w' hm' hext' .und ?_)
                intro K' k2 hk2
                obtain ⟨g0, e1, cells1, g1, g23⟩ := hski K' k2 hk2
                refine ⟨g0, e1, cells1, g1, fun hin => ?_⟩
                obtain ⟨g2, g3⟩ := g23 hin
                refine ⟨g2, ?_⟩
                by_cases hKi : K' - base = i
                · have hKe : K' = base + i := by omega
                  subst hKe
                  have := hsk.get _ _ hk2
                  rw [hsg] at this
                  injection this with this
                  subst this
                  rw [hidx]
                  exact Or.inl ⟨_, hu, by simp [addL], hnew⟩
                · have hne : k2 ≠ k' := by
                    intro e
                    subst e
                    exact hKi (by rw [sk_inj hsk.nodup hk2 hmem]; exact hidx)
                  have hheap : w'.heap[ρ k2]? = w.heap[ρ k2]? := hoth _ (fun e => hne (hm.inj _ (mem_keys g2) _ hkk e))
                  rcases g3 with ⟨b, c1, c2, c3⟩ | ⟨c1, c2⟩
                  · exact Or.inl ⟨b, c1, by unfold addL; rw [if_neg hKi]; exact c2, c3.ext hext' hheap⟩
                  · exact Or.inr ⟨by unfold addL; rw [if_neg hKi]; exact c1, c2.ext hext' hheap⟩
            · cases hl
          · cases hl
        · cases hl
      · cases hl
    · rcases hw with hg | ⟨j, want, t, hg, ht, hf⟩
      · simp [Region.wanted, hg]
      · simp [Region.wanted, hg, hyield j t _ ht hf (guard_reads hg ht)]
  | ran r new =>
    obtain ⟨hw, hl⟩ := hst
    have hnst : ∀ K k, (K, k) ∈ sk → K - base = i → us[i]? = some .skip := by
      intro K k hk hKi
      exfalso
      obtain ⟨o', t', a', x', g1, g2⟩ := hsk.op K k hk
      rw [hKi, ho] at g1
      injection g1 with g1
      subst g1
      rcases hl with ⟨_, hl⟩ | ⟨e, zs, ho', _⟩
      · exact evM_store g2 hl
      · rw [ho'] at g2; cases g2
    rw [if_pos]
    · rcases hl with ⟨hskf, hl⟩ | ⟨e, zs, hoe, hz, rfl, rfl⟩
      · classical
        generalize hH0 : lateH pre base sk Hs σ0.H (base + i) Ni = H0 at hl
        rw [lateH_eq, Nat.add_sub_cancel_left, ho] at hH0
        have hlate : ∀ k b, (k, b) ∈ olds Hs (lateSk pre base i sk) → k ∈ Hd.keys → (k, Bk.any) ∈ Hd ∧ (∃ e cells, b = .vars e cells) ∧ BkR C ρ Hd w (ρ k) b := by
          intro k b hb hkk
          obtain ⟨⟨K, hK⟩, hf⟩ := olds_mem.1 hb
          obtain ⟨hKs, o2, c1, c2⟩ := lateSk_spec hK
          obtain ⟨_, e, cells, hf', g⟩ := hski K k hKs
          rw [hf] at hf'
          injection hf' with hf'
          obtain ⟨g1, g2⟩ := g hkk
          refine ⟨g1, ⟨e, cells, hf'⟩, ?_⟩
          obtain ⟨ed, d1, d2, d3⟩ := hasEdge_spec c2
          rcases g2 with ⟨b', _, g4, _⟩ | ⟨_, g3⟩
          · have := hcl _ _ (hpre _ _ c1) g4 ed d1 d2
            rw [d3, hls] at this
            cases this
          · rw [hf']; exact g3
        have hkeq : ∀ k, k ∈ Hd.keys ↔ k ∈ (putBlocks Hd (olds Hs (lateSk pre base i sk))).keys := fun k => by rw [putBlocks_keys]
        obtain ⟨hm1, hx1⟩ := hm.reveal (H' := putBlocks Hd (olds Hs (lateSk pre base i sk))) hkeq (fun k e t l hk => putBlocks_other hk (fun b' hb' => by
            have := Heap.mem_unique hm.nodup hk (hlate k b' hb' (mem_keys hk)).1
            cases this)) (by rw [putBlocks_keys]; exact hm.nodup) (fun k b hb => by
            rcases putBlocks_mem hm.nodup hb with h | ⟨_, h⟩
            · exact (hlate k b h ((hkeq k).2 (mem_keys hb))).2.2
            · exact hm.mem k b h)
        have hsub : ∀ x ∈ H0, x ∈ putBlocks Hd (olds Hs (lateSk pre base i sk)) := by
          rintro ⟨k, b⟩ hx
          rw [← hH0] at hx
          rcases List.mem_append.1 hx with hx | hx
          · obtain ⟨p1, p2, p3, p4⟩ := pickH_spec hx
            have p5 : (k, b) ∈ Hd := by
              rcases hNi _ p1 with h | ⟨j, v, h1, h2⟩
              · exact (hH _).2 (Or.inl h)
              · refine (hH _).2 (Or.inr ⟨j, v, h1, ?_, h2⟩)
                have hkj : k = base + j := hnewk j v h1 _ h2
                obtain ⟨ed, d1, d2, d3⟩ := hasEdge_spec p3
                have := hedge ed d1 d2
                rw [d3] at this
                rw [show k - base = j by omega] at this
                exact this
            refine putBlocks_other p5 (fun b' hb' => ?_)
            obtain ⟨⟨K, hK⟩, _⟩ := olds_mem.1 hb'
            have p4 : skHas sk k = false := p4
            rw [skHas_iff.2 ⟨K, (lateSk_spec hK).1⟩] at p4
            cases p4
          have hkk : k ∈ σ0.H.keys := by have := mem_keys hx; rwa [putBlocks_keys] at this
          have hkd : k ∈ Hd.keys := by
            obtain ⟨y, hy, e⟩ := List.mem_map.1 hkk
            exact List.mem_map.2 ⟨y, (hH y).2 (Or.inl hy), e⟩
          by_cases hin : ∃ b', (k, b') ∈ olds Hs (lateSk pre base i sk)
          · obtain ⟨b', hb'⟩ := hin
            have hu : ∀ b'', (k, b'') ∈ olds Hs (lateSk pre base i sk) → b'' = b' := fun b'' hb'' => by
              have h1 := (olds_mem.1 hb').2
              rw [(olds_mem.1 hb'').2] at h1
              injection h1
            have h1 : (k, b') ∈ putBlocks σ0.H (olds Hs (lateSk pre base i sk)) := putBlocks_in hkk hb' hu
            have hnd0 : (putBlocks σ0.H (olds Hs (lateSk pre base i sk))).keys.Nodup := by rw [putBlocks_keys]; exact hnd0
            rw [Heap.mem_unique hnd0 hx h1]
            exact putBlocks_in hkd hb' hu
          · have hno : ∀ b', (k, b') ∉ olds Hs (lateSk pre base i sk) := fun b' hb' => hin ⟨b', hb'⟩
            rcases putBlocks_mem hnd0 hx with h | ⟨_, h⟩
            · exact absurd h (hno _)
            · exact putBlocks_other ((hH _).2 (Or.inl h)) hno
        have hcong : evM P Γ (base + i) H0 (evalF fi) o = evM P Γ (base + i) H0 (fun x => if x ∈ o.op.operands then evalF fi x else .no) o := evM_congr (fun x hx => by rw [if_pos hx])
        rw [hcong] at hl
        refine wpIn_of_wp (evM_plain hl) ?_
        refine evM_wp (H := putBlocks Hd (olds Hs (lateSk pre base i sk))) hsub hm1 (fun h => hKn ((hkeq _).2 h)) (by omega) hΓ (hG _ _ hm.below hC) (fun x => ?_) hl (fun v ρ' w' hm' he hv hbl => ?_)
        · refine hx1.vr ?_
          show VR C ρ Hd w (if x ∈ o.op.operands then evalF fi x else .no) (a.eval x)
          split
          · rename_i hx
            cases x with
            | tmp t => exact hread t (tmpsOf_reads (mem_tmpsOf (by simpa using hx)))
            | const v => exact constAg_sound v
            | func f => exact .fn .nil .nil
            | global g => exact .no
          · exact .no
        · have hmk : ∀ k, k ∈ Heap.keys (new ++ putBlocks Hd (olds Hs (lateSk pre base i sk))) ↔ k ∈ Heap.keys (new ++ Hd) := fun k => by
            have := hkeq k
            simp only [Heap.keys, List.map_append, List.mem_append] at this ⊢
            rw [this]
          have hndn : Heap.keys (new ++ Hd) = Heap.keys (new ++ putBlocks Hd (olds Hs (lateSk pre base i sk))) := by
            have := putBlocks_keys Hd (olds Hs (lateSk pre base i sk))
            simp only [Heap.keys, List.map_append] at this ⊢
            rw [this]
          obtain ⟨hm2, hx2⟩ := hm'.reveal (H' := new ++ Hd) hmk (fun k e t l hk => by
              rcases List.mem_append.1 hk with h | h
              · exact List.mem_append.2 (Or.inl h)
              · rcases putBlocks_mem hm.nodup h with h1 | ⟨_, h1⟩
                · obtain ⟨_, ⟨e', cells, hb⟩, _⟩ := hlate k _ h1 ((hkeq k).2 (mem_keys h)); cases hb
                · exact List.mem_append.2 (Or.inr h1)) (by rw [hndn]; exact hm'.nodup) (fun k b hb => by
              rcases List.mem_append.1 hb with h | h
              · exact hm'.mem k b (List.mem_append.2 (Or.inl h))
              · by_cases hin : ∃ b', (k, b') ∈ olds Hs (lateSk pre base i sk)
                · obtain ⟨b', hb'⟩ := hin
                  obtain ⟨g1, ⟨e', cells, rfl⟩, _⟩ := hlate k _ hb' (mem_keys h)
                  rw [Heap.mem_unique hm.nodup h g1]
                  exact (hm'.mem k _ (List.mem_append.2 (Or.inr (putBlocks_in (mem_keys h) hb' (fun b'' hb'' => by
                    have h1 := (olds_mem.1 hb').2
                    rw [(olds_mem.1 hb'').2] at h1
                    injection h1))))).block
                · exact hm'.mem k b (List.mem_append.2 (Or.inr (putBlocks_other h (fun b' hb' => hin ⟨b', hb'⟩)))))
          have he2 : Ext C ρ Hd w ρ' (new ++ Hd) w' := hx1.trans (he.trans hx2)
          exact hnx _ _ (done v ρ' w' hm2 he2 (hx2.vr hv) (hski.keep he2 (fun k hk => hbl.block _ (hm.key_lt hk)) hnst (fun K k e cells hk _ hkn => by
            exfalso
            obtain ⟨x, hx, e⟩ := List.mem_map.1 hkn
            have := evM_keys hl x hx
            rw [e] at this
            rw [skHas_iff.2 ⟨K, this ▸ hk⟩] at hskf
            cases hskf)))
      · refine wpIn_of_wp (fun c e0 => by rw [hoe] at e0; cases e0) ?_
        obtain ⟨z, hz1, hz2, hz3⟩ := zeroAVs_sound (C := C) (ρ := ρ) (H := Hd) (w := w) (P := P) hz
        obtain ⟨hm', hext'⟩ := hm.alloc (K := base + i) (c := z.cells) (e := e) (blk := .any) hKn (by omega) (fun ρ' H' w' _ hw' => ⟨_, hw'⟩)
        unfold Oper.wp
        rw [show (execOp a.eval o).run P w = .ok (.value (.pointer (some ⟨w.heap.size, 0, none⟩))) (w.alloc (.cells z.cells e)) by
          simp [execOp, hoe, Instr.alloc, hz1, newVar]; rfl]
        refine hnx _ _ (done _ _ _ hm' hext' ?_ (hski.keep hext' (fun k hk => Below.heap_alloc _ _ _ (hm.key_lt hk)) hnst (fun K k e' cells hk hfk hkn => ?_)))
        · have : VR C (upd ρ (base + i) w.heap.size) ((base + i, .any) :: Hd) (w.alloc (.cells z.cells e)) (.ptr (base + i) 0) (.pointer (some ⟨upd ρ (base + i) w.heap.size (base + i), 0, none⟩)) := .ptr List.mem_cons_self
          rw [upd_same] at this
          exact this
        · have hke : k = base + i := by simpa [Heap.keys, Out.new] using hkn
          subst hke
          obtain ⟨g0, _⟩ := hski K _ hk
          obtain ⟨o', t', a', x', g1, g2⟩ := hsk.op K _ hk
          refine ⟨List.mem_singleton.2 rfl, ?_, ?_⟩
          · obtain ⟨o2, c1, c2⟩ := hsk.laid K _ hk (Nat.le_add_right _ _)
            obtain ⟨ed, d1, d2, d3⟩ := hasEdge_spec c2
            cases hb : ls (K - base) with
            | false => rfl
            | true =>
              have := hcl _ _ (hpre _ _ c1) hb ed d1 d2
              rw [d3, Nat.add_sub_cancel_left, hls] at this
              cases this
          · rw [upd_same]
            have hfi := hinit i o e zs ho hoe hz
            rw [hfi] at hfk
            injection hfk with hfk
            injection hfk with hf1 hf2
            subst hf1; subst hf2
            exact ⟨z.cells, by show (w.heap.push _)[w.heap.size]? = _; simp, hz2.imp (fun _ _ => hext'.vr), hz3⟩
    · rcases hw with hg | ⟨j, want, t, hg, ht, hf⟩
      · simp [Region.wanted, hg]
      · simp [Region.wanted, hg, hyield j t _ ht hf (guard_reads hg ht)]

/-- The operations of which each comes behind all others. -/
theorem tail_any (hG : GMono G) (hC : G C.w0) (hΓ : Γ.ok P G) {call : CallT} (hcall : CallSat P G call) {Q : Exit → Act → World → Prop} {K : Fi → Prop} {l : List Oper} {m : Nat} (hops : ops.toList = l)
    (hed : chkEdges l 0 = true) (htail : chkTail m (masks l []) 0 = true) : ∀ (rest : List Oper) (j fuel : Nat) (listed : Array Bool) {ρ : Nat → Nat} {σ : St} {a : Act} {w : World}, l.drop j = rest → m ≤ j → rest.length ≤ fuel → listed.size = ops.size →
      (∀ i, i < ops.size → listed.getD i false = decide (i < j)) → SRel C ρ σ a w → execSeq P Γ call ops rest σ K → (∀ a' w', Reach C σ ρ w (fun σ' => K (.go σ')) a' w' → Q .normal a' w') → (∀ ch a' w', Reach C σ ρ w (fun σ' => K (.pan ch σ')) a' w' → Q (.panic ch) a' w') → ∀ rnd : Option Nat, wpAnyIn (wideR rnd) 0 P .any ops Q fuel listed a w
  | rest, j, fuel, listed, ρ, σ, a, w, hd, hm, hf, hsz, hlist, hs, h, hQ, hP, rnd => by
    have hlen : l.length = ops.size := by rw [← hops]; simp
    have hlt : ∀ i, i < ops.size → listed.getD i true = decide (i < j) := by
      intro i hi
      have := hlist i hi
      rw [Array.getD_eq_getD_getElem?] at this ⊢
      rw [Array.getElem?_eq_getElem (by omega)] at this ⊢
      simpa using this
    have hcl : Closed l (fun i => listed.getD i false) := by
      intro i o ho hi e he hb
      have hio : i < ops.size := by rw [← hlen]; exact (List.getElem?_eq_some_iff.1 ho).1
      have hi' : listed.getD i false = true := hi
      rw [hlist i hio] at hi'
      have hlt' := chkEdges_spec hed ho e he hb
      rw [Nat.zero_add] at hlt'
      show listed.getD e.on false = true
      rw [hlist _ (by omega)]
      simp at hi' ⊢
      omega
    have hready : ∀ i ∈ Region.ready .any ops listed, i = j ∧ i < ops.size := by
      intro i hi
      unfold Region.ready at hi
      rw [List.mem_filter] at hi
      obtain ⟨h1, h2⟩ := hi
      have hi' : i < ops.size := by simpa using h1
      simp only [Bool.and_eq_true, Bool.not_eq_true'] at h2
      rw [hlt i hi'] at h2
      simp at h2
      obtain ⟨h3, h4⟩ := h2
      refine ⟨?_, hi'⟩
      rcases Nat.lt_or_ge j i with hji | hji
      · exfalso
        rw [Array.getElem?_eq_getElem hi'] at h4
        simp only [Option.map_some, Option.getD_some, Array.all_eq_true_iff_forall_mem] at h4
        have ho : l[i]? = some ops[i] := by rw [← hops]; simp [hi']
        obtain ⟨x, hx⟩ : ∃ x, (masks l [])[i]? = some x := ⟨_, List.getElem?_eq_getElem (by rw [(masks_prefix l []).2]; simp; omega)⟩
        have hxe := chkTail_spec htail hx (by omega)
        rw [Nat.zero_add] at hxe
        have := closed_bits hcl hed i _ ho (fun e he hb => by
          have := h4 e he
          unfold binding at hb
          rw [hb] at this
          simpa using this) x j hx (by rw [hxe, Nat.testBit_two_pow_sub_one]; simpa using hji)
        have hjo : j < ops.size := by omega
        have this' : listed.getD j false = true := this
        rw [hlist j hjo] at this'
        simp at this'
      · omega
    cases rest with
    | nil =>
      have hj : ops.size ≤ j := by
        rw [← hlen]
        exact List.drop_eq_nil_iff.1 hd
      have hnil : Region.ready .any ops listed = [] := by
        apply List.eq_nil_iff_forall_not_mem.2
        intro i hi
        have := hready i hi
        omega
      have hend := hQ a w ⟨ρ, σ, h, hs, Fr.refl _ _ _ _ _, Nat.le_refl _⟩
      cases fuel with
      | zero => exact ⟨hnil, hend⟩
      | succ fuel => exact ⟨fun _ => hend, fun i hi => by rw [hnil] at hi; cases hi⟩
    | cons o rest =>
      obtain ⟨fuel, rfl⟩ : ∃ f, fuel = f + 1 := ⟨fuel - 1, by simp at hf; omega⟩
      have hjl : j < l.length := by
        rcases Nat.lt_or_ge j l.length with h | h
        · exact h
        · rw [List.drop_eq_nil_iff.2 h] at hd; cases hd
      have hlj : l[j]? = some o := by
        have := congrArg (fun x => x[0]?) hd
        simpa using this
      have hoj : ops[j]? = some o := by rw [← hops, Array.getElem?_toList] at hlj; exact hlj
      have hdr : l.drop (j + 1) = rest := by
        rw [List.drop_eq_getElem_cons hjl] at hd
        injection hd
      refine ⟨fun hnil => ?_, fun i hi => ?_⟩
      · exfalso
        have hjin : j ∈ Region.ready .any ops listed := by
          unfold Region.ready
          rw [List.mem_filter]
          refine ⟨by simp; omega, ?_⟩
          rw [hlt j (by omega), hoj]
          simp only [Option.map_some, Option.getD_some, Bool.and_eq_true]
          refine ⟨by simp, ?_⟩
          rw [Array.all_eq_true_iff_forall_mem]
          intro e he
          cases hb : Region.binds .any e with
          | false => rfl
          | true =>
            have := chkEdges_spec hed hlj e he hb
            rw [Nat.zero_add] at this
            simp [hlist e.on (by omega), this]
        rw [hnil] at hjin
        cases hjin
      · obtain ⟨rfl, _⟩ := hready i hi
        unfold wpOpIn
        rw [hoj]
        simp only
        refine execSeq_step hG hC hΓ hcall hs h ?_ hP rnd
        rintro a' w' ⟨ρ', σ', h2, h3, h4, h5⟩
        refine tail_any hG hC hΓ hcall hops hed htail rest (i + 1) _ _ hdr (by omega) (by simp at hf; omega) (by simp [hsz]) (fun k hk => ?_) h3 h2 (fun a'' w'' hr => hQ a'' w'' (hr.trans h4 h5)) (fun ch a'' w'' hr => hP ch a'' w'' (hr.trans h4 h5)) rnd
        rw [Array.getD_eq_getD_getElem?]
        by_cases hki : k = i
        · subst hki
          rw [Array.getElem?_setIfInBounds_self_of_lt (by omega)]
          simp
        · rw [Array.getElem?_setIfInBounds_ne (Ne.symm hki), ← Array.getD_eq_getD_getElem?, hlist k hk]
          congr 1
          apply propext
          omega
  termination_by rest => rest.length


theorem evM_few {K : Nat} {H : Heap} {arg : Operand → AV} {o : Oper} {r : AV} {new : List (Nat × Bk)} (h : (evM P Γ K H arg o).Leaf (r, new)) : new.length ≤ 1 := by
  unfold evM at h
  split at h
  · obtain ⟨_, _, h⟩ := T.Leaf.bind h; cases h; exact Nat.zero_le _
  · split at h <;> cases h; exact Nat.le_refl _
  · split at h <;> cases h; exact Nat.le_refl _
  · split at h <;> first | (cases h; done) | skip
    split at h <;> first | (cases h; done) | skip
    split at h <;> first | (cases h; done) | skip
    split at h <;> first | (cases h; done) | skip
    split at h <;> first | (cases h; done) | skip
    split at h
    · cases h; exact Nat.zero_le _
    cases h; exact Nat.le_refl _
  · split at h
    · unfold strBytes at h
      split at h <;> first | (cases h; done) | skip
      split at h <;> first | (cases h; done) | skip
      cases h; exact Nat.zero_le _
    · obtain ⟨_, _, h⟩ := T.Leaf.bind h; cases h; exact Nat.zero_le _
  · split at h <;> first | (cases h; done) | skip
    split at h <;> cases h
    exact Nat.le_refl _
  · split at h <;> first | (cases h; done) | skip
    split at h <;> first | (cases h; done) | skip
    unfold makeI at h
    split at h <;> first | (cases h; done) | skip
    split at h <;> first | (cases h; done) | skip
    · unfold makeV at h
      split at h <;> first | (cases h; done) | skip
      split at h <;> first | (cases h; done) | skip
      cases h with
      | need _ h =>
        cases h; exact Nat.le_refl _
    split at h <;> first | (cases h; done) | skip
    split at h <;> first | (cases h; done) | skip
    cases h with
    | need _ h => cases h; exact Nat.le_refl _
  · split at h <;> first | (cases h; done) | skip
    split at h <;> first | (cases h; done) | skip
    split at h <;> first | (cases h; done) | skip
    split at h <;> first | (cases h; done) | skip
    cases h with
    | need _ h => rw [show new = [] from conRes_new h]; exact Nat.zero_le _
  · unfold appendE at h
    split at h <;> first | (cases h; done) | skip
    split at h <;> first | (cases h; done) | skip
    split at h <;> first | (cases h; done) | skip
    split at h <;> first | (cases h; done) | skip
    split at h <;> first | (cases h; done) | skip
    split at h <;> first | (cases h; done) | skip
    split at h <;> first | (cases h; done) | skip
    unfold appendNew at h
    cases h with
    | need _ h => cases h; exact Nat.zero_le _
  · obtain ⟨_, _, h⟩ := T.Leaf.bind h; cases h; exact Nat.zero_le _

/-- Memory whose blocks are listed in another order. -/
theorem MRel.perm {ρ : Nat → Nat} {H H' : Heap} {next : Nat} {w : World} (hm : MRel C ρ H next w) (h : ∀ x, x ∈ H ↔ x ∈ H') (hn : H'.keys.Nodup) : MRel C ρ H' next w ∧ Ext C ρ H w ρ H' w := by
  have hk : ∀ k, k ∈ H.keys ↔ k ∈ H'.keys := by
    intro k
    simp only [Heap.keys, List.mem_map, h]
  have hext : Ext C ρ H w ρ H' w := ⟨fun b ⟨h1, h2, h3⟩ => ⟨⟨h1, h2, fun k hk' => h3 k ((hk k).2 hk')⟩, rfl⟩, fun k hk' => ⟨(hk k).1 hk', rfl⟩, fun k e t l hm => ⟨l, (h _).1 hm, Nat.le_refl _, fun c fr hc => ⟨c, fr, hc, rfl⟩⟩, Nat.le_refl _⟩
  exact ⟨⟨hm.below, hn, fun k hk' => hm.lt k ((hk k).2 hk'), fun k hk1 k' hk2 => hm.inj k ((hk k).2 hk1) k' ((hk k').2 hk2), fun k hk' => hm.low k ((hk k).2 hk'), fun k b hb => (hm.mem k b ((h _).2 hb)).ext hext rfl⟩, hext⟩

theorem preT_nodup {sk : List (Nat × Nat)} {Hs : Heap} : ∀ (l : List Oper) (K : Nat) (H0 : Nat → Heap → Heap) (σ : St) (s : List (Nat × Bk)) (z : St × List (Nat × Bk)), (preT P Γ ops sk Hs H0 l K σ s).Leaf z → σ.H.keys.Nodup → (∀ k ∈ σ.H.keys, k < K) → z.1.H.keys.Nodup
  | [], K, H0, σ, s, z, h, hn, _ => by cases h; exact hn
  | o :: rest, K, H0, σ, s, z, h, hn, hk => by
    have key : ∀ (σ1 : St) (u : Out) (s' : List (Nat × Bk)), σ1.H = σ.H → (∀ x ∈ u.new, x.1 = K) → u.new.length ≤ 1 → (preT P Γ ops sk Hs H0 rest (K + 1) (σ1.step o u) s').Leaf z → z.1.H.keys.Nodup := by
      intro σ1 u s' e1 hu hl hlf
      have hH : (σ1.step o u).H = u.new ++ σ.H := by unfold St.step; rw [St.put_H]; simp only [e1]
      refine preT_nodup rest (K + 1) H0 _ _ z hlf ?_ ?_
      · rw [hH]
        match hun : u.new, hl with
        | [], _ => exact hn
        | [x], _ =>
          refine List.nodup_cons.2 ⟨fun hm => ?_, hn⟩
          have h1 : x.1 < K := hk _ hm
          have := hu x (by rw [hun]; simp)
          omega
      · rw [hH]
        intro k hkm
        obtain ⟨x, hx, e⟩ := List.mem_map.1 hkm
        subst e
        rcases List.mem_append.1 hx with hx | hx
        · have := hu x hx; omega
        · have := hk x.1 (List.mem_map.2 ⟨x, hx, rfl⟩); omega
    have run : ∀ (σ1 : St) (u : Out) (s' : List (Nat × Bk)), σ1.H = σ.H → (evS P Γ sk Hs K (H0 K σ.H) σ1.eval o).Leaf u → (preT P Γ ops sk Hs H0 rest (K + 1) (σ1.step o u) s').Leaf z → z.1.H.keys.Nodup := by
      intro σ1 u s' e h1 h2
      unfold evS at h1
      split at h1
      · split at h1
        · obtain ⟨b, _, h4⟩ := T.Leaf.bind h1
          cases h4
          exact key σ1 _ s' e (by intro x hx; cases hx) (Nat.zero_le _) h2
        · cases h1
      · split at h1
        · obtain ⟨y, h3, h4⟩ := T.Leaf.bind h1
          cases h4
          exact key σ1 (.ran y.1 y.2) s' e (evM_keys h3) (evM_few h3) h2
        · split at h1
          · split at h1
            · cases h1
              exact key σ1 _ s' e (by intro x hx; simp only [Out.new, List.mem_singleton] at hx; subst hx; rfl) (Nat.le_refl _) h2
            · cases h1
          · cases h1
    have skp : ∀ (σ1 : St) (s' : List (Nat × Bk)), σ1.H = σ.H → (preT P Γ ops sk Hs H0 rest (K + 1) (σ1.step o .skip) s').Leaf z → z.1.H.keys.Nodup :=
      fun σ1 s' e h2 => key σ1 .skip s' e (by intro x hx; cases hx) (Nat.zero_le _) h2
    simp only [preT] at h
    split at h
    · obtain ⟨y, h1, h2⟩ := T.Leaf.bind h
      exact run σ y _ rfl h1 h2
    · rename_i j want hg
      split at h
      · rename_i t ht
        split at h
        · cases h with
          | t h =>
            cases want with
            | true => obtain ⟨y, h1, h2⟩ := T.Leaf.bind h; exact run _ y _ (St.put_H _ _ _) h1 h2
            | false => exact skp _ _ (St.put_H _ _ _) h
          | f h =>
            cases want with
            | true => exact skp _ _ (St.put_H _ _ _) h
            | false => obtain ⟨y, h1, h2⟩ := T.Leaf.bind h; exact run _ y _ (St.put_H _ _ _) h1 h2
        · exact skp _ _ rfl h
        · cases h
      · cases h

theorem nodupB_sound {l : List Nat} (h : nodupB l = true) : l.Nodup := by
  induction l with
  | nil => exact List.nodup_nil
  | cons k r ih =>
    simp only [nodupB, Bool.and_eq_true, Bool.not_eq_true'] at h
    exact List.nodup_cons.2 ⟨by have := h.1; simpa using this, ih h.2⟩

theorem veil_mem {sk : List (Nat × Nat)} {H : Heap} {k : Nat} {b : Bk} : (k, b) ∈ veil sk H ↔ ∃ b', (k, b') ∈ H ∧ b = (match skHas sk k with | true => b'.veil | false => b') := by
  induction H with
  | nil => simp [veil]
  | cons x r ih =>
    obtain ⟨j, y⟩ := x
    simp only [veil, List.mem_cons, ih]
    constructor
    · rintro (e | ⟨b', h1, h2⟩)
      · injection e with e1 e2; subst e1; exact ⟨y, Or.inl rfl, e2⟩
      · exact ⟨b', Or.inr h1, h2⟩
    · rintro ⟨b', h1 | h1, h2⟩
      · injection h1 with e1 e2; subst e1; subst e2; exact Or.inl (by rw [h2] <;> cases skHas sk k <;> rfl)
      · exact Or.inr ⟨b', h1, h2⟩

theorem veil_keys (sk : List (Nat × Nat)) (H : Heap) : (veil sk H).keys = H.keys := by
  induction H with
  | nil => rfl
  | cons x r ih => obtain ⟨j, y⟩ := x; simp only [veil, Heap.keys, List.map_cons] at ih ⊢; rw [ih]

theorem veil_nil (H : Heap) : veil [] H = H := by
  induction H with
  | nil => rfl
  | cons x r ih => obtain ⟨j, y⟩ := x; simp only [veil, skHas, ih]

theorem veilS_eq (sk : List (Nat × Nat)) (H : Heap) : veilS sk H = veil sk H := by
  cases sk with
  | nil => exact (veil_nil H).symm
  | cons x r => rfl

theorem skOf_spec {σ : St} {pre : List Oper} {base : Nat} {Hx : Heap} : ∀ {l : List Oper} {K : Nat} {sk : List (Nat × Nat)}, skOf σ pre base Hx l K = some sk → (∀ K' k, (K', k) ∈ sk → K ≤ K' ∧ ∃ o t a x, l[K' - K]? = some o ∧ o.op = .store t a x ∧ ∃ e cells, Hx.find k = some (.vars e cells)) ∧ (∀ K' k, (K', k) ∈ sk → skGet sk K' = some k)
  | [], K, sk, h => by
    injection h with h
    subst h
    exact ⟨(by intro _ _ h; cases h), (by intro _ _ h; cases h)⟩
  | o :: r, K, sk, h => by
    simp only [skOf] at h
    split at h
    · rename_i l hl
      obtain ⟨h1, h2⟩ := skOf_spec hl
      have shift : ∀ K' k, (K', k) ∈ l → K ≤ K' ∧ ∃ o' t a x, (o :: r)[K' - K]? = some o' ∧ o'.op = .store t a x ∧ ∃ e cells, Hx.find k = some (.vars e cells) := by
        intro K' k hm
        obtain ⟨g0, o', t, a, x, g1, g2⟩ := h1 K' k hm
        refine ⟨by omega, o', t, a, x, ?_, g2⟩
        rw [show K' - K = (K' - (K + 1)) + 1 by omega]
        simpa using g1
      split at h
      · rename_i t a x ho
        split at h
        · rename_i k hk
          split at h
          · rename_i e cells hfk
            injection h with h
            subst h
            refine ⟨fun K' k' hm => ?_, fun K' k' hm => ?_⟩
            · rcases List.mem_cons.1 hm with e | hm
              · injection e with e1 e2; subst e1; subst e2
                exact ⟨Nat.le_refl _, o, t, a, x, by simp, ho, _, _, hfk⟩
              · exact shift K' k' hm
            · rcases List.mem_cons.1 hm with e | hm
              · injection e with e1 e2; subst e1; subst e2
                simp [skGet]
              · have := (h1 K' k' hm).1
                simp only [skGet, ne_beq (show K ≠ K' by omega)]
                exact h2 K' k' hm
          · cases h
        · cases h
      · injection h with h
        subst h
        exact ⟨shift, h2⟩
    · cases h

theorem allocs_keys : ∀ {l : List Oper} {K k : Nat}, k ∈ (allocs P l K).keys → K ≤ k
  | [], _, _, h => by cases h
  | o :: r, K, k, h => by
    simp only [allocs] at h
    split at h
    · split at h
      · rcases List.mem_cons.1 h with e | h
        · rw [e]; exact Nat.le_refl _
        · have := allocs_keys h; omega
      · have := allocs_keys h; omega
    · have := allocs_keys h; omega

theorem find_append_right {H H' : Heap} {k : Nat} (h : k ∉ H.keys) : Heap.find (H ++ H') k = H'.find k := by
  induction H with
  | nil => rfl
  | cons x r ih =>
    obtain ⟨j, b⟩ := x
    simp only [Heap.keys, List.map_cons, List.mem_cons, not_or] at h
    simp only [List.cons_append, Heap.find, ne_beq (Ne.symm h.1)]
    exact ih h.2

theorem allocs_find {H : Heap} {e : TypeId} {zs : List AV} {o : Oper} : ∀ {l : List Oper} {K i : Nat}, l[i]? = some o → o.op = .alloc e → zeroAVs P e = some zs → Heap.find (allocs P l K ++ H) (K + i) = some (.vars e zs)
  | [], _, _, h, _, _ => by cases h
  | p :: r, K, 0, h, ho, hz => by
    injection h with h
    subst h
    simp [allocs, ho, hz, Heap.find]
  | p :: r, K, i + 1, h, ho, hz => by
    have ih := allocs_find (H := H) (K := K + 1) (i := i) (l := r) (by simpa using h) ho hz
    rw [show K + (i + 1) = K + 1 + i by omega]
    simp only [allocs]
    split
    · split
      · simp only [List.cons_append, Heap.find, ne_beq (show K ≠ K + 1 + i by omega)]
        exact ih
      · exact ih
    · exact ih
end
end Go.Vg

namespace Go.Vg
open Go Go.RowKit

def cntL (ls : Nat → Bool) : Nat → Nat
  | 0 => 0
  | k + 1 => cntL ls k + (if ls k then 1 else 0)

theorem cntL_le (ls : Nat → Bool) : ∀ n, cntL ls n ≤ n
  | 0 => Nat.le_refl _
  | n + 1 => by have := cntL_le ls n; simp only [cntL]; split <;> omega

theorem cntL_lt {ls : Nat → Bool} {i : Nat} (hi : ls i = false) : ∀ {n}, i < n → cntL ls n < n
  | 0, h => by omega
  | n + 1, h => by
    simp only [cntL]
    by_cases hn : i = n
    · subst hn
      have := cntL_le ls i
      rw [hi]; simp; omega
    · have := cntL_lt hi (n := n) (by omega)
      split <;> omega

theorem cntL_add_ge {ls : Nat → Bool} {i : Nat} : ∀ {n}, n ≤ i → cntL (addL ls i) n = cntL ls n
  | 0, _ => rfl
  | n + 1, h => by
    simp only [cntL]
    rw [cntL_add_ge (n := n) (by omega)]
    simp [addL, show ¬ n = i by omega]

theorem cntL_add {ls : Nat → Bool} {i : Nat} (hi : ls i = false) : ∀ {n}, i < n → cntL (addL ls i) n = cntL ls n + 1
  | 0, h => by omega
  | n + 1, h => by
    simp only [cntL]
    by_cases hn : i = n
    · subst hn
      rw [cntL_add_ge (Nat.le_refl _), hi]
      simp [addL]
    · rw [cntL_add hi (n := n) (by omega)]
      simp [addL, show ¬ n = i by omega]
      omega

theorem cntL_split {ls : Nat → Bool} {m : Nat} (h1 : ∀ i, i < m → ls i = true) (h2 : ∀ i, m ≤ i → ls i = false) : ∀ {n}, cntL ls n = min n m
  | 0 => by simp [cntL]
  | n + 1 => by
    simp only [cntL]
    rw [cntL_split h1 h2 (n := n)]
    by_cases hn : n < m
    · rw [h1 n hn]; simp; omega
    · rw [h2 n (by omega)]; simp; omega

section
variable {C : Ctx} {P : Program} {G : World → Prop} {Γ : Cons} {ops : Array Oper}

theorem least_not {ls : Nat → Bool} : ∀ {m : Nat}, (∃ i, i < m ∧ ls i = false) → ∃ i, i < m ∧ ls i = false ∧ ∀ j, j < i → ls j = true
  | 0, ⟨i, h, _⟩ => by omega
  | m + 1, ⟨i, h, hi⟩ => by
    by_cases hex : ∃ i, i < m ∧ ls i = false
    · obtain ⟨k, h1, h2, h3⟩ := least_not hex
      exact ⟨k, by omega, h2, h3⟩
    · refine ⟨i, h, hi, fun j hj => ?_⟩
      cases hb : ls j with
      | true => rfl
      | false => exact absurd ⟨j, by omega, hb⟩ hex

theorem draw_core (hG : GMono G) (hC : G C.w0) (hΓ : Γ.ok P G) {call : CallT} (hcall : CallSat P G call) {Q : Exit → Act → World → Prop} {K : Fi → Prop} {ρ : Nat → Nat} {σ : St} {a : Act} {w : World}
    (hs : SRel C ρ σ a w) {sk : List (Nat × Nat)} (hskof : skOf σ (ops.toList.take (splitAt (masks ops.toList []))) σ.next (allocs P (ops.toList.take (splitAt (masks ops.toList []))) σ.next ++ σ.H) (ops.toList.take (splitAt (masks ops.toList []))) σ.next = some sk) (hpre : chkPre ops (ops.toList.take (splitAt (masks ops.toList []))) (ops.toList.take (splitAt (masks ops.toList []))) 0 = true)
    (hed : chkEdges ops.toList 0 = true) (htail : chkTail (splitAt (masks ops.toList [])) (masks ops.toList []) 0 = true) (hml : splitAt (masks ops.toList []) ≤ ops.toList.length) (hsnd : nodupB (sk.map (·.2)) = true) (hlaid : chkLaid (ops.toList.take (splitAt (masks ops.toList []))) σ.next sk = true) {z : St × List (Nat × Bk)}
    (hleaf : (preT P Γ ops sk (allocs P (ops.toList.take (splitAt (masks ops.toList []))) σ.next ++ σ.H) (lateH (ops.toList.take (splitAt (masks ops.toList []))) σ.next sk (allocs P (ops.toList.take (splitAt (masks ops.toList []))) σ.next ++ σ.H) (veil sk σ.H)) (ops.toList.take (splitAt (masks ops.toList []))) σ.next { σ with H := veil sk σ.H, next := σ.next + splitAt (masks ops.toList []) } []).Leaf z)
    (hex : execSeq P Γ call ops (ops.toList.drop (splitAt (masks ops.toList []))) (unveil (allocs P (ops.toList.take (splitAt (masks ops.toList []))) σ.next ++ σ.H) sk z) K) (hQ : ∀ a' w', Reach C σ ρ w (fun σ' => K (.go σ')) a' w' → Q .normal a' w') (hP : ∀ ch a' w', Reach C σ ρ w (fun σ' => K (.pan ch σ')) a' w' → Q (.panic ch) a' w') (rnd : Option Nat) :
    wpAnyIn (wideR rnd) 0 P .any ops Q ops.size (Array.replicate ops.size false) a { w with drawn := w.drawn + 1 } := by
  generalize hlg : ops.toList = l at *
  generalize hmg : splitAt (masks l []) = m at *
  have hxlt : ∀ k, k < σ.next → Heap.find (allocs P (l.take m) σ.next ++ σ.H) k = σ.H.find k := fun k hk => find_append_right (fun hm => by have := allocs_keys hm; omega)
  have hxnew : ∀ (i : Nat) (o : Oper) (e : TypeId) (zs : List AV), (l.take m)[i]? = some o → o.op = .alloc e → zeroAVs P e = some zs → Heap.find (allocs P (l.take m) σ.next ++ σ.H) (σ.next + i) = some (.vars e zs) := fun i o e zs h1 h2 h3 => allocs_find h1 h2 h3
  generalize allocs P (l.take m) σ.next ++ σ.H = Hs at *
  have hlen : l.length = ops.size := by rw [← hlg]; simp
  have hplen : (l.take m).length = m := by simp; omega
  obtain ⟨us, htr, hH1, hn1, hn2, hsts⟩ := preT_trace _ _ _ _ _ hleaf
  have hulen : us.length = m := by rw [htr.length, hplen]
  have hnd : z.1.H.keys.Nodup := preT_nodup _ _ _ _ _ _ hleaf (by show (veil sk σ.H).keys.Nodup; rw [veil_keys]; exact hs.m.nodup) (by show ∀ k ∈ (veil sk σ.H).keys, k < σ.next; rw [veil_keys]; exact hs.m.lt)
  obtain ⟨hsp1, hsp2⟩ := skOf_spec hskof
  have hskok : SkOk sk σ.next (l.take m) := ⟨nodupB_sound hsnd, hsp2, fun K' k hk => by obtain ⟨_, o, t, a, x, g1, g2, _⟩ := hsp1 K' k hk; exact ⟨o, t, a, x, g1, g2⟩, chkLaid_spec hlaid⟩
  -- the beginning
  obtain ⟨hmv, hextv⟩ := hs.m.reveal (H' := veil sk σ.H) (fun k => by rw [veil_keys]) (fun k e t l hk => veil_mem.2 ⟨_, hk, by cases skHas sk k <;> rfl⟩) (by rw [veil_keys]; exact hs.m.nodup) (fun k b hb => by
    obtain ⟨b', h1, h2⟩ := veil_mem.1 hb
    have hbr := hs.m.mem k b' h1
    subst h2
    cases skHas sk k with
    | false => exact hbr
    | true =>
      cases b' with
      | vars e cells => exact hbr.block
      | _ => exact hbr)
  obtain ⟨hmd, hextd⟩ := hmv.grow (w' := w.drew) ((Below.refl _ _).drew)
  have hstk : ∀ (j : Nat) (k : Nat) (b : Bk), us[j]? = some (.st k b) → (σ.next + j, k) ∈ sk := by
    intro j k b hj
    have hjl : j < (l.take m).length := by have := (List.getElem?_eq_some_iff.1 hj).1; omega
    obtain ⟨v', fj, _, h1, _, h3, _⟩ := htr.nth (i := j) (o := (l.take m)[j]) (by rw [List.getElem?_eq_getElem hjl])
    rw [hj] at h1
    injection h1 with h1
    subst h1
    exact skGet_mem h3.2.1
  have huv : (unveil Hs sk z).H = putBlocks (putBlocks z.1.H (olds Hs sk)) z.2 ∧ (unveil Hs sk z).slots = z.1.slots ∧ (unveil Hs sk z).next = z.1.next ∧ (unveil Hs sk z).n = z.1.n := by
    cases hsk0 : sk with
    | nil =>
      have : z.2 = [] := by
        apply List.eq_nil_iff_forall_not_mem.2
        intro x hx
        rcases (hsts x).1 hx with hx | ⟨j, u, h1, h2⟩
        · cases hx
        · cases u with
          | st k b => have := hstk j k b h1; rw [hsk0] at this; cases this
          | _ => cases h2
      simp only [unveil, olds, this, putBlocks, and_self]
    | cons y r => exact ⟨rfl, rfl, rfl, rfl⟩
  have hnewk : ∀ (j : Nat) (v : Out), us[j]? = some v → ∀ x ∈ v.new, x.1 = σ.next + j := by
    intro j v hj x hx
    have hjl : j < (l.take m).length := by have := (List.getElem?_eq_some_iff.1 hj).1; omega
    obtain ⟨v', fj, _, h1, _, h3, _⟩ := htr.nth (i := j) (o := (l.take m)[j]) (by rw [List.getElem?_eq_getElem hjl])
    rw [hj] at h1
    injection h1 with h1
    subst h1
    cases v with
    | ran r new =>
      rcases h3.2 with ⟨_, h3⟩ | ⟨_, _, _, _, _, rfl⟩
      · exact evM_keys h3 x hx
      · simp only [Out.new, List.mem_singleton] at hx; subst hx; rfl
    | skip => cases hx
    | st k b => cases hx
  have fin : ∀ (fuel : Nat) (listed : Array Bool) (a : Act) (w' : World), listed.size = ops.size → (∀ i, i < m → listed.getD i false = true) → (∀ j, m ≤ j → listed.getD j false = false) →
      AInv C ρ w.drew { σ with H := veil sk σ.H, next := σ.next + m } Hs sk σ.next (l.take m) us (fun i => listed.getD i false) a w' → ops.size - m ≤ fuel → wpAnyIn (wideR rnd) 0 P .any ops Q fuel listed a w' := by
    intro fuel listed a w' hsz hall hsuf hinv hfuel
    obtain ⟨ρ', Hd, hH, hm', hsl, hsz', hdf, hext, hski⟩ := hinv
    have hmem : ∀ x, x ∈ Hd ↔ x ∈ z.1.H := by
      intro x
      rw [hH, hH1]
      constructor
      · rintro (hx | ⟨j, u, h1, _, h3⟩)
        · exact Or.inl hx
        · exact Or.inr ⟨j, u, h1, h3⟩
      · rintro (hx | ⟨j, u, h1, h3⟩)
        · exact Or.inl hx
        · exact Or.inr ⟨j, u, h1, hall j (by have := (List.getElem?_eq_some_iff.1 h1).1; omega), h3⟩
    obtain ⟨hm1, hext1⟩ := hm'.perm hmem hnd
    have hkeys : ∀ k, k ∈ z.1.H.keys → k ∈ Hd.keys := fun k hk => by
      obtain ⟨x, hx, e⟩ := List.mem_map.1 hk
      exact List.mem_map.2 ⟨x, (hmem x).2 hx, e⟩
    have hanyk : ∀ K k, (K, k) ∈ sk → k ∈ z.1.H.keys → (k, Bk.any) ∈ z.1.H := fun K k hk hkk => by
      obtain ⟨_, e, cells, _, g⟩ := hski K k hk
      exact (hmem _).1 (g (hkeys k hkk)).1
    have hstsk : ∀ k b, (k, b) ∈ z.2 → ∃ j, us[j]? = some (.st k b) ∧ (σ.next + j, k) ∈ sk := by
      intro k b hkb
      rcases (hsts (k, b)).1 hkb with hx | ⟨j, u, h1, h2⟩
      · cases hx
      · cases u with
        | st k' b' =>
          have h2' : (k, b) ∈ [(k', b')] := h2
          simp only [List.mem_singleton] at h2'
          injection h2' with e1 e2
          subst e1; subst e2
          exact ⟨j, h1, hstk j _ _ h1⟩
        | ran r new => cases h2
        | skip => cases h2
    have hnd2 : (putBlocks (putBlocks z.1.H (olds Hs sk)) z.2).keys.Nodup := by rw [putBlocks_keys, putBlocks_keys]; exact hnd
    obtain ⟨hm2, hext2⟩ := hm1.reveal (H' := (unveil Hs sk z).H) (fun k => by rw [huv.1, putBlocks_keys, putBlocks_keys]) (fun k e t l hk => by
        rw [huv.1]
        have no : ∀ K, (K, k) ∉ sk := fun K hK => by have := Heap.mem_unique hnd hk (hanyk K k hK (mem_keys hk)); cases this
        refine putBlocks_other (putBlocks_other hk (fun b' hb' => ?_)) (fun b' hb' => ?_)
        · obtain ⟨⟨K, hK⟩, _⟩ := olds_mem.1 hb'; exact no K hK
        · obtain ⟨j, _, hK⟩ := hstsk k b' hb'; exact no _ hK) (by rw [huv.1]; exact hnd2) (fun k b hb => by
        have hkk : k ∈ Hd.keys := by
          have := mem_keys hb
          rw [huv.1, putBlocks_keys, putBlocks_keys] at this
          exact hkeys k this
        rw [huv.1] at hb
        rcases putBlocks_mem (by rw [putBlocks_keys]; exact hnd) hb with hb | ⟨hb1, hb2⟩
        · obtain ⟨j, h1, h2⟩ := hstsk k b hb
          obtain ⟨_, e, cells, _, g⟩ := hski _ _ h2
          have g := (g hkk).2
          rw [show σ.next + j - σ.next = j by omega] at g
          rcases g with ⟨b', g1, g2, g3⟩ | ⟨g1, g2⟩
          · rw [h1] at g1; injection g1 with g1; injection g1 with _ g1; subst g1
            exact g3.ext hext1 rfl
          · exfalso
            rcases g1 with g1 | g1
            · have := hall j (by have := (List.getElem?_eq_some_iff.1 h1).1; omega)
              have g1' : listed.getD j false = false := g1
              rw [this] at g1'; cases g1'
            · rw [h1] at g1; cases g1
        · rcases putBlocks_mem hnd hb2 with hb2 | ⟨hb3, hb4⟩
          · obtain ⟨⟨K, hK⟩, hf⟩ := olds_mem.1 hb2
            obtain ⟨h0, e, cells, hf', g⟩ := hski _ _ hK
            have g := (g hkk).2
            rw [hf] at hf'
            injection hf' with hf'
            subst hf'
            rcases g with ⟨b', g1, _, _⟩ | ⟨_, g2⟩
            · exact absurd ((hsts (k, b')).2 (Or.inr ⟨_, _, g1, List.mem_singleton.2 rfl⟩)) (hb1 b')
            · exact g2.ext hext1 rfl
          · exact hm1.mem k b hb4)
    have hs1 : SRel C ρ' (unveil Hs sk z) a w' := by
      refine ⟨by rw [huv.2.2.1, hn1]; exact hm2, fun t => ?_, by rw [huv.2.2.2, hn2]; exact hsz', (hdf.mono hext1.data hext1.size).mono hext2.data hext2.size⟩
      rw [huv.2.1]
      refine hext2.vr (hext1.vr (hsl t _ ?_))
      rcases htr.slot t with ⟨j, o, u, h1, h2, h3, h4, h5⟩ | ⟨h1, h2⟩
      · exact Or.inl ⟨j, o, u, h1, h2, h3, h4, hall j (by have := (List.getElem?_eq_some_iff.1 h2).1; omega), h5⟩
      · exact Or.inr ⟨fun j o hj hd hlt => absurd hlt (h1 j o hj hd), h2⟩
    have hfr : Fr C σ.next ρ σ.H w ρ' (unveil Hs sk z).H w' := (hextv.trans (hextd.trans (hext.trans (hext1.trans hext2)))).fr (fun k hk hkm => by
      rw [huv.1, putBlocks_keys, putBlocks_keys] at hkm
      obtain ⟨x, hx, e⟩ := List.mem_map.1 hkm
      rcases (hH1 x).1 hx with hx | ⟨j, u, h1, h3⟩
      · have : x.1 ∈ (veil sk σ.H).keys := List.mem_map.2 ⟨x, hx, rfl⟩
        rw [veil_keys] at this
        exact e ▸ this
      · have := hnewk j u h1 x h3
        omega)
    refine tail_any hG hC hΓ hcall hlg hed htail (l.drop m) m fuel listed rfl (Nat.le_refl _) (by simp; omega) hsz (fun i hi => ?_) hs1 hex (fun a'' w'' hr => hQ a'' w'' (hr.trans hfr (by rw [huv.2.2.1, hn1]; exact Nat.le_add_right _ _))) (fun ch a'' w'' hr => hP ch a'' w'' (hr.trans hfr (by rw [huv.2.2.1, hn1]; exact Nat.le_add_right _ _))) rnd
    by_cases him : i < m
    · rw [hall i him]; simp [him]
    · rw [hsuf i (by omega)]; simp [him]
  have key : ∀ (fuel : Nat) (listed : Array Bool) (a : Act) (w' : World), listed.size = ops.size → Closed l (fun i => listed.getD i false) → (∀ j, m ≤ j → listed.getD j false = false) →
      AInv C ρ w.drew { σ with H := veil sk σ.H, next := σ.next + m } Hs sk σ.next (l.take m) us (fun i => listed.getD i false) a w' → ops.size ≤ fuel + cntL (fun i => listed.getD i false) ops.size → wpAnyIn (wideR rnd) 0 P .any ops Q fuel listed a w' := by
    intro fuel
    induction fuel with
    | zero =>
      intro listed a w' hsz hcl hsuf hinv hcnt
      by_cases hall : ∃ i, i < m ∧ listed.getD i false = false
      · obtain ⟨i, hi, hi'⟩ := hall
        have := cntL_lt (ls := fun i => listed.getD i false) hi' (n := ops.size) (by omega)
        omega
      · have hall' : ∀ i, i < m → listed.getD i false = true := fun i hi => by
          cases hb : listed.getD i false with
          | true => rfl
          | false => exact absurd ⟨i, hi, hb⟩ hall
        have hc := cntL_split (ls := fun i => listed.getD i false) hall' hsuf (n := ops.size)
        exact fin 0 listed a w' hsz hall' hsuf hinv (by omega)
    | succ fuel ih =>
      intro listed a w' hsz hcl hsuf hinv hcnt
      by_cases hall : ∃ i, i < m ∧ listed.getD i false = false
      · have hlt : ∀ i, i < ops.size → listed.getD i true = listed.getD i false := by
          intro i hi
          rw [Array.getD_eq_getD_getElem?, Array.getD_eq_getD_getElem?, Array.getElem?_eq_getElem (by omega)]
          rfl
        refine ⟨fun hnil => ?_, fun i hi => ?_⟩
        · exfalso
          obtain ⟨i, hi1, hi2, hi3⟩ := least_not (ls := fun i => listed.getD i false) hall
          have hio : i < ops.size := by omega
          have hil : l[i]? = some ops[i] := by rw [← hlg]; simp [hio]
          have : i ∈ Region.ready .any ops listed := by
            unfold Region.ready
            rw [List.mem_filter]
            refine ⟨by simpa using hio, ?_⟩
            rw [hlt i hio, show listed.getD i false = false from hi2, Array.getElem?_eq_getElem hio]
            simp only [Option.map_some, Option.getD_some, Bool.not_false, Bool.true_and]
            rw [Array.all_eq_true_iff_forall_mem]
            intro e he
            cases hb : Region.binds .any e with
            | false => rfl
            | true =>
              have := chkEdges_spec hed hil e he hb
              rw [Nat.zero_add] at this
              have h3 : listed.getD e.on false = true := hi3 e.on this
              simp [h3]
          rw [hnil] at this
          cases this
        · unfold Region.ready at hi
          rw [List.mem_filter] at hi
          obtain ⟨h1, h2⟩ := hi
          have hio : i < ops.size := by simpa using h1
          have hil : l[i]? = some ops[i] := by rw [← hlg]; simp [hio]
          rw [hlt i hio, Array.getElem?_eq_getElem hio] at h2
          simp only [Bool.and_eq_true, Bool.not_eq_true', Option.map_some, Option.getD_some, Array.all_eq_true_iff_forall_mem] at h2
          obtain ⟨h3, h4⟩ := h2
          have hedge : ∀ e ∈ ops[i].after, binding e = true → listed.getD e.on false = true := by
            intro e he hb
            have := h4 e he
            unfold binding at hb
            rw [hb] at this
            simpa using this
          by_cases him : i < m
          · have hpi : (l.take m)[i]? = some ops[i] := by rw [List.getElem?_take, if_pos him]; exact hil
            refine AInv.step hG hC hΓ (l := l) (σ0 := { σ with H := veil sk σ.H, next := σ.next + m }) (base := σ.next) hlg (fun j p hp => by
              have hjm : j < m := by have := (List.getElem?_eq_some_iff.1 hp).1; omega
              rw [List.getElem?_take, if_pos hjm] at hp; exact hp) hskok htr hpre (by show (veil sk σ.H).keys.Nodup; rw [veil_keys]; exact hs.m.nodup) (by show ∀ k ∈ (veil sk σ.H).keys, k < σ.next; rw [veil_keys]; exact hs.m.lt) (by rw [hplen]; exact Nat.le_refl _) hxnew hcl hpi h3 hedge hinv (fun a'' w'' hinv'' => ?_) rnd
            have hfun : (fun j => (listed.setIfInBounds i true).getD j false) = addL (fun j => listed.getD j false) i := by
              funext j
              unfold addL
              by_cases hj : j = i
              · subst hj
                rw [if_pos rfl, Array.getD_eq_getD_getElem?, Array.getElem?_setIfInBounds_self_of_lt (by omega)]
                rfl
              · rw [if_neg hj, Array.getD_eq_getD_getElem?, Array.getElem?_setIfInBounds_ne (Ne.symm hj), ← Array.getD_eq_getD_getElem?]
            refine ih _ a'' w'' (by simp [hsz]) ?_ ?_ (by rw [hfun]; exact hinv'') ?_
            · rw [hfun]
              intro j o hj hlj e he hb
              unfold addL at hlj ⊢
              split
              · rfl
              · split at hlj
                · rename_i hji
                  subst hji
                  rw [hil] at hj
                  injection hj with hj
                  subst hj
                  exact hedge e he hb
                · exact hcl j o hj hlj e he hb
            · intro j hj
              have : (listed.setIfInBounds i true).getD j false = addL (fun j => listed.getD j false) i j := congrFun hfun j
              rw [this]
              unfold addL
              rw [if_neg (by omega)]
              exact hsuf j hj
            · rw [hfun, cntL_add h3 hio]
              omega
          · exfalso
            obtain ⟨k, hk1, hk2⟩ := hall
            obtain ⟨x, hx⟩ : ∃ x, (masks l [])[i]? = some x := ⟨_, List.getElem?_eq_getElem (by rw [(masks_prefix l []).2]; simp; omega)⟩
            have hxe := chkTail_spec htail hx (by omega)
            rw [Nat.zero_add] at hxe
            have := closed_bits hcl hed i _ hil hedge x k hx (by rw [hxe, Nat.testBit_two_pow_sub_one]; simp; omega)
            have this' : listed.getD k false = true := this
            rw [hk2] at this'
            cases this'
      · have hall' : ∀ i, i < m → listed.getD i false = true := fun i hi => by
          cases hb : listed.getD i false with
          | true => rfl
          | false => exact absurd ⟨i, hi, hb⟩ hall
        have hc := cntL_split (ls := fun i => listed.getD i false) hall' hsuf (n := ops.size)
        exact fin (fuel + 1) listed a w' hsz hall' hsuf hinv (by omega)
  refine key _ _ _ _ (by simp) ?_ ?_ ?_ (by omega)
  · intro j o _ hj
    exfalso
    have hj' : (Array.replicate ops.size false).getD j false = true := hj
    rw [Array.getD_eq_getD_getElem?] at hj'
    by_cases hjs : j < ops.size
    · simp [hjs] at hj'
    · simp [hjs] at hj'
  · intro j _
    rw [Array.getD_eq_getD_getElem?]
    by_cases hjs : j < ops.size
    · simp [hjs]
    · simp [hjs]
  · refine ⟨ρ, veil sk σ.H, fun x => ?_, hmd.mono (Nat.le_add_right _ _), fun t x hx => ?_, hs.size, (hs.defers.mono hextv.data hextv.size).mono hextd.data hextd.size, Ext.refl _ _ _ _, ?_⟩
    · constructor
      · exact Or.inl
      · rintro (hx | ⟨j, u, _, hj, _⟩)
        · exact hx
        · exfalso
          have hj' : (Array.replicate ops.size false).getD j false = true := hj
          rw [Array.getD_eq_getD_getElem?] at hj'
          by_cases hjs : j < ops.size
          · simp [hjs] at hj'
          · simp [hjs] at hj'
    · rcases hx with ⟨j, o, u, _, _, _, _, hj, _⟩ | ⟨_, hx⟩
      · exfalso
        have hj' : (Array.replicate ops.size false).getD j false = true := hj
        rw [Array.getD_eq_getD_getElem?] at hj'
        by_cases hjs : j < ops.size
        · simp [hjs] at hj'
        · simp [hjs] at hj'
      · rw [hx]; exact hextd.vr (hextv.vr (hs.slots t))
    · intro K' k hk
      obtain ⟨h0, o, t, a', x, g1, g2, e, cells, hf⟩ := hsp1 K' k hk
      refine ⟨h0, e, cells, hf, fun hkk => ?_⟩
      rw [veil_keys] at hkk
      rw [hxlt k (hs.m.lt k hkk)] at hf
      refine ⟨veil_mem.2 ⟨_, Heap.find_mem hf, by rw [skHas_iff.2 ⟨K', hk⟩]; rfl⟩, Or.inr ⟨Or.inl ?_, ?_⟩⟩
      · show (Array.replicate ops.size false).getD (K' - σ.next) false = false
        rw [Array.getD_eq_getD_getElem?]
        by_cases hjs : K' - σ.next < ops.size
        · simp [hjs]
        · simp [hjs]
      · exact ((hs.m.mem k _ (Heap.find_mem hf)).ext hextv rfl).ext hextd rfl

theorem execDraw_sound (hG : GMono G) (hC : G C.w0) (hΓ : Γ.ok P G) {call : CallT} (hcall : CallSat P G call) {Q : Exit → Act → World → Prop} {K : Fi → Prop} {ρ : Nat → Nat} {σ : St} {a : Act} {w : World}
    (hs : SRel C ρ σ a w) (h : execDraw P Γ call ops σ K) (hQ : ∀ a' w', Reach C σ ρ w (fun σ' => K (.go σ')) a' w' → Q .normal a' w') (hP : ∀ ch a' w', Reach C σ ρ w (fun σ' => K (.pan ch σ')) a' w' → Q (.panic ch) a' w') (rnd : Option Nat) :
    wpAnyIn (wideR rnd) 0 P .any ops Q ops.size (Array.replicate ops.size false) a { w with drawn := w.drawn + 1 } := by
  unfold execDraw at h
  simp only at h
  split at h
  · rename_i sk hskof
    split at h
    · rename_i hchk
      simp only [Bool.and_eq_true] at hchk
      obtain ⟨⟨⟨⟨⟨hpre, hed⟩, htail⟩, hml⟩, hsnd⟩, hlaid⟩ := hchk
      have hml := Nat.le_of_ble_eq_true hml
      obtain ⟨z, hleaf, hex⟩ := T.leaf h
      rw [veilS_eq] at hleaf
      exact draw_core hG hC hΓ hcall hs hskof hpre hed htail hml hsnd hlaid hleaf hex hQ hP rnd
    · exact h.elim
  · exact h.elim
end
end Go.Vg

namespace Go.Vg
open Go Go.RowKit

def dLe (u : Ty) (y : u.T) : AV → Prop
  | .d t x => match t.as u x with
    | some x' => x' = y
    | none => False
  | .nsl => match nilOf u with
    | some z => z = y
    | none => False
  | .ag l => match toD u (.ag l) with
    | some z => z = y
    | none => False
  | _ => False

def dpLe (u : Ty) (y : u.T) : AV → Prop
  | .dptr t x => match t.as u x with
    | some x' => x' = y
    | none => False
  | _ => False

def ifLe (k : TypeId) (u : Ty) (y : u.T) : AV → Prop
  | .ifc k' t x => k' = k ∧ match t.as u x with
    | some x' => x' = y
    | none => False
  | _ => False

mutual
/-- The first says no more than the second; it refers to blocks of which p holds alone. -/
def AVle (p : Nat → Bool) : AV → AV → Prop
  | .no, _ => True
  | .d u y, a => dLe u y a
  | .dptr u y, a => dpLe u y a
  | .nsl, a => match a with | .nsl => True | _ => False
  | .nilp, a => match a with | .nilp => True | _ => False
  | .nili, a => match a with | .nili => True | _ => False
  | .nni, a => match a with | .nni => True | _ => False
  | .ifc k u y, a => ifLe k u y a
  | .und, a => match a with | .und => True | _ => False
  | .ptr k i, a => match a with | .ptr k' i' => k' = k ∧ i' = i ∧ p k = true | _ => False
  | .eptr k i, a => match a with | .eptr k' i' => k' = k ∧ i' = i ∧ p k = true | _ => False
  | .efp k i f, a => match a with | .efp k' i' f' => k' = k ∧ i' = i ∧ f' = f ∧ p k = true | _ => False
  | .own k o n, a => match a with | .own k' o' n' => k' = k ∧ o' = o ∧ n' = n ∧ p k = true | _ => False
  | .ox k o n, a => match a with | .ox k' o' n' => k' = k ∧ o' = o ∧ n' = n ∧ p k = true | _ => False
  | .sv k o n c, a => match a with | .sv k' o' n' c' => k' = k ∧ o' = o ∧ n' = n ∧ c' = c ∧ p k = true | _ => False
  | .fn f x y, a => match a with | .fn f' x' y' => f' = f ∧ AVles p x x' ∧ AVles p y y' | _ => False
  | .yld l, a => match a with | .yld l' => l' = l ∧ p l = true | _ => False
  | .mp k, a => match a with | .mp k' => k' = k ∧ p k = true | _ => False
  | .ag l, a => match a with | .ag l' => AVles p l l' | _ => False
  | .tup l, a => match a with | .tup l' => AVles p l l' | _ => False
def AVles (p : Nat → Bool) : List AV → List AV → Prop
  | [], as => match as with | [] => True | _ :: _ => False
  | b :: bs, as => match as with | [] => False | a :: as => AVle p b a ∧ AVles p bs as
end

def slotsLe (p : Nat → Bool) (s : List (Nat × AV)) : List (Nat × AV) → Prop
  | [] => True
  | (t, b) :: r => AVle p b (look s t) ∧ slotsLe p s r

def LoopLe (p : Nat → Bool) (r r' : LoopA) : Prop := r'.st = r.st ∧ r'.pend = r.pend ∧ r'.n = r.n ∧ r'.ps = r.ps ∧ r'.assign = r.assign ∧ r'.body = r.body ∧ slotsLe p r'.slots r.slots

def dicLe (p : Nat → Bool) : List (DK × AV) → List (DK × AV) → Prop
  | [], [] => True
  | x :: l, y :: m => x.1 = y.1 ∧ AVle p x.2 y.2 ∧ dicLe p l m
  | _, _ => False

def BkLe (p : Nat → Bool) : Bk → Bk → Prop
  | .loop r, .loop r' => LoopLe p r r'
  | .dic k l, .dic k' l' => k' = k ∧ dicLe p l l'
  | .any, .any => True
  | .vars e cells, .vars e' cells' => e' = e ∧ AVles p cells cells'
  | .row e t l, .row e' t' l' => e' = e ∧ match (t'.sl).as (.sl t) l' with
    | some z => z = l
    | none => False
  | _, _ => False

def heapLe (p : Nat → Bool) (H : Heap) (n : Nat) : Heap → Prop
  | [] => True
  | (k, b) :: r => (match H.find k with
    | some b' => BkLe p b b'
    | none => False) ∧ Nat.blt k n = true ∧ heapLe p H n r

/-- The second state says no more than the first. -/
def Le (σ σ' : St) : Prop := σ'.n = σ.n ∧ slotsLe (hasKey σ'.H) σ.slots σ'.slots ∧ heapLe (hasKey σ'.H) σ.H σ'.next σ'.H ∧ nodupB σ'.H.keys = true

section
variable {C : Ctx} {P : Program} {G : World → Prop}

theorem AVle_sound {ρ : Nat → Nat} {H H' : Heap} {w : World} {p : Nat → Bool} (hd : ∀ b, Ok C ρ H w b → Ok C ρ H' w b) (hk : ∀ k, p k = true → k ∈ H'.keys)
    (hr : ∀ k e t l, p k = true → (k, Bk.row e t l) ∈ H → (k, Bk.row e t l) ∈ H') :
    (∀ b a v, AVle p b a → VR C ρ H w a v → VR C ρ H' w b v) := by
  have hd' : ∀ b, Ok C ρ H w b → Ok C ρ H' w b ∧ w.heap[b]? = w.heap[b]? := fun b h => ⟨hd b h, rfl⟩
  have dat : ∀ (u : Ty) (y : u.T) (a : AV) (v : Value), dLe u y a → VR C ρ H w a v → VR C ρ H' w (.d u y) v := by
    intro u y a v h hv
    unfold dLe at h
    split at h
    · split at h
      · rename_i z hz; subst h; exact .d ((VR.as hv hz).mono hd')
      · exact h.elim
    · split at h
      · rename_i z hz; subst h; cases hv; exact .d (RdV.of_scalar (nilOf_agg hz) (nilOf_sound hz))
      · exact h.elim
    · split at h
      · rename_i z hz; subst h; exact .d ((toD_sound hz hv).mono hd')
      · exact h.elim
    · exact h.elim
  intro b
  refine AV.rec (motive_1 := fun b => ∀ a v, AVle p b a → VR C ρ H w a v → VR C ρ H' w b v) (motive_2 := fun bs => ∀ as vs, AVles p bs as → VRs C ρ H w as vs → VRs C ρ H' w bs vs)
    ?_ ?_ ?_ ?_ ?_ ?_ ?_ ?_ ?_ ?_ ?_ ?_ ?_ ?_ ?_ ?_ ?_ ?_ ?_ ?_ ?_ ?_ b
  · intro t x a v h hv; exact dat t x a v h hv
  · intro k i a v h hv
    simp only [AVle] at h
    split at h
    · obtain ⟨rfl, rfl, hp⟩ := h; cases hv; exact .ptr (hk _ hp)
    · exact h.elim
  · intro k i a v h hv
    simp only [AVle] at h
    split at h
    · obtain ⟨rfl, rfl, hp⟩ := h
      cases hv with
      | eptr hm hi => exact .eptr (hr _ _ _ _ hp hm) hi
    · exact h.elim
  · intro k i f a v h hv
    simp only [AVle] at h
    split at h
    · obtain ⟨rfl, rfl, rfl, hp⟩ := h
      cases hv with
      | efp hm hi ho => exact .efp (hr _ _ _ _ hp hm) hi ho
    · exact h.elim
  · intro t x a v h hv
    simp only [AVle, dpLe] at h
    split at h
    · split at h
      · rename_i t' x' _ z hz
        subst h
        obtain ⟨e, he⟩ := Ty.as_some hz
        subst e
        subst he
        cases hv with
        | dptr hb hc ho hrd => exact .dptr (hd _ hb) hc ho (Rd.mono hd' _ _ _ hrd)
      · exact h.elim
    · exact h.elim
  · intro k o n a v h hv
    simp only [AVle] at h
    split at h
    · obtain ⟨rfl, rfl, rfl, hp⟩ := h
      cases hv with
      | own hm hl hc hmx hb hs ha => exact .own (hr _ _ _ _ hp hm) hl hc hmx hb hs ha
    · exact h.elim
  · intro k o n a v h hv
    simp only [AVle] at h
    split at h
    · obtain ⟨rfl, rfl, rfl, hp⟩ := h
      cases hv with
      | ox hm hl hmx hb hs ha => exact .ox (hr _ _ _ _ hp hm) hl hmx hb hs ha
    · exact h.elim
  · intro k o n c a v h hv
    simp only [AVle] at h
    split at h
    · obtain ⟨rfl, rfl, rfl, rfl, hp⟩ := h
      cases hv with
      | sv hm hn hc => exact .sv (hk _ hp) hn hc
    · exact h.elim
  · intro a v h hv
    simp only [AVle] at h
    split at h
    · cases hv; exact .nsl
    · exact h.elim
  · intro a v h hv
    simp only [AVle] at h
    split at h
    · cases hv; exact .nilp
    · exact h.elim
  · intro a v h hv
    simp only [AVle] at h
    split at h
    · cases hv; exact .nili
    · exact h.elim
  · intro a v h hv
    simp only [AVle] at h
    split at h
    · cases hv; exact .nni
    · exact h.elim
  · intro k t x a v h hv
    simp only [AVle, ifLe] at h
    split at h
    · obtain ⟨rfl, h⟩ := h
      split at h
      · rename_i z hz
        subst h
        obtain ⟨e, he⟩ := Ty.as_some hz
        subst e
        subst he
        cases hv with
        | ifc hr => exact .ifc (hr.mono hd')
      · exact h.elim
    · exact h.elim
  · intro f x y hx hy a v h hv
    simp only [AVle] at h
    split at h
    · obtain ⟨rfl, h1, h2⟩ := h
      cases hv with
      | fn h3 h4 => exact .fn (hx _ _ h1 h3) (hy _ _ h2 h4)
    · exact h.elim
  · intro l a v h hv
    simp only [AVle] at h
    split at h
    · obtain ⟨rfl, hp⟩ := h; cases hv; exact .yld (hk _ hp)
    · exact h.elim
  · intro k a v h hv
    simp only [AVle] at h
    split at h
    · obtain ⟨rfl, hp⟩ := h; cases hv; exact .mp (hk _ hp)
    · exact h.elim
  · intro l hl a v h hv
    simp only [AVle] at h
    split at h
    · cases hv with
      | ag h3 h4 => exact .ag (hl _ _ h h3) h4
    · exact h.elim
  · intro l hl a v h hv
    simp only [AVle] at h
    split at h
    · cases hv with
      | tup h3 => exact .tup (hl _ _ h h3)
    · exact h.elim
  · intro a v h hv
    simp only [AVle] at h
    split at h
    · cases hv; exact .und
    · exact h.elim
  · intro a v _ _; exact .no
  · intro as vs h hv
    simp only [AVles] at h
    split at h
    · cases hv; exact .nil
    · exact h.elim
  · intro b bs hb hbs as vs h hv
    simp only [AVles] at h
    split at h
    · exact h.elim
    · cases hv with
      | cons h1 h2 => exact .cons (hb _ _ h.1 h1) (hbs _ _ h.2 h2)

theorem AVles_sound {ρ : Nat → Nat} {H H' : Heap} {w : World} {p : Nat → Bool} (h : ∀ b a v, AVle p b a → VR C ρ H w a v → VR C ρ H' w b v) : ∀ (bs as : List AV) (vs : List Value), AVles p bs as → VRs C ρ H w as vs → VRs C ρ H' w bs vs
  | [], as, vs, hl, hv => by
    simp only [AVles] at hl
    split at hl
    · cases hv; exact .nil
    · exact hl.elim
  | b :: bs, as, vs, hl, hv => by
    simp only [AVles] at hl
    split at hl
    · exact hl.elim
    · cases hv with
      | cons h1 h2 => exact .cons (h _ _ _ hl.1 h1) (AVles_sound h bs _ _ hl.2 h2)

theorem dicLe_sound {ρ : Nat → Nat} {H H' : Heap} {w : World} {p : Nat → Bool} {k : KK} (h : ∀ b a v, AVle p b a → VR C ρ H w a v → VR C ρ H' w b v) : ∀ {l l' : List (DK × AV)} {es : List MapEntry}, dicLe p l l' → MapR (VR C ρ H w) k l' es → MapR (VR C ρ H' w) k l es
  | [], [], [], _, _ => trivial
  | _ :: _, _ :: _, _ :: _, ⟨e, h1, h2⟩, ⟨g1, g2, g3⟩ => ⟨by rw [e]; exact g1, h _ _ _ h1 g2, dicLe_sound h h2 g3⟩
  | [], [], _ :: _, _, h => h.elim
  | [], _ :: _, _, h, _ => h.elim
  | _ :: _, [], _, h, _ => h.elim
  | _ :: _, _ :: _, [], _, h => h.elim

theorem heapLe_mem {p : Nat → Bool} {H : Heap} {n : Nat} : ∀ {H' : Heap}, heapLe p H n H' → ∀ k b, (k, b) ∈ H' → k < n ∧ ∃ b', (k, b') ∈ H ∧ BkLe p b b'
  | [], _, k, b, hm => by cases hm
  | (j, c) :: r, h, k, b, hm => by
    simp only [heapLe] at h
    rcases List.mem_cons.1 hm with e | hm
    · injection e with e1 e2; subst e1; subst e2
      refine ⟨Nat.le_of_ble_eq_true h.2.1, ?_⟩
      cases hf : H.find k with
      | none => rw [hf] at h; exact h.1.elim
      | some b' => rw [hf] at h; exact ⟨b', Heap.find_mem hf, h.1⟩
    · exact heapLe_mem h.2.2 k b hm

theorem slotsLe_look {p : Nat → Bool} {s : List (Nat × AV)} : ∀ {s' : List (Nat × AV)}, slotsLe p s s' → ∀ t, look s' t = .no ∨ AVle p (look s' t) (look s t)
  | [], _, t => Or.inl rfl
  | (u, b) :: r, h, t => by
    simp only [slotsLe] at h
    simp only [look]
    cases hb : Nat.beq u t with
    | true => have := beq_true hb; subst this; exact Or.inr h.1
    | false => exact slotsLe_look h.2 t

theorem SRel.weaken {ρ : Nat → Nat} {σ σ' : St} {a : Act} {w : World} (hs : SRel C ρ σ a w) (h : Le σ σ') : SRel C ρ σ' a w ∧ ∀ n, Fr C n ρ σ.H w ρ σ'.H w := by
  obtain ⟨hn, hsl, hh, hnd⟩ := h
  have hm := hs.m
  have hmem := fun k b hk => heapLe_mem hh k b hk
  have hkeys : ∀ k, k ∈ σ'.H.keys → k ∈ σ.H.keys := by
    intro k hk
    obtain ⟨x, hx, e⟩ := List.mem_map.1 hk
    obtain ⟨_, b', hb', _⟩ := hmem x.1 x.2 hx
    exact e ▸ mem_keys hb'
  have hrow : ∀ k e t l, k ∈ σ'.H.keys → (k, Bk.row e t l) ∈ σ.H → (k, Bk.row e t l) ∈ σ'.H := by
    intro k e t l hk hkm
    obtain ⟨x, hx, rfl⟩ := List.mem_map.1 hk
    obtain ⟨_, b', hb', hle⟩ := hmem x.1 x.2 hx
    have := Heap.mem_unique hm.nodup hkm hb'
    subst this
    obtain ⟨k, b⟩ := x
    cases b with
    | vars e' cells => exact hle.elim
    | loop r => exact hle.elim
    | dic k l => exact hle.elim
    | any => exact hle.elim
    | row e' t' l' =>
      obtain ⟨h1, h2⟩ := hle
      subst h1
      split at h2
      · rename_i z hz
        obtain ⟨e1, e2⟩ := Ty.as_some hz
        injection e1 with e1
        subst e1
        have e2' : l = z := e2
        have h2' : z = l' := h2
        subst e2'; subst h2'
        exact hx
      · exact h2.elim
  have hd : ∀ b, Ok C ρ σ.H w b → Ok C ρ σ'.H w b := fun b ⟨h1, h2, h3⟩ => ⟨h1, h2, fun k hk => h3 k (hkeys k hk)⟩
  have hd' : ∀ b, Ok C ρ σ.H w b → Ok C ρ σ'.H w b ∧ w.heap[b]? = w.heap[b]? := fun b h => ⟨hd b h, rfl⟩
  have hav := AVle_sound (C := C) (ρ := ρ) (H := σ.H) (H' := σ'.H) (w := w) (p := hasKey σ'.H) hd (fun k hk => hasKey_iff.1 hk) (fun k e t l hp hk => hrow k e t l (hasKey_iff.1 hp) hk)
  refine ⟨⟨⟨hm.below, nodupB_sound hnd, ?_, fun k hk k' hk' => hm.inj k (hkeys k hk) k' (hkeys k' hk'), fun k hk => hm.low k (hkeys k hk), ?_⟩, fun t => ?_, by rw [hn]; exact hs.size, hs.defers.mono hd' (Nat.le_refl _)⟩, fun n => ⟨hd', fun k _ hk => ⟨hkeys k hk, rfl⟩, fun k e t l _ hkm hk => ⟨l, hrow k e t l hk hkm, Nat.le_refl _, fun c fr hc => ⟨c, fr, hc, rfl⟩⟩, Nat.le_refl _⟩⟩
  · intro k hk
    obtain ⟨x, hx, e⟩ := List.mem_map.1 hk
    exact e ▸ (hmem x.1 x.2 hx).1
  · intro k b hb
    obtain ⟨_, b', hb', hle⟩ := hmem k b hb
    have hbr := hm.mem k b' hb'
    cases b with
    | vars e cells =>
      cases b' with
      | row e' t' l' => exact hle.elim
      | loop r => exact hle.elim
      | dic k l => exact hle.elim
      | any => exact hle.elim
      | vars e' cells' =>
        obtain ⟨h1, h2⟩ := hle
        subst h1
        obtain ⟨c, g1, g2, g3⟩ := hbr
        exact ⟨c, g1, AVles_sound hav _ _ _ h2 g2, g3⟩
    | row e t l =>
      cases b' with
      | vars e' cells' => exact hle.elim
      | loop r => exact hle.elim
      | dic k l => exact hle.elim
      | any => exact hle.elim
      | row e' t' l' =>
        obtain ⟨h1, h2⟩ := hle
        subst h1
        split at h2
        · rename_i z hz
          obtain ⟨e1, e2⟩ := Ty.as_some hz
          injection e1 with e1
          subst e1
          have e2' : l' = z := e2
          have h2' : z = l := h2
          subst e2'; subst h2'
          obtain ⟨c, g1, g2, g3, g4, g5⟩ := hbr
          exact ⟨c, g1, g2, g3, RdL.mono (fun x cs => Rd.mono hd' _ x cs) _ _ g4, g5⟩
        · exact h2.elim
    | loop r =>
      cases b' with
      | vars e' cells' => exact hle.elim
      | row e' t' l' => exact hle.elim
      | dic k l => exact hle.elim
      | any => exact hle.elim
      | loop r' =>
        obtain ⟨h1, h2, h3, h4, h5, h6, h7⟩ := hle
        obtain ⟨fn, tmps, d, g1, g2, g3⟩ := hbr
        refine ⟨fn, tmps, d, by rw [← h1, ← h2, ← h4, ← h5, ← h6]; exact g1, by rw [← h3]; exact g2, fun t => ?_⟩
        rcases slotsLe_look h7 t with h | h
        · rw [h]; exact .no
        · exact hav _ _ _ h (g3 t)
    | any =>
      cases b' with
      | any => exact hbr
      | vars e' cells' => exact hle.elim
      | row e' t' l' => exact hle.elim
      | loop r' => exact hle.elim
      | dic k l => exact hle.elim
    | dic k l =>
      cases b' with
      | any => exact hle.elim
      | vars e' cells' => exact hle.elim
      | row e' t' l' => exact hle.elim
      | loop r' => exact hle.elim
      | dic k' l' =>
        obtain ⟨rfl, h2⟩ := hle
        obtain ⟨es, n, g1, g2⟩ := hbr
        exact ⟨es, n, g1, dicLe_sound hav h2 g2⟩
  · rcases slotsLe_look hsl t with h | h
    · rw [h]; exact .no
    · exact hav _ _ _ h (hs.slots t)

/-- Which round the activation is of, if of one: the block of the loop's record. -/
def RdOk (C : Ctx) (rd : Option Nat) (rnd : Option Nat) (next : Nat) (H : Heap) (ρ : Nat → Nat) : Prop :=
  match rd with
  | none => rnd = none ∧ C.mks = none
  | some l => l < next ∧ (l ∈ H.keys → rnd = some (ρ l))

theorem RdOk.fr {rd rnd : Option Nat} {next next' : Nat} {H H' : Heap} {ρ ρ' : Nat → Nat} {w w' : World} (h : RdOk C rd rnd next H ρ) (hf : Fr C next ρ H w ρ' H' w') (hn : next ≤ next') : RdOk C rd rnd next' H' ρ' := by
  cases rd with
  | none => exact h
  | some l =>
    refine ⟨Nat.lt_of_lt_of_le h.1 hn, fun hl => ?_⟩
    obtain ⟨h1, h2⟩ := hf.keys l h.1 hl
    rw [h2]; exact h.2 h1

/-- What a piece of code does, from any world that is as the state says. -/
def Sat (P : Program) (G : World → Prop) (rd : Option Nat) (c : Code) (σ : St) (Q : Exit → St → Prop) : Prop :=
  ∀ (C : Ctx), G C.w0 → ∀ (ρ : Nat → Nat) (a : Act) (w : World), SRel C ρ σ a w → ∀ rnd : Option Nat, RdOk C rd rnd σ.next σ.H ρ → c.wpIn (wideR rnd) 0 P (fun e a' w' => Reach C σ ρ w (Q e) a' w') a w
end

/-- A loop, as something to be shown. -/
structure LoopP (P : Program) (G : World → Prop) (rd : Option Nat) (c : Code) (σ : St) (Q : Exit → St → Prop) : Prop where
  sat : Sat P G rd (.loop c) σ Q

def seqQ (X : St → (Exit → St → Prop) → Prop) (Q : Exit → St → Prop) : Exit → St → Prop
  | .normal, σ => X σ Q
  | e, σ => Q e σ

def blockQ (id : Nat) (Q : Exit → St → Prop) : Exit → St → Prop
  | .exit j, σ => match Nat.beq j id with
    | true => Q .normal σ
    | false => Q (.exit j) σ
  | e, σ => Q e σ

def scopeQ (Q : Exit → St → Prop) : Exit → St → Prop
  | .goto _, _ => False
  | e, σ => Q e σ

/-- The record of a range over a function is laid; K: its key. -/
def St.lay (σ : St) (K : Nat) (ps : Array Tmp) (assign body : Code) : Heap :=
  (K, .loop { st := .ready, pend := none, slots := σ.slots, n := σ.n, ps := ps, assign := assign, body := body }) :: σ.H

/-- The way out of a pending jump. -/
def jumpExit : Option Code → Option Exit
  | none => some .normal
  | some .ret => some .ret
  | some (.exit id) => some (.exit id)
  | some _ => none

/-- Behind the iterator's return. -/
def rangeQ (σ : St) (l : Nat) (Q : Exit → St → Prop) (x : AV) (H : Heap) (n : Nat) : Prop :=
  match isPan x with
  | none => match H.find l with
    | some (.loop r) => match r.st, jumpExit r.pend with
      | .busy, _ => False
      | _, some e => Q e { slots := mapSlots (hasKey (H.up l (.loop { r with st := .exhausted }))) dead σ.slots, H := H.up l (.loop { r with st := .exhausted }), next := n, n := σ.n }
      | _, none => False
    | _ => False
  | some _ => False

/-- Behind a region. -/
def regK (Q : Exit → St → Prop) : Fi → Prop
  | .go σ => Q .normal σ
  | .pan ch σ => Q (.panic ch) σ

def exec (P : Program) (G : World → Prop) (Γ : Cons) (call : CallT) (rd : Option Nat) : Code → St → (Exit → St → Prop) → Prop
  | .skip, σ, Q => Q .normal σ
  | .region id ops draw, σ, Q => match draw with
    | false => execSeq P Γ call ops ops.toList σ (regK Q)
    | true => execDraw P Γ call ops (σ.forDraw (retSl Γ) ops.toList) (regK Q) ∨ Sat P G rd (.region id ops true) σ Q
  | .seq x y, σ, Q => exec P G Γ call rd x σ (seqQ (exec P G Γ call rd y) Q)
  | .cond c x y, σ, Q => match σ.eval c with
    | .d .bool b => bcase b (exec P G Γ call rd x σ Q) (exec P G Γ call rd y σ Q)
    | _ => False
  | .block id c, σ, Q => exec P G Γ call rd c σ (blockQ id Q)
  | .loop c, σ, Q => LoopP P G rd c σ Q
  | .exit id, σ, Q => Q (.exit id) σ
  | .ret, σ, Q => Q .ret σ
  | .label _, σ, Q => Q .normal σ
  | .scope c, σ, Q => exec P G Γ call rd c σ (scopeQ Q)
  | .rangeFunc g ps assign body, σ, Q => match σ.eval g with
    | .fn f first caps => match rd with
      | none => call (.fn f) (first ++ .yld σ.next :: caps) (σ.lay σ.next ps assign body) (σ.next + 1) (rangeQ σ σ.next Q)
      | some l0 => match σ.H.find l0 with
        | some (.loop _) => call (.fn f) (first ++ .yld σ.next :: caps) (σ.lay σ.next ps assign body) (σ.next + 1) (rangeQ σ σ.next Q)
        | _ => False
    | _ => False
  | _, _, _ => False

section
variable {P : Program} {G : World → Prop}

def noGoto (Q : Exit → Act → World → Prop) : Exit → Act → World → Prop
  | .goto _, _, _ => False
  | e, a, w => Q e a w

theorem wpIn_scope {F : Fence} {n : Nat} {Q : Exit → Act → World → Prop} {a : Act} {w : World} {c : Code} (h : c.wpIn F n P (noGoto Q) a w) : (Code.scope c).wpIn F n P Q a w := by
  intro b k cs hro hb hr
  have h0 : (lone (b.atR a (.code (.scope c) :: k)) cs w).fenced P F := fenced_calm hb hr rfl
  have s1 : step P (lone (b.atR a (.code (.scope c) :: k)) cs w) = .next (lone (b.atR a (.code c :: .inScope c :: k)) cs w) := step_lone_go (by simp [stepG, stepG.exec, Frame.atR])
  obtain ⟨e, a₁, w₁, hq, harr⟩ := h b (.inScope c :: k) cs hro hb hr
  have s2 : step P (lone (b.atR a₁ (.inScope c :: k)) cs w₁) = .next (lone (b.atR a₁ k) cs w₁) := step_lone_go (by simp [stepG, stepG.exec, Frame.atR])
  cases e with
  | normal => exact ⟨.normal, a₁, w₁, hq, .head h0 s1 (StepsIn.trans harr (.one (fenced_calm hb hr rfl) s2))⟩
  | exit id =>
    have hx : exitTo id (.inScope c :: k) = exitTo id k := by simp [exitTo]
    exact ⟨.exit id, a₁, w₁, hq, fun k' hk => .head h0 s1 (harr.1 k' (by rw [hx]; exact hk)),
      fun hr' hk => let ⟨k₁, h1, h2⟩ := harr.2 hr' (by rw [hx]; exact hk); ⟨k₁, h1, .head h0 s1 h2⟩⟩
  | goto l => exact hq.elim
  | ret => exact ⟨_, a₁, w₁, hq, .of_steps (.one h0 s1) harr⟩
  | panic ch => exact ⟨_, a₁, w₁, hq, .of_steps (.one h0 s1) harr⟩
  | outgrown => exact ⟨_, a₁, w₁, hq, .of_steps (.one h0 s1) harr⟩

theorem up_row {H : Heap} {l : Nat} {r : LoopA} (hf : H.find l = some (.loop r)) (hn : H.keys.Nodup) {k : Nat} {e : TypeId} {t : Ty} {m : List t.T} (r' : LoopA) (h : (k, Bk.row e t m) ∈ H) : (k, Bk.row e t m) ∈ H.up l (.loop r') := by
  refine (Heap.mem_up_ne ?_).2 h
  intro e
  subst e
  have := Heap.mem_unique hn h (Heap.find_mem hf)
  cases this

/-- A change of a loop's record. -/
theorem MRel.turn {C : Ctx} {ρ : Nat → Nat} {H : Heap} {next : Nat} {w : World} (hm : MRel C ρ H next w) {l : Nat} {r : LoopA} (hf : H.find l = some (.loop r)) (st : LoopState) (pe : Option Code)
    {fn : FuncId} {tmps : Array Value} {d : Nat} (hl : w.heap[ρ l]? = some (.loop { state := r.st, pending := r.pend, fn := fn, tmps := tmps, params := r.ps, assign := r.assign, body := r.body, defers := d }))
    (hsz : tmps.size = r.n) (hsl : ∀ t, VR C ρ H w (look r.slots t) (tmps.getD t undef)) :
    MRel C ρ (H.up l (.loop { r with st := st, pend := pe })) next (w.putObj (ρ l) (.loop { state := st, pending := pe, fn := fn, tmps := tmps, params := r.ps, assign := r.assign, body := r.body, defers := d })) ∧
      Ext C ρ H w ρ (H.up l (.loop { r with st := st, pend := pe })) (w.putObj (ρ l) (.loop { state := st, pending := pe, fn := fn, tmps := tmps, params := r.ps, assign := r.assign, body := r.body, defers := d })) := by
  have hk := Heap.find_mem hf
  have hkk := mem_keys hk
  have hlt := lt_of_block hl
  generalize hO : Obj.loop { state := st, pending := pe, fn := fn, tmps := tmps, params := r.ps, assign := r.assign, body := r.body, defers := d } = O
  have hext : Ext C ρ H w ρ (H.up l (.loop { r with st := st, pend := pe })) (w.putObj (ρ l) O) := by
    refine ⟨fun b hb => ?_, fun j hj => ⟨by rw [Heap.keys_up]; exact hj, rfl⟩, fun j e' t m hmem => ?_, by simp⟩
    · obtain ⟨h1, h2, h3⟩ := hb
      exact ⟨⟨h1, by simpa using h2, fun j hj => h3 j (by rwa [Heap.keys_up] at hj)⟩, World.putObj_heap_other (fun e => h3 l hkk e.symm)⟩
    · refine ⟨m, up_row hf hm.nodup _ hmem, Nat.le_refl _, fun c fr hc => ⟨c, fr, ?_, rfl⟩⟩
      rw [World.putObj_heap_other]; exact hc
      intro e
      rw [e, hl] at hc
      cases hc
  refine ⟨⟨?_, ?_, ?_, ?_, ?_, ?_⟩, hext⟩
  · exact hm.below.trans ⟨rfl, rfl, rfl, by simp, fun i hi => World.putObj_heap_other (fun e => by have := hm.low l hkk; omega)⟩
  · rw [Heap.keys_up]; exact hm.nodup
  · rw [Heap.keys_up]; exact hm.lt
  · rw [Heap.keys_up]; exact hm.inj
  · rw [Heap.keys_up]; exact hm.low
  · intro j b hjb
    by_cases hj : j = l
    · subst hj
      rw [Heap.mem_up_eq hm.nodup hjb]
      exact ⟨fn, tmps, d, by rw [World.putObj_heap_same hlt, hO], hsz, fun t => hext.vr (hsl t)⟩
    · have hjb' := (Heap.mem_up_ne hj).1 hjb
      exact (hm.mem j b hjb').ext hext (World.putObj_heap_other (fun e => hj (hm.inj j (mem_keys hjb') l hkk e)))

theorem jumpExit_wp {rnd : Option Nat} {j : Code} {e : Exit} (h : jumpExit (some j) = some e) {Q : Exit → Act → World → Prop} {a : Act} {w : World} (hq : Q e a w) : j.wpIn (wideR rnd) 0 P Q a w := by
  cases j <;> simp only [jumpExit] at h <;> first | (cases h; done) | (injection h with h; subst h)
  · exact wpIn_exit hq
  · exact wpIn_ret hq

/-- A block that a range over a function has laid beside its record is no one's. -/
theorem Dfs.push {C : Ctx} {ρ ρ' : Nat → Nat} {H H' : Heap} {w w' : World} {l : List Deferred} (hmk : C.mks = none) (h : Dfs C ρ H w l) (hd : ∀ b, Ok C ρ H w b → Ok C ρ' H' w' b ∧ w'.heap[b]? = w.heap[b]?) (hsz : w.heap.size ≤ w'.heap.size) {d : Nat} (hnew : w.heap.size ≤ d)
    (hk : ∀ k ∈ H'.keys, ρ' k ≠ d) (hb : w'.heap[d]? = some (.deferred (some []))) : Dfs C ρ' H' w' ({ target := .collected d, args := #[] } :: l) := by
  obtain ⟨h0, ds, h1, h2, h3, -⟩ := h.mono hd hsz
  obtain ⟨g0, ds0, g1, g2, g3, -⟩ := h
  refine ⟨h0, d :: ds, by rw [h1]; rfl, List.nodup_cons.2 ⟨fun hm => ?_, h2⟩, fun x hx => ?_, fun x hx => by rw [hmk] at hx; cases hx⟩
  · have e : ds0 = ds := by
      have := List.append_cancel_right (g1.symm.trans h1)
      exact List.map_inj_right (fun a b h => by injection h with h; injection h) |>.1 this
    subst e
    have := lt_of_block (g3 d hm).2
    omega
  · rcases List.mem_cons.1 hx with rfl | hx
    · exact ⟨⟨Nat.le_trans g0 hnew, hk⟩, hb⟩
    · exact h3 x hx

theorem exec_sound (hG : GMono G) (hmix : P.follows .mixedOrders = true) {Γ : Cons} (hΓ : Γ.ok P G) {call : CallT} (hcall : CallSat P G call) {rd : Option Nat} : ∀ (c : Code) (σ : St) (Q : Exit → St → Prop), exec P G Γ call rd c σ Q → Sat P G rd c σ Q
  | .skip, σ, Q, h => fun C hC ρ a w hs rnd hrd => wpIn_skip ⟨ρ, σ, h, hs, Fr.refl _ _ _ _ _, Nat.le_refl _⟩
  | .region id ops draw, σ, Q, h => fun C hC ρ a w hs rnd hrd => by
    cases draw with
    | false => exact wpIn_region_list (execSeq_sound hG hC hΓ hcall _ hs h (fun a' w' hr => hr) (fun ch a' w' hr => hr) rnd)
    | true =>
      obtain ⟨h1, h2, h3⟩ := St.thaws_sound (drawKeys (retSl Γ) σ ops.toList ops.toList) hs
      rcases h with h | h
      · exact wpIn_region_any hmix (execDraw_sound hG hC hΓ hcall h1 h (fun a' w' hr => hr.trans h2 (Nat.le_of_eq h3.symm)) (fun ch a' w' hr => hr.trans h2 (Nat.le_of_eq h3.symm)) rnd)
      · exact h C hC ρ a w hs rnd hrd
  | .seq x y, σ, Q, h => fun C hC ρ a w hs rnd hrd => by
    refine wpIn_seq (wpIn_mono (exec_sound hG hmix hΓ hcall x σ _ h C hC ρ a w hs rnd hrd) ?_)
    rintro e a' w' ⟨ρ', σ', h1, h2, h3, h4⟩
    cases e with
    | normal => exact wpIn_mono (exec_sound hG hmix hΓ hcall y σ' Q h1 C hC ρ' a' w' h2 rnd (hrd.fr h3 h4)) (fun e a'' w'' hr => hr.trans h3 h4)
    | _ => exact ⟨ρ', σ', h1, h2, h3, h4⟩
  | .cond c x y, σ, Q, h => fun C hC ρ a w hs rnd hrd => by
    simp only [exec] at h
    split at h
    · rename_i b hb
      have hv := hs.eval c
      rw [hb] at hv
      have hbv := bool_value hv
      cases b with
      | true => exact wpIn_cond_true hbv (exec_sound hG hmix hΓ hcall x σ Q h C hC ρ a w hs rnd hrd)
      | false => exact wpIn_cond_false hbv (exec_sound hG hmix hΓ hcall y σ Q h C hC ρ a w hs rnd hrd)
    · exact h.elim
  | .block id c, σ, Q, h => fun C hC ρ a w hs rnd hrd => by
    refine wpIn_block (wpIn_mono (exec_sound hG hmix hΓ hcall c σ _ h C hC ρ a w hs rnd hrd) ?_)
    rintro e a' w' ⟨ρ', σ', h1, h2, h3, h4⟩
    cases e with
    | exit j =>
      simp only [Exit.inBlock]
      cases hb : Nat.beq j id with
      | true => simp only [blockQ, hb] at h1; rw [if_pos (beq_true hb)]; exact ⟨ρ', σ', h1, h2, h3, h4⟩
      | false => simp only [blockQ, hb] at h1; rw [if_neg (beq_false hb)]; exact ⟨ρ', σ', h1, h2, h3, h4⟩
    | _ => exact ⟨ρ', σ', h1, h2, h3, h4⟩
  | .loop c, σ, Q, h => h.sat
  | .exit id, σ, Q, h => fun C hC ρ a w hs rnd hrd => wpIn_exit ⟨ρ, σ, h, hs, Fr.refl _ _ _ _ _, Nat.le_refl _⟩
  | .ret, σ, Q, h => fun C hC ρ a w hs rnd hrd => wpIn_ret ⟨ρ, σ, h, hs, Fr.refl _ _ _ _ _, Nat.le_refl _⟩
  | .label l, σ, Q, h => fun C hC ρ a w hs rnd hrd => wpIn_label ⟨ρ, σ, h, hs, Fr.refl _ _ _ _ _, Nat.le_refl _⟩
  | .scope c, σ, Q, h => fun C hC ρ a w hs rnd hrd => by
    refine wpIn_scope (wpIn_mono (exec_sound hG hmix hΓ hcall c σ _ h C hC ρ a w hs rnd hrd) ?_)
    rintro e a' w' ⟨ρ', σ', h1, h2, h3, h4⟩
    cases e with
    | goto l => exact h1.elim
    | _ => exact ⟨ρ', σ', h1, h2, h3, h4⟩
  | .rangeFunc g ps assign body, σ, Q, h => fun C hC ρ a w hs rnd hrd => by
    simp only [exec] at h
    split at h
    · rename_i f first caps hg
      have hv := hs.eval g
      rw [hg] at hv
      generalize hvg : a.eval g = vg at hv
      cases hv with
      | @fn _ _ _ vf vc h1 h2 =>
        have hKn : σ.next ∉ σ.H.keys := fun h => absurd (hs.m.lt _ h) (Nat.lt_irrefl _)
        -- the call of the iterator, and what lies behind it
        have main : ∀ (fn : FuncId) (W0 : World) (mark : List Deferred) (dd : Nat), (mark ≠ [] → C.mks = none) → Below w.heap.size w W0 → (∀ x ∈ mark, ∃ d, x = { target := .collected d, args := #[] } ∧ mark = [x] ∧ w.heap.size ≤ d ∧ W0.heap[d]? = some (.deferred (some []))) →
            (Instr.enterLoop fn a.tmps ps assign body rnd).run P w = .ok (W0.heap.size, mark) (W0.alloc (.loop { state := .ready, pending := none, fn := fn, tmps := a.tmps, params := ps, assign := assign, body := body, defers := dd })) →
            call (.fn f) (first ++ .yld σ.next :: caps) (σ.lay σ.next ps assign body) (σ.next + 1) (rangeQ σ σ.next Q) →
            ∃ (l : Nat) (mark : List Deferred) (w₁ : World) (d : Deferred) (w₁' : World) (f : FuncId) (args : Array Value) (w₂ : World),
              (Instr.enterLoop fn a.tmps ps assign body (wideR rnd).round).run P w = .ok (l, mark) w₁ ∧
              (resolve a.eval (rangeCall g l) 0).run P w₁ = .ok d w₁' ∧
              (∀ f', Target.leads P w₁' d.target d.args = some f' → (wideR rnd).fn f') ∧
              (invoke d.target d.args).run P w₁' = .ok (.enter f args) w₂ ∧
              ((wideR rnd).depth.isSome = true → 1 ≤ 0) ∧
              CallsIn (wideR rnd) (0 - 1) P f args w₂ (rangePost (wideR rnd) 0 P l (fun e a' w' => Reach C σ ρ w (Q e) a' w') { a with defers := mark ++ a.defers }) := by
          intro fn W0 mark dd hmkn hb0 hmark hent hc
          obtain ⟨hm0, hext0⟩ := hs.m.grow hb0
          have hlt0 : ∀ k ∈ σ.H.keys, ρ k < w.heap.size := fun k hk => hs.m.key_lt hk
          obtain ⟨hm1, hext1⟩ := MRel.allocO (K := σ.next) (blk := .loop { st := .ready, pend := none, slots := σ.slots, n := σ.n, ps := ps, assign := assign, body := body })
            (ob := .loop { state := .ready, pending := none, fn := fn, tmps := a.tmps, params := ps, assign := assign, body := body, defers := dd }) (hm0.mono (Nat.le_succ σ.next)) hKn (Nat.lt_succ_self _)
            (fun ρ' H' w' he hw' => ⟨fn, a.tmps, dd, hw', hs.size, fun t => (hext0.trans he).vr (hs.slots t)⟩)
          have hext := hext0.trans hext1
          generalize hW1 : W0.alloc (.loop { state := .ready, pending := none, fn := fn, tmps := a.tmps, params := ps, assign := assign, body := body, defers := dd }) = W1 at *
          have hρ : upd ρ σ.next W0.heap.size σ.next = W0.heap.size := upd_same _ _ _
          have hargs : VRs C (upd ρ σ.next W0.heap.size) (σ.lay σ.next ps assign body) W1 (first ++ .yld σ.next :: caps) (vf ++ .func (.yield W0.heap.size) #[] #[] :: vc) := by
            refine (h1.imp (fun _ _ => hext.vr)).append (.cons ?_ (h2.imp (fun _ _ => hext.vr)))
            have : VR C (upd ρ σ.next W0.heap.size) (σ.lay σ.next ps assign body) W1 (.yld σ.next) (.func (.yield (upd ρ σ.next W0.heap.size σ.next)) #[] #[]) := .yld List.mem_cons_self
            rw [hρ] at this
            exact this
          obtain ⟨hen, hcl⟩ := hcall.fn _ _ _ _ _ hc C _ W1 _ hC hm1 hargs
          refine ⟨W0.heap.size, mark, W1, { target := .fn (.func f) ⟨vc⟩, args := ⟨vf⟩ ++ #[.func (.yield W0.heap.size) #[] #[]] }, W1, f, (⟨vf⟩ ++ #[.func (.yield W0.heap.size) #[] #[]]) ++ ⟨vc⟩, W1, hent, ?_, fun _ _ => trivial, ?_, (fun h => by cases h), ?_⟩
          · simp only [resolve, hvg]
            simp [go_sem]
          · have := enters_run (w := W1) hen ((⟨vf⟩ ++ #[.func (.yield W0.heap.size) #[] #[]]) ++ ⟨vc⟩)
            simp only [invoke]
            exact this
          · refine callsIn_wideR.2 ?_
            rw [show (((⟨vf⟩ : Array Value) ++ #[.func (.yield W0.heap.size) #[] #[]]) ++ (⟨vc⟩ : Array Value)) = ⟨vf ++ .func (.yield W0.heap.size) #[] #[] :: vc⟩ by apply Array.ext'; simp]
            refine hcl.mono ?_
            rintro e W2 ⟨ρ2, r, H2, n2, hK, hm2, hfr2, hn2, hend2⟩
            rcases hend2 with ⟨v, rfl, hpn, hv2⟩ | ⟨x2, ch2, rfl, hc2, rfl⟩
            case inr => exact hK.elim
            simp only [rangeQ, hpn] at hK
            split at hK
            · rename_i rr hfind
              obtain ⟨fn', tmps', d', g1, g2, g3⟩ := hm2.mem _ _ (Heap.find_mem hfind)
              obtain ⟨hk2, hr2⟩ := hfr2.keys σ.next (Nat.lt_succ_self _) (mem_keys (Heap.find_mem hfind))
              rw [hρ] at hr2
              have hnb : rr.st ≠ .busy := by intro e; rw [e] at hK; exact hK
              obtain ⟨ex, hex, hQ⟩ : ∃ ex, jumpExit rr.pend = some ex ∧ Q ex { slots := mapSlots (hasKey (H2.up σ.next (.loop { rr with st := .exhausted }))) dead σ.slots, H := H2.up σ.next (.loop { rr with st := .exhausted }), next := n2, n := σ.n } := by
                split at hK
                · exact hK.elim
                · rename_i e _ hje; exact ⟨_, ‹_›, hK⟩
                · exact hK.elim
              obtain ⟨hm3, hext3⟩ := hm2.turn hfind .exhausted rr.pend g1 g2 g3
              have hend := run_endLoop (P := P) g1 (by simpa using hnb)
              rw [hr2] at hend hm3 hext3
              generalize hW3 : W2.putObj W0.heap.size (.loop { state := .exhausted, pending := rr.pend, fn := fn', tmps := tmps', params := rr.ps, assign := rr.assign, body := rr.body, defers := d' }) = W3 at *
              have hfr3 : Fr C σ.next ρ σ.H w ρ2 (H2.up σ.next (.loop { rr with st := .exhausted })) W3 := by
                have f1 : Fr C σ.next ρ σ.H w (upd ρ σ.next W0.heap.size) (σ.lay σ.next ps assign body) W1 := hext.fr (fun k hk hm => by
                  rcases List.mem_cons.1 hm with rfl | hm
                  · exact absurd hk (Nat.lt_irrefl _)
                  · exact hm)
                refine (f1.trans (Nat.le_succ _) hfr2).trans (n' := n2) (by omega) (hext3.fr (fun k _ hm => by rwa [Heap.keys_up] at hm))
              have hsr : SRel C ρ2 { slots := mapSlots (hasKey (H2.up σ.next (.loop { rr with st := .exhausted }))) dead σ.slots, H := H2.up σ.next (.loop { rr with st := .exhausted }), next := n2, n := σ.n } { a with defers := mark ++ a.defers } W3 := by
                have base := hs.keepTo (p := hasKey (H2.up σ.next (.loop { rr with st := .exhausted }))) (f := dead) hm3 (fun x v hx =>
                  VR.map hfr3.data (fun k hk hp => ⟨hasKey_iff.1 hp, (hfr3.keys k (hs.m.lt k hk) (hasKey_iff.1 hp)).2⟩) (fun k e t l hk hp => hfr3.rows k e t l (hs.m.lt k (mem_keys hk)) hk (hasKey_iff.1 hp)) (fun _ _ _ _ _ _ => .no) hx) hfr3.data hfr3.size
                refine ⟨base.m, base.slots, base.size, ?_⟩
                cases mark with
                | nil => exact base.defers
                | cons x xs =>
                  obtain ⟨d, rfl, hxs, hd1, hd2⟩ := hmark x List.mem_cons_self
                  injection hxs with _ hxs
                  subst hxs
                  have hlow : C.w0.heap.size ≤ d := Nat.le_trans hs.m.below.size hd1
                  have hdlt := lt_of_block hd2
                  have hok1 : Ok C (upd ρ σ.next W0.heap.size) (σ.lay σ.next ps assign body) W1 d := by
                    refine ⟨Or.inr hlow, by rw [← hW1]; simp; omega, fun k hk => ?_⟩
                    rcases List.mem_cons.1 hk with rfl | hk
                    · rw [hρ]; omega
                    · have hk' : k ∈ σ.H.keys := hk
                      have hne : k ≠ σ.next := fun e => hKn (by rw [← e]; exact hk')
                      rw [upd_ne _ hne]
                      have := hlt0 k hk'; omega
                  obtain ⟨hok2, hbl2⟩ := hfr2.data d hok1
                  obtain ⟨hok3, hbl3⟩ := hext3.data d hok2
                  refine Dfs.push (hmkn (by simp)) hs.defers hfr3.data hfr3.size hd1 hok3.2.2 ?_
                  rw [hbl3, hbl2, ← hW1, Below.heap_alloc _ _ _ hdlt]
                  exact hd2
              cases hp : rr.pend with
              | none =>
                rw [hp] at hex
                injection hex with hex
                subst hex
                exact ⟨none, W3, by rw [hend, hp], ⟨ρ2, _, hQ, hsr, hfr3, by show σ.next ≤ n2; omega⟩⟩
              | some j =>
                rw [hp] at hex
                exact ⟨some j, W3, by rw [hend, hp], jumpExit_wp hex ⟨ρ2, _, hQ, hsr, hfr3, by show σ.next ≤ n2; omega⟩⟩
            · exact hK.elim
        refine wpIn_rangeFunc (fun fn _ => ?_)
        cases rd with
        | none =>
          have hr : rnd = none := hrd.1
          subst hr
          simp only at h
          refine main fn (w.alloc (.deferred (some []))) [{ target := .collected w.heap.size, args := #[] }] w.heap.size (fun _ => hrd.2) ((Below.refl _ _).alloc (Nat.le_refl _) _) ?_ ?_ h
          · intro x hx
            simp at hx
            subst hx
            exact ⟨w.heap.size, rfl, rfl, Nat.le_refl _, World.alloc_heap_new _ _⟩
          · rw [run_enterLoop_outer, World.size_alloc]
        | some l0 =>
          simp only at h
          split at h
          · rename_i r0 hf0
            have hr : rnd = some (ρ l0) := hrd.2 (mem_keys (Heap.find_mem hf0))
            subst hr
            obtain ⟨fn0, tmps0, d0, g1, _, _⟩ := hs.m.mem _ _ (Heap.find_mem hf0)
            refine main fn w [] d0 (fun h => absurd rfl h) (Below.refl _ _) (fun x hx => by cases hx) ?_ h
            rw [run_enterLoop_inner g1]
          · exact h.elim
    · exact h.elim
  | .goto _, _, _, h => h.elim
  | .refuse _, _, _, h => h.elim

/-- A loop, by what holds at the head of every round. -/
theorem wp_loop_ix {rnd : Option Nat} {Q : Exit → Act → World → Prop} {ι : Type} {c : Code} (I : ι → Act → World → Prop) (μ : ι → Nat)
    (round : ∀ i a w, I i a w → c.wpIn (wideR rnd) 0 P (Exit.then (fun a' w' => ∃ i', I i' a' w' ∧ μ i' < μ i) Q) a w) (i : ι) (a : Act) (w : World) (h₀ : I i a w) : (Code.loop c).wpIn (wideR rnd) 0 P Q a w := by
  intro b k cs hro hb hr
  have key : ∀ j i a w, μ i = j → I i a w →
      ∃ e a' w', Q e a' w' ∧ ArrivesIn (Machine.fenced P (wideR rnd)) P (lone (b.atR a (.code c :: .inLoop c :: k)) cs w) b k cs e a' w' := by
    intro j
    induction j using Nat.strongRecOn with
    | _ j ih =>
      intro i a w hn hI
      obtain ⟨e, a₁, w₁, hq, harr⟩ := round i a w hI b (.inLoop c :: k) cs hro hb hr
      cases e with
      | normal =>
        obtain ⟨i', hI₁, hlt⟩ := hq
        obtain ⟨e₂, a₂, w₂, hq₂, harr₂⟩ := ih (μ i') (hn ▸ hlt) i' a₁ w₁ rfl hI₁
        exact ⟨e₂, a₂, w₂, hq₂, .of_steps (StepsIn.trans harr (.one (fenced_calm hb hr rfl) stepR_inLoop)) harr₂⟩
      | exit id => exact ⟨_, a₁, w₁, hq, .pass (x := .inLoop c) rfl (fun _ _ => .inl (by simp)) harr⟩
      | goto l => exact ⟨_, a₁, w₁, hq, .pass (x := .inLoop c) rfl (fun _ _ => .inl (by simp)) harr⟩
      | ret => exact ⟨_, a₁, w₁, hq, .pass (x := .inLoop c) rfl (fun _ _ => .inl (by simp)) harr⟩
      | panic ch => exact ⟨_, a₁, w₁, hq, .pass (x := .inLoop c) rfl (fun _ _ => .inl (by simp)) harr⟩
      | outgrown => exact ⟨_, a₁, w₁, hq, .pass (x := .inLoop c) rfl (fun _ _ => .inl (by simp)) harr⟩
  obtain ⟨e, a', w', hq, harr⟩ := key _ i a w rfl h₀
  exact ⟨e, a', w', hq, .of_steps (.one (fenced_calm hb hr rfl) stepR_loop) harr⟩

/-- What must hold behind a round. -/
def roundQ {ι : Type} (inv : ι → St) (μ : ι → Nat) (Q : Exit → St → Prop) (i : ι) : Exit → St → Prop
  | .normal, σ' => ∃ i', Le σ' (inv i') ∧ μ i' < μ i
  | e, σ' => Q e σ'

end
end Go.Vg

namespace Go.Vg
open Go Go.RowKit

def numbered : Nat → List AV → List (Nat × AV)
  | _, [] => []
  | i, a :: as => (i, a) :: numbered (i + 1) as

def resT (P : Program) (σ : St) : List ResultVar → T (List AV)
  | [] => .ok []
  | .tmp t :: r => (resT P σ r).bind fun l => .ok (look σ.slots t :: l)
  | .cell a t :: r => (loadAV P σ.H t (look σ.slots a)).bind fun x => (resT P σ r).bind fun l => .ok (x :: l)


def callQ (K : AV → Heap → Nat → Prop) (l : List AV) (σ : St) : Prop :=
  match isPan (resAV l) with
  | none => K (resAV l) σ.H σ.next
  | some _ => False
def callP (K : AV → Heap → Nat → Prop) (ch : List PanicEntry) (σ : St) : Prop :=
  ofChainP ch fun x => K (panE x) σ.H σ.next
/-- The same for a function that may panic. -/
def retP (P : Program) (fn : Func) (K : List AV → St → Prop) (KP : List PanicEntry → St → Prop) : Exit → St → Prop
  | .normal, σ => (resT P σ fn.results.toList).holds fun l => K l σ
  | .ret, σ => (resT P σ fn.results.toList).holds fun l => K l σ
  | .panic ch, σ => KP ch σ
  | _, _ => False

def retQ (P : Program) (fn : Func) (K : List AV → St → Prop) : Exit → St → Prop := retP P fn K fun _ _ => False

/-- The parameters of a round. -/
def bindS (σ : St) : List Nat → List AV → St
  | p :: ps, a :: as => bindS (σ.put (some p) a) ps as
  | _, _ => σ

/-- What a round's way out leaves pending. -/
def jumpOf : Exit → Option (Option Code)
  | .normal => some none
  | .ret => some (some .ret)
  | .exit id => some (some (.exit id))
  | _ => none

def roundEnd (st : Option Code) : LoopState := match st with | none => .ready | some _ => .done

/-- Behind a round's body. -/
def endQ (l : Nat) (K : AV → Heap → Nat → Prop) (e : Exit) (σ : St) : Prop :=
  match jumpOf e with
  | some j => match σ.H.find l with
    | some (.loop r) => K (.d .bool j.isNone) (σ.H.up l (.loop { r with st := roundEnd j, pend := j })) σ.next
    | _ => False
  | none => False

/-- Behind the assignment of a round's parameters: the body. -/
def bodyQ (l : Nat) (X : St → Prop) : Exit → St → Prop
  | .normal, σ => match σ.H.find l with
    | some (.loop r) => match r.st with
      | .ready => X { σ with H := σ.H.up l (.loop { r with st := .busy }) }
      | _ => False
    | _ => False
  | _, _ => False

/-- All rows given away. -/
def lendF (H : Heap) : Nat → Nat → Nat → AV := fun k off len =>
  match H.find k with
  | some (.row _ t l) => .d (.sl t) ((l.drop off).take len)
  | _ => .no

def toRes : (t : Ty) → List AV → Option t.T
  | .unit, [] => some ()
  | .pair t u, a :: as => match toD t a with
    | some x => match toRes u as with
      | some y => some (x, y)
      | none => none
    | none => none
  | _, _ => none

def finQ (t : Ty) (y : t.T) (l : List AV) (σ : St) : Prop :=
  match toRes t (AV.maps (fun _ => false) (lendF σ.H) l) with
  | some z => z = y
  | none => False

/-- What every datum of a type is known to be. -/
def Wf : (t : Ty) → t.T → Prop
  | .int k, (x : Int) => k.min ≤ x ∧ x ≤ k.max
  | .bool, _ => True
  | .str, (x : List UInt8) => x.length ≤ lim
  | .unit, _ => True
  | .pair t u, x => Wf t x.1 ∧ Wf u x.2
  | .arr n t, (x : List t.T) => x.length = n ∧ ∀ y ∈ x, Wf t y
  | .sl t, (x : List t.T) => x.length ≤ lim ∧ ∀ y ∈ x, Wf t y

def argAVs : (t : Ty) → t.T → List AV
  | .pair t u, x => .d t x.1 :: argAVs u x.2
  | _, _ => []

section
variable {C : Ctx} {P : Program} {G : World → Prop}

theorem RdL.wf {α : Type} {R : α → List Value → Prop} {W : α → Prop} (h : ∀ x cs, R x cs → W x) : ∀ (l : List α) (cs : List Value), RdL R l cs → ∀ y ∈ l, W y
  | [], _, _, y, hy => by cases hy
  | x :: xs, cs, ⟨c1, c2, _, h1, h2⟩, y, hy => by
    rcases List.mem_cons.1 hy with rfl | hy
    · exact h _ _ h1
    · exact RdL.wf h xs c2 h2 y hy

theorem Rd.wf {ok : Nat → Prop} {w : World} : ∀ (t : Ty) (x : t.T) (cs : List Value), Rd ok w t x cs → Wf t x
  | .int _, _, _, ⟨_, h⟩ => h
  | .bool, _, _, _ => trivial
  | .str, _, _, ⟨_, h⟩ => h
  | .unit, _, _, _ => trivial
  | .pair t u, _, _, ⟨_, _, _, h1, h2⟩ => ⟨Rd.wf t _ _ h1, Rd.wf u _ _ h2⟩
  | .arr _ t, _, _, ⟨hl, hr⟩ => ⟨hl, RdL.wf (fun x cs => Rd.wf t x cs) _ _ hr⟩
  | .sl t, x, _, ⟨_, _, _, _, hl, h3⟩ => by
    refine ⟨hl, ?_⟩
    rcases h3 with h3 | ⟨_, _, _, _, _, _, _, _, _, hr⟩
    · rw [h3]; intro y hy; cases hy
    · exact RdL.wf (fun x cs => Rd.wf t x cs) _ _ hr

theorem RdVs.wf {ok : Nat → Prop} {w : World} : ∀ (t : Ty) (x : t.T) (vs : List Value), RdVs ok w t x vs → Wf t x
  | .unit, _, _, _ => trivial
  | .pair t u, _, _, ⟨_, _, _, h1, h2⟩ => ⟨Rd.wf t _ _ h1.cells, RdVs.wf u _ _ h2⟩
  | .int _, _, _, h => h.elim
  | .bool, _, _, h => h.elim
  | .str, _, _, h => h.elim
  | .arr _ _, _, _, h => h.elim
  | .sl _, _, _, h => h.elim

theorem RdVs.args {ok : Nat → Prop} {ρ : Nat → Nat} {H : Heap} {w : World} (hk : ∀ b, ok b → Ok C ρ H w b) : ∀ (t : Ty) (x : t.T) (vs : List Value), RdVs ok w t x vs → VRs C ρ H w (argAVs t x) vs
  | .unit, _, vs, h => by obtain rfl : vs = [] := h; exact .nil
  | .pair t u, x, vs, ⟨v, us, e, h1, h2⟩ => by subst e; exact .cons (.d (h1.mono (fun b hb => ⟨hk b hb, rfl⟩))) (RdVs.args hk u _ _ h2)
  | .int _, _, _, h => h.elim
  | .bool, _, _, h => h.elim
  | .str, _, _, h => h.elim
  | .arr _ _, _, _, h => h.elim
  | .sl _, _, _, h => h.elim

theorem numbered_look : ∀ (as : List AV) (i t : Nat), look (numbered i as) t = if i ≤ t then (as[t - i]?).getD .no else .no
  | [], i, t => by simp [numbered, look]
  | a :: as, i, t => by
    simp only [numbered, look]
    cases hb : Nat.beq i t with
    | true => have := beq_true hb; subst this; simp
    | false =>
      have hne := beq_false hb
      simp only
      rw [numbered_look as (i + 1) t]
      by_cases h : i + 1 ≤ t
      · rw [if_pos h, if_pos (by omega)]
        rw [show t - i = (t - (i + 1)) + 1 by omega]
        simp
      · rw [if_neg h]
        by_cases h2 : i ≤ t
        · omega
        · rw [if_neg h2]

/-- The frame in which a function begins. -/
theorem entry_rel (hu : C.us = []) (hmk : C.mks = none) {ρ : Nat → Nat} {H : Heap} {next : Nat} {w : World} {args : List AV} {vs : List Value} {n : Nat} (hm : MRel C ρ H next w) (hlo : C.lo ≤ w.heap.size) (hv : VRs C ρ H w args vs) (hn : args.length ≤ n) :
    SRel C ρ { slots := numbered 0 args, H := H, next := next, n := n } { tmps := (⟨vs⟩ : Array Value) ++ Array.replicate (n - (⟨vs⟩ : Array Value).size) undef, defers := [] } w := by
  have hlen := hv.length
  refine ⟨hm, fun t => ?_, by simp; omega, Dfs.nil hlo hu hmk⟩
  show VR C ρ H w (look (numbered 0 args) t) _
  rw [numbered_look args 0 t, if_pos (Nat.zero_le _), Nat.sub_zero]
  cases ha : args[t]? with
  | none => exact .no
  | some a =>
    obtain ⟨v, h1, h2⟩ := hv.get ha
    have hlt : t < vs.length := (List.getElem?_eq_some_iff.1 h1).1
    have e : ((⟨vs⟩ : Array Value) ++ Array.replicate (n - (⟨vs⟩ : Array Value).size) undef).getD t undef = v := by
      rw [Array.getD_eq_getD_getElem?, Array.getElem?_append_left (by simpa using hlt)]
      have : (⟨vs⟩ : Array Value)[t]? = some v := by simpa using h1
      rw [this]; rfl
    rw [e]
    exact h2

def resOne (a : Act) : ResultVar → Sem Value
  | .tmp t => pure (a.tmps.getD t undef)
  | .cell x t => do loadVar t (← asAddr (a.tmps.getD x undef))

theorem resT_sound {ρ : Nat → Nat} {σ : St} {a : Act} {w : World} (hs : SRel C ρ σ a w) : ∀ (rs : List ResultVar) (l : List AV), (resT P σ rs).Leaf l →
    ∃ vs, (rs.mapM (resOne a)).run P w = .ok vs w ∧ VRs C ρ σ.H w l vs
  | [], l, h => by cases h; exact ⟨[], rfl, .nil⟩
  | .tmp t :: r, l, h => by
    obtain ⟨l', h1, h2⟩ := T.Leaf.bind h
    cases h2
    obtain ⟨vs, h3, h4⟩ := resT_sound hs r l' h1
    exact ⟨_ :: vs, by simp only [List.mapM_cons, resOne, Sem.run_bind, Sem.run_pure, Result.andThen_ok, h3], .cons (hs.slots t) h4⟩
  | .cell x t :: r, l, h => by
    obtain ⟨y, h1, h2⟩ := T.Leaf.bind h
    obtain ⟨l', h3, h4⟩ := T.Leaf.bind h2
    cases h4
    obtain ⟨vs, h5, h6⟩ := resT_sound hs r l' h3
    have hv := hs.slots x
    obtain ⟨v, h7, h8⟩ := loadAV_sound (fun _ h => h) hs.m h1 hv
    refine ⟨v :: vs, ?_, .cons h8 h6⟩
    have hl : (resOne a (.cell x t)).run P w = .ok v w := by
      have hptr : ∃ ad, a.tmps.getD x undef = .pointer (some ad) := by
        generalize a.tmps.getD x undef = u at hv
        unfold loadAV at h1
        split at h1
        · rename_i he; rw [he] at hv; cases hv; exact ⟨_, rfl⟩
        · rename_i he; rw [he] at hv; cases hv; exact ⟨_, rfl⟩
        · rename_i he; rw [he] at hv; cases hv; exact ⟨_, rfl⟩
        · rename_i he; rw [he] at hv; cases hv; exact ⟨_, rfl⟩
        · cases h1
      obtain ⟨ad, had⟩ := hptr
      rw [had] at h7
      show (do loadVar t (← asAddr (a.tmps.getD x undef)) : Sem Value).run P w = _
      rw [had]
      simpa [Instr.loadAt, Instr.sureAddr, asAddr] using h7
    simp only [List.mapM_cons, Sem.run_bind, hl, Result.andThen_ok, h5, Sem.run_pure]

theorem results_run {fn : Func} {a : Act} {w : World} {vs : List Value} (h : (fn.results.toList.mapM (resOne a)).run P w = .ok vs w) : (results fn a.tmps).run P w = .ok (resV vs) w := by
  have hm : (fn.results.mapM (resOne a)).run P w = .ok vs.toArray w := by
    rw [Array.mapM_eq_mapM_toList]
    simp only [Sem.run_map]
    rw [h]
    rfl
  have e : results fn a.tmps = (do let vs ← fn.results.mapM (resOne a); pure (if h : vs.size = 1 then vs[0] else .tuple vs) : Sem Value) := by
    unfold results
    congr 2
  rw [e]
  simp only [Sem.run_bind, hm, Result.andThen_ok, Sem.run_pure]
  congr 1
  match vs with
  | [] => rfl
  | [v] => rfl
  | v :: u :: r => rfl

theorem lend_all {ρ : Nat → Nat} {H : Heap} {next : Nat} {w : World} (hm : MRel C ρ H next w) {x : AV} {v : Value} (h : VR C ρ H w x v) : VR C ρ [] w (x.map (fun _ => false) (lendF H)) v := by
  have hd : ∀ b, Ok C ρ H w b → Ok C ρ [] w b ∧ w.heap[b]? = w.heap[b]? := fun b ⟨h1, h2, _⟩ => ⟨⟨h1, h2, by intro k hk; cases hk⟩, rfl⟩
  refine VR.map hd (fun _ _ h => by cases h) (fun _ _ _ _ _ h => by cases h) ?_ h
  intro k off len v _ hov
  unfold lendF
  cases hov with
  | own hk hl hc hmx hb hs ha =>
    split
    · rename_i e t l hf
      have hu := Heap.mem_unique hm.nodup (Heap.find_mem hf) hk
      injection hu with hu1 hu2 hu3
      subst hu1; subst hu2
      have hu3 := eq_of_heq hu3
      subst hu3
      obtain ⟨c, h1, h2, h3, h4, h5⟩ := hm.ownCells hk hl
      refine .d ⟨_, ⟨_, _, by rw [h3], by rw [h3]; exact hc, by rw [h3]; exact h4, ?_⟩, rfl⟩
      by_cases hnil : (l.drop off).take len = []
      · exact Or.inl hnil
      · have hpos : 0 < len := by rw [← h3]; exact List.length_pos_iff.2 hnil
        have ha' := ha.resolve_right (fun h => by omega)
        exact Or.inr ⟨ρ k, off * t.size, c, e, (0, 0), ha', ⟨Or.inr (hm.low k (mem_keys hk)), hm.key_lt (mem_keys hk), by intro k hk; cases hk⟩, h1, h2, RdL.mono (fun x cs => Rd.mono hd t x cs) _ _ h5⟩
    · exact .no

theorem toRes_sound {ρ : Nat → Nat} {w : World} : ∀ (t : Ty) (as : List AV) (vs : List Value) (x : t.T), toRes t as = some x → VRs C ρ [] w as vs → RdVs (Ok C ρ [] w) w t x vs
  | .unit, [], vs, x, h, hv => by cases hv; rfl
  | .pair t u, a :: as, vs, x, h, hv => by
    cases hv with
    | cons h1 h2 =>
      simp only [toRes] at h
      split at h
      · rename_i y hy
        split at h
        · rename_i z hz
          injection h with h; subst h
          exact ⟨_, _, rfl, toD_sound hy h1, toRes_sound u as _ z hz h2⟩
        · cases h
      · cases h
  | .int _, _, _, _, h, _ => by simp [toRes] at h
  | .bool, _, _, _, h, _ => by simp [toRes] at h
  | .str, _, _, _, h, _ => by simp [toRes] at h
  | .arr _ _, _, _, _, h, _ => by simp [toRes] at h
  | .sl _, _, _, _, h, _ => by simp [toRes] at h
  | .unit, _ :: _, _, _, h, _ => by simp [toRes] at h
  | .pair _ _, [], _, _, h, _ => by simp [toRes] at h

/-! The same, as seen by another activation. -/
def Ctx.wh (C : Ctx) (n : Nat) (h : C.w0.heap.size ≤ n) (us : List Deferred) (ms : Option (List Nat)) : Ctx := { C with lo := n, hlo := h, us := us, mks := ms }
def Ctx.at (C : Ctx) (n : Nat) (h : C.w0.heap.size ≤ n) : Ctx := C.wh n h [] none

theorem VR.wh {ρ : Nat → Nat} {H : Heap} {w : World} {n : Nat} {hn : C.w0.heap.size ≤ n} {us : List Deferred} {ms : Option (List Nat)} {x : AV} {v : Value} (h : VR C ρ H w x v) : VR (C.wh n hn us ms) ρ H w x v := by
  refine VR.rec (motive_1 := fun x v _ => VR (C.wh n hn us ms) ρ H w x v) (motive_2 := fun xs vs _ => VRs (C.wh n hn us ms) ρ H w xs vs)
    ?_ ?_ ?_ ?_ ?_ ?_ ?_ ?_ ?_ ?_ ?_ ?_ ?_ ?_ ?_ ?_ ?_ ?_ ?_ ?_ ?_ ?_ h
  · intro t x v h; exact .d h
  · intro k off h; exact .ptr h
  · intro k i e t l h hi; exact .eptr h hi
  · intro k i f o u e t l h hi ho; exact .efp h hi ho
  · intro t x b o c e fr hb hc ho h; exact .dptr hb hc ho h
  · intro k off len e t l a cap c fr h hl hc hm hb hs ha; exact .own h hl hc hm hb hs ha
  · intro k off len e t l a c fr h hl hm hb hs ha; exact .ox h hl hm hb hs ha
  · intro k o n cap h hn hc; exact .sv h hn hc
  · exact .nsl
  · exact .nilp
  · exact .nili
  · exact .nni
  · intro k t x v h; exact .ifc h
  · intro g first caps vf vc _ _ h1 h2; exact .fn h1 h2
  · intro l h; exact .yld h
  · intro k h; exact .mp h
  · intro cells vs _ h1 h; exact .ag h h1
  · intro l vs _ h; exact .tup h
  · exact .und
  · intro v; exact .no
  · exact .nil
  · intro a v as vs _ _ h hs; exact .cons h hs

theorem VR.at {ρ : Nat → Nat} {H : Heap} {w : World} {n : Nat} {hn : C.w0.heap.size ≤ n} {x : AV} {v : Value} (h : VR C ρ H w x v) : VR (C.at n hn) ρ H w x v := h.wh

theorem VR.back {ρ : Nat → Nat} {H : Heap} {w : World} {n : Nat} {hn : C.w0.heap.size ≤ n} {x : AV} {v : Value} (h : VR (C.at n hn) ρ H w x v) : VR C ρ H w x v :=
  VR.wh (C := C.at n hn) (n := C.lo) (hn := C.hlo) (us := C.us) (ms := C.mks) h

theorem VRs.wh {ρ : Nat → Nat} {H : Heap} {w : World} {n : Nat} {hn : C.w0.heap.size ≤ n} {us : List Deferred} {ms : Option (List Nat)} : ∀ {xs : List AV} {vs : List Value}, VRs C ρ H w xs vs → VRs (C.wh n hn us ms) ρ H w xs vs
  | _, _, .nil => .nil
  | _, _, .cons h hs => .cons h.wh (VRs.wh hs)
theorem VRs.at {ρ : Nat → Nat} {H : Heap} {w : World} {n : Nat} {hn : C.w0.heap.size ≤ n} {xs : List AV} {vs : List Value} (h : VRs C ρ H w xs vs) : VRs (C.at n hn) ρ H w xs vs := h.wh

theorem BkR.wh {ρ : Nat → Nat} {H : Heap} {w : World} {n b : Nat} {hn : C.w0.heap.size ≤ n} {us : List Deferred} {ms : Option (List Nat)} {x : Bk} (h : BkR C ρ H w b x) : BkR (C.wh n hn us ms) ρ H w b x := by
  cases x with
  | vars e cells => obtain ⟨c, h1, h2, h3⟩ := h; exact ⟨c, h1, h2.wh, h3⟩
  | row e t l => exact h
  | loop r => obtain ⟨fn, tmps, d, h1, h2, h3⟩ := h; exact ⟨fn, tmps, d, h1, h2, fun t => (h3 t).wh⟩
  | dic k l => obtain ⟨es, n, h1, h2⟩ := h; exact ⟨es, n, h1, h2.imp fun _ _ => VR.wh⟩
  | any => exact h

theorem MRel.wh {ρ : Nat → Nat} {H : Heap} {next : Nat} {w : World} {n : Nat} {hn : C.w0.heap.size ≤ n} {us : List Deferred} {ms : Option (List Nat)} (h : MRel C ρ H next w) : MRel (C.wh n hn us ms) ρ H next w :=
  ⟨h.below, h.nodup, h.lt, h.inj, h.low, fun k b hb => (h.mem k b hb).wh⟩
theorem MRel.at {ρ : Nat → Nat} {H : Heap} {next : Nat} {w : World} {n : Nat} {hn : C.w0.heap.size ≤ n} (h : MRel C ρ H next w) : MRel (C.at n hn) ρ H next w := h.wh

theorem MRel.back {ρ : Nat → Nat} {H : Heap} {next : Nat} {w : World} {n : Nat} {hn : C.w0.heap.size ≤ n} (h : MRel (C.at n hn) ρ H next w) : MRel C ρ H next w :=
  MRel.wh (C := C.at n hn) (n := C.lo) (hn := C.hlo) (us := C.us) (ms := C.mks) h

theorem Fr.back {ρ ρ' : Nat → Nat} {H H' : Heap} {w w' : World} {m n : Nat} {hn : C.w0.heap.size ≤ n} (h : Fr (C.at n hn) m ρ H w ρ' H' w') : Fr C m ρ H w ρ' H' w' :=
  ⟨h.data, h.keys, h.rows, h.size⟩

/-! A frame's way out: the marks of its ranges over functions are taken. -/
theorem MRel.shut {ρ : Nat → Nat} {H : Heap} {next : Nat} {w : World} (hm : MRel C ρ H next w) {d : Nat} (hd : w.heap[d]? = some (.deferred (some []))) (hk : ∀ k ∈ H.keys, ρ k ≠ d) (hlow : C.w0.heap.size ≤ d) (o : Obj) :
    MRel C ρ H next (w.putObj d o) ∧ ∀ x v, VR C ρ H w x v → VR C ρ H (w.putObj d o) x v := by
  have hdC : ∀ b c e fr, Ok C ρ H w b → w.heap[b]? = some (.cells c e fr) → Ok C ρ H (w.putObj d o) b ∧ (w.putObj d o).heap[b]? = w.heap[b]? := by
    intro b c e fr hb hc
    have hne : b ≠ d := by intro e; rw [e, hd] at hc; cases hc
    exact ⟨⟨hb.1, by simpa using hb.2.1, hb.2.2⟩, World.putObj_heap_other hne⟩
  have hv : ∀ x v, VR C ρ H w x v → VR C ρ H (w.putObj d o) x v := by
    intro x v h
    have := VR.mapC (p := fun _ => true) (f := fun _ _ _ => .no) (ρ' := ρ) (H' := H) hdC (fun k hk _ => ⟨hk, rfl⟩)
      (fun k e t l hmem _ => ⟨l, hmem, Nat.le_refl _, fun c fr hc => ⟨c, fr, by rw [World.putObj_heap_other (hk k (mem_keys hmem))]; exact hc, rfl⟩⟩) (fun _ _ _ _ h => by cases h) h
    rwa [AV.map_true] at this
  refine ⟨⟨?_, hm.nodup, hm.lt, hm.inj, hm.low, fun k b hb => ?_⟩, hv⟩
  · exact hm.below.trans ⟨rfl, rfl, rfl, by simp, fun i hi => World.putObj_heap_other (by omega)⟩
  · have hbr := hm.mem k b hb
    have he : (w.putObj d o).heap[ρ k]? = w.heap[ρ k]? := World.putObj_heap_other (hk k (mem_keys hb))
    cases b with
    | vars e cells => obtain ⟨c, h1, h2, h3⟩ := hbr; exact ⟨c, he.trans h1, h2.imp hv, h3⟩
    | row e t l => obtain ⟨c, h1, h2, h3, h4, h5⟩ := hbr; exact ⟨c, he.trans h1, h2, h3, RdL.mono (fun x cs => Rd.monoC hdC t x cs) _ _ h4, h5⟩
    | loop r => obtain ⟨fn, tmps, dd, h1, h2, h3⟩ := hbr; exact ⟨fn, tmps, dd, he.trans h1, h2, fun t => hv _ _ (h3 t)⟩
    | dic k l => obtain ⟨es, n, h1, h2⟩ := hbr; exact ⟨es, n, he.trans h1, h2.imp hv⟩
    | any => obtain ⟨o', h1⟩ := hbr; exact ⟨o', he.trans h1⟩

theorem marks_leave {F : Fence} {n : Nat} {ρ : Nat → Nat} {H : Heap} {next : Nat} {fn : Func} {tmps : Array Value} {R : Ending → World → Prop} {u : FrameMode} (hu : u ≠ .run) {rest : List Deferred} : ∀ (ds : List Nat) (w : World), MRel C ρ H next w → ds.Nodup →
    (∀ d ∈ ds, (C.lo ≤ d ∧ ∀ k ∈ H.keys, ρ k ≠ d) ∧ w.heap[d]? = some (.deferred (some []))) →
    (∀ w'', MRel C ρ H next w'' → (∀ x v, VR C ρ H w x v → VR C ρ H w'' x v) → (∀ b, b < C.lo → w''.heap[b]? = w.heap[b]?) → (∀ k ∈ H.keys, w''.heap[ρ k]? = w.heap[ρ k]?) → w''.heap.size = w.heap.size → LeavesInM F n P fn tmps R rest u w'') →
    LeavesInM F n P fn tmps R (ds.map (fun d => { target := .collected d, args := #[] }) ++ rest) u w
  | [], w, hm, _, _, h => h w hm (fun _ _ h => h) (fun _ _ => rfl) (fun _ _ => rfl) rfl
  | d :: ds, w, hm, hnd, hds, h => by
    obtain ⟨⟨hlo, hk⟩, hd⟩ := hds d List.mem_cons_self
    obtain ⟨hnd1, hnd2⟩ := List.nodup_cons.1 hnd
    obtain ⟨hm', hv'⟩ := hm.shut hd hk (Nat.le_trans C.hlo hlo) (.deferred none)
    refine ⟨hu, Or.inl ⟨d, w.putObj d (.deferred none), rfl, run_takeDeferred hd, ?_⟩⟩
    refine marks_leave hu ds _ hm' hnd2 (fun e he => ?_) (fun w'' g1 g2 g3 g4 g5 => h w'' g1 (fun x v hx => g2 x v (hv' x v hx)) (fun b hb => ?_) (fun k hk' => ?_) (by rw [g5]; simp))
    · obtain ⟨h1, h2⟩ := hds e (List.mem_cons_of_mem _ he)
      refine ⟨h1, ?_⟩
      rw [World.putObj_heap_other (fun e' : e = d => hnd1 (e' ▸ he))]
      exact h2
    · rw [g3 b hb, World.putObj_heap_other (by omega)]
    · rw [g4 k hk', World.putObj_heap_other (hk k hk')]

/-- How a body's end becomes a call's end. -/
theorem ret_end (hu : C.us = []) (hmk : C.mks = none) {F : Fence} {n : Nat} {ρ : Nat → Nat} {fn : Func} {σ : St} {a : Act} {w : World} {Q : List AV → St → Prop} {R : Ending → World → Prop} (hs : SRel C ρ σ a w) (h : (resT P σ fn.results.toList).holds fun l => Q l σ)
    (hR : ∀ l vs w'', Q l σ → MRel C ρ σ.H σ.next w'' → VRs C ρ σ.H w'' l vs → (∀ b, b < C.lo → w''.heap[b]? = w.heap[b]?) → (∀ k ∈ σ.H.keys, w''.heap[ρ k]? = w.heap[ρ k]?) → w''.heap.size = w.heap.size → R (.returned (resV vs)) w'') :
    LeavesInM F n P fn a.tmps R a.defers .returning w := by
  obtain ⟨hlo, ds, h1, h2, h3, -⟩ := hs.defers
  rw [h1, hu]
  refine marks_leave (by simp) ds w hs.m h2 h3 (fun w'' g1 g2 g3 g4 g5 => ?_)
  obtain ⟨l, hl1, hl2⟩ := T.leaf h
  have hs' : SRel C ρ σ { a with defers := [] } w'' := ⟨g1, fun t => g2 _ _ (hs.slots t), hs.size, Dfs.nil (by rw [g5]; exact hlo) hu hmk⟩
  obtain ⟨us, k1, k2⟩ := resT_sound (P := P) hs' _ _ hl1
  exact ⟨_, results_run k1, hR l us w'' hl2 g1 k2 g3 g4 g5⟩

theorem bindS_rel {ρ : Nat → Nat} {w : World} : ∀ (ps : List Nat) (as : List AV) (vs : List Value) (σ : St) (a : Act), SRel C ρ σ a w → VRs C ρ σ.H w as vs →
    SRel C ρ (bindS σ ps as) { a with tmps := (ps.zip vs).foldl (fun t x => t.setIfInBounds x.1 x.2) a.tmps } w ∧ (bindS σ ps as).H = σ.H ∧ (bindS σ ps as).next = σ.next
  | [], as, vs, σ, a, hs, hv => by cases as <;> exact ⟨hs, rfl, rfl⟩
  | p :: ps, [], vs, σ, a, hs, hv => by cases hv; exact ⟨hs, rfl, rfl⟩
  | p :: ps, x :: as, vs, σ, a, hs, hv => by
    cases hv with
    | @cons _ v _ vs h1 h2 =>
      have h3 := hs.put (dst := some p) h1
      obtain ⟨g1, g2, g3⟩ := bindS_rel ps as vs (σ.put (some p) x) (a.put (some p) v) h3 (by rw [St.put_H]; exact h2)
      refine ⟨g1, ?_, ?_⟩
      · rw [show bindS σ (p :: ps) (x :: as) = bindS (σ.put (some p) x) ps as from rfl, g2, St.put_H]
      · rw [show bindS σ (p :: ps) (x :: as) = bindS (σ.put (some p) x) ps as from rfl, g3, St.put_next]

end
end Go.Vg
