/-
  The engine, part T: regions whose order is open, to the end. Own work; no condition.
-/
import Derived.Test.YtbdojimkdgajgaaGreatDoorEngS
namespace Go.Vg
open Go Go.RowKit

def SlotIs (pre : List Oper) (us : List Out) (nt : Nat) (f0 : Nat → AV) (ls : Nat → Bool) (t : Nat) (x : AV) : Prop :=
  (∃ (j : Nat) (o : Oper) (u : Out), pre[j]? = some o ∧ us[j]? = some u ∧ o.dst = some t ∧ t < nt ∧ ls j = true ∧ x = u.av) ∨
  ((∀ (j : Nat) (o : Oper), pre[j]? = some o → o.dst = some t → t < nt → ls j = false) ∧ x = f0 t)

/-- The blocks into which is stored: as they were, or as they have been stored. -/
def SkInv (C : Ctx) (ρ : Nat → Nat) (Hd : Heap) (w : World) (Hs : Heap) (sk : List (Nat × Nat)) (base : Nat) (us : List Out) (ls : Nat → Bool) : Prop :=
  ∀ K k, (K, k) ∈ sk → base ≤ K ∧ ∃ e cells, Hs.find k = some (.vars e cells) ∧ (k ∈ Hd.keys → (k, Bk.any) ∈ Hd ∧
    ((∃ b, us[K - base]? = some (.st k b) ∧ ls (K - base) = true ∧ BkR C ρ Hd w (ρ k) b) ∨
     ((ls (K - base) = false ∨ us[K - base]? = some .skip) ∧ BkR C ρ Hd w (ρ k) (.vars e cells))))

def AInv (C : Ctx) (ρ0 : Nat → Nat) (ws : World) (σ0 : St) (Hs : Heap) (sk : List (Nat × Nat)) (base : Nat) (pre : List Oper) (us : List Out) (ls : Nat → Bool) (a : Act) (w : World) : Prop :=
  ∃ (ρ : Nat → Nat) (Hd : Heap), (∀ x, x ∈ Hd ↔ x ∈ σ0.H ∨ ∃ (j : Nat) (u : Out), us[j]? = some u ∧ ls j = true ∧ x ∈ u.new) ∧ MRel C ρ Hd σ0.next w ∧
    (∀ t x, SlotIs pre us σ0.n (look σ0.slots) ls t x → VR C ρ Hd w x (a.tmps.getD t undef)) ∧ a.tmps.size = σ0.n ∧ Dfs C ρ Hd w a.defers ∧ Ext C ρ0 σ0.H ws ρ Hd w ∧ SkInv C ρ Hd w Hs sk base us ls

def addL (ls : Nat → Bool) (i : Nat) : Nat → Bool := fun j => if j = i then true else ls j

section
variable {C : Ctx} {P : Program} {G : World → Prop} {Γ : Cons} {ops : Array Oper}

theorem up_id {H : Heap} {k : Nat} {b : Bk} (hn : H.keys.Nodup) (h : (k, b) ∈ H) : H.up k b = H := by
  induction H with
  | nil => rfl
  | cons x r ih =>
    obtain ⟨j, y⟩ := x
    have hn' := List.nodup_cons.1 hn
    simp only [Heap.up]
    cases hb : Nat.beq j k with
    | true =>
      have := beq_true hb; subst this
      rcases List.mem_cons.1 h with e | h
      · injection e with _ e; rw [e]
      · exact absurd (mem_keys h) hn'.1
    | false =>
      rcases List.mem_cons.1 h with e | h
      · injection e with e _; exact absurd e.symm (beq_false hb)
      · simp only [ih hn'.2 h]

/-- A store into a block that is not looked at. -/
theorem store_any {ρ : Nat → Nat} {H : Heap} {next : Nat} {w : World} (hm : MRel C ρ H next w) {k off : Nat} {e : TypeId} {cells cs : List AV} {n : Nat} {t : TypeId} {y : AV} {vy : Value} (hk : (k, Bk.any) ∈ H)
    (hb : BkR C ρ H w (ρ k) (.vars e cells)) (hcs : cellsOf y = some cs) (hsz : sizeAt P t = some n) (hlen : cs.length = n) (hle : off + n ≤ cells.length) (hy : VR C ρ H w y vy) :
    ∃ w', (Instr.storeAt t (.pointer (some ⟨ρ k, off, none⟩)) vy).run P w = .ok () w' ∧ MRel C ρ H next w' ∧ Ext C ρ H w ρ H w' ∧ BkR C ρ H w' (ρ k) (.vars e (over cells off cs)) ∧ (∀ j, j ≠ ρ k → w'.heap[j]? = w.heap[j]?) := by
  obtain ⟨c, h1, h2, h3⟩ := hb
  obtain ⟨hv, hv1⟩ := cellsOf_sound hcs hy
  have hl1 := hv.length
  have hl2 := h2.length
  have hcl : c.toList.length = c.size := by simp
  have hvs : vy.cells.toList.length = n := by omega
  have hrun := store_run (P := P) (vs := vy.cells.toList) h1 (o := off) (by omega) hv1
  have hovl : (over c.toList off vy.cells.toList).length = c.toList.length := over_length _ _ _ (by omega)
  obtain ⟨hm', hext⟩ := hm.write (nb := .any) (c' := ⟨over c.toList off vy.cells.toList⟩) hk h1 (by simp [hovl]) (fun e t l h => by cases h) (fun H' w' _ hw' => ⟨_, hw'⟩)
  rw [up_id hm.nodup hk] at hm' hext
  refine ⟨_, ?_, hm', hext, ⟨_, setRow_heap _ _ _ _ _ _ h1, (h2.imp (fun _ _ => hext.vr)).over (hv.imp (fun _ _ => hext.vr)) off, ?_⟩, fun j hj => setRow_other _ _ _ _ hj⟩
  · simp only [Instr.storeAt, Instr.sureAddr, Sem.run_bind, Sem.run_pure, Result.andThen_ok, storeVar, sizeAt_run hsz, Sem.run_ite]
    rw [if_neg (by simp at hl1; omega)]
    exact hrun
  · intro v hv
    rcases over_mem hv with h | h
    · exact h3 v h
    · exact hv1 v h

theorem getD_put {a : Act} {dst : Option Nat} {v : Value} {t : Nat} : (a.put dst v).tmps.getD t undef = if dst = some t ∧ t < a.tmps.size then v else a.tmps.getD t undef := by
  cases dst with
  | none => simp [Act.put]
  | some d =>
    simp only [Act.put, Array.getD_eq_getD_getElem?]
    by_cases h : d = t
    · subst h
      by_cases hlt : d < a.tmps.size
      · simp [hlt]
      · simp [hlt]
    · rw [Array.getElem?_setIfInBounds_ne h]
      simp [h]

theorem put_size {a : Act} {dst : Option Nat} {v : Value} : (a.put dst v).tmps.size = a.tmps.size := by cases dst <;> simp [Act.put]
theorem put_defers {a : Act} {dst : Option Nat} {v : Value} : (a.put dst v).defers = a.defers := by cases dst <;> rfl

theorem mem_tmpsOf {t : Nat} : ∀ {l : List Operand}, .tmp t ∈ l → t ∈ tmpsOf l
  | [], h => by simp at h
  | x :: r, h => by
    rcases List.mem_cons.1 h with e | h1
    · subst e; simp [tmpsOf]
    · have := mem_tmpsOf h1
      cases x <;> simp [tmpsOf, this]

theorem tmpsOf_reads {o : Oper} {t : Nat} (h : t ∈ tmpsOf o.op.operands.toList) : t ∈ readsOf ops o := by
  unfold readsOf
  split
  · exact h
  · split
    · exact List.mem_cons_of_mem _ h
    · exact h

theorem guard_reads {o : Oper} {j : Nat} {want : Bool} {t : Nat} (hg : o.guard = some (j, want)) (ht : guardSlot ops j = some t) : t ∈ readsOf ops o := by
  unfold readsOf
  rw [hg]
  simp only [ht]
  exact List.mem_cons_self

theorem evM_store {K : Nat} {H : Heap} {arg : Operand → AV} {o : Oper} {x : AV × List (Nat × Bk)} {t : TypeId} {p y : Operand} (ho : o.op = .store t p y) (h : (evM P Γ K H arg o).Leaf x) : False := by
  simp only [evM, evP, ho] at h
  obtain ⟨_, h1, _⟩ := T.Leaf.bind h
  cases h1

theorem sk_inj {sk : List (Nat × Nat)} (hn : (sk.map (·.2)).Nodup) {K K' k : Nat} (h : (K, k) ∈ sk) (h' : (K', k) ∈ sk) : K = K' := by
  induction sk with
  | nil => cases h
  | cons x r ih =>
    have hn' := List.nodup_cons.1 hn
    rcases List.mem_cons.1 h with e | h1 <;> rcases List.mem_cons.1 h' with e' | h2
    · rw [← e] at e'; injection e' with e' _; exact e'.symm
    · subst e; exact absurd (List.mem_map.2 ⟨_, h2, rfl⟩) hn'.1
    · subst e'; exact absurd (List.mem_map.2 ⟨_, h1, rfl⟩) hn'.1
    · exact ih hn'.2 h1 h2

/-- What is known of the blocks into which is stored. -/
structure SkOk (sk : List (Nat × Nat)) (base : Nat) (pre : List Oper) : Prop where
  nodup : (sk.map (·.2)).Nodup
  get : ∀ K k, (K, k) ∈ sk → skGet sk K = some k
  op : ∀ K k, (K, k) ∈ sk → ∃ o t a x, pre[K - base]? = some o ∧ o.op = .store t a x
  laid : ∀ K k, (K, k) ∈ sk → base ≤ k → ∃ o, pre[K - base]? = some o ∧ hasEdge o (k - base) = true

theorem chkLaid_spec {pre : List Oper} {base : Nat} : ∀ {sk : List (Nat × Nat)}, chkLaid pre base sk = true → ∀ K k, (K, k) ∈ sk → base ≤ k → ∃ o, pre[K - base]? = some o ∧ hasEdge o (k - base) = true
  | [], _, _, _, hm, _ => by cases hm
  | (K', k') :: r, h, K, k, hm, hk => by
    simp only [chkLaid, Bool.and_eq_true, Bool.or_eq_true] at h
    rcases List.mem_cons.1 hm with e | hm
    · injection e with e1 e2
      subst e1; subst e2
      rcases h.1 with h1 | h1
      · have := Nat.le_of_ble_eq_true h1; omega
      · split at h1
        · rename_i o ho; exact ⟨o, ho, h1⟩
        · cases h1
    · exact chkLaid_spec h.2 K k hm hk

theorem skGet_mem {sk : List (Nat × Nat)} {K k : Nat} (h : skGet sk K = some k) : (K, k) ∈ sk := by
  induction sk with
  | nil => cases h
  | cons x r ih =>
    obtain ⟨K', k'⟩ := x
    simp only [skGet] at h
    cases hb : Nat.beq K' K with
    | true => rw [hb] at h; injection h with h; subst h; have := beq_true hb; subst this; exact List.mem_cons_self
    | false => rw [hb] at h; exact List.mem_cons_of_mem _ (ih h)

theorem skHas_iff {sk : List (Nat × Nat)} {k : Nat} : skHas sk k = true ↔ ∃ K, (K, k) ∈ sk := by
  induction sk with
  | nil => simp [skHas]
  | cons x r ih =>
    obtain ⟨K', j⟩ := x
    simp only [skHas]
    cases hb : Nat.beq j k with
    | true => have := beq_true hb; subst this; exact ⟨fun _ => ⟨K', List.mem_cons_self⟩, fun _ => rfl⟩
    | false =>
      rw [ih]
      have hne := beq_false hb
      constructor
      · rintro ⟨K, h⟩; exact ⟨K, List.mem_cons_of_mem _ h⟩
      · rintro ⟨K, h⟩
        rcases List.mem_cons.1 h with e | h
        · injection e with _ e; exact absurd e.symm hne
        · exact ⟨K, h⟩

/-- Memory of which other things are known. -/
theorem MRel.reveal {ρ : Nat → Nat} {H H' : Heap} {next : Nat} {w : World} (hm : MRel C ρ H next w) (hk : ∀ k, k ∈ H.keys ↔ k ∈ H'.keys) (hr : ∀ k e t l, (k, Bk.row e t l) ∈ H → (k, Bk.row e t l) ∈ H') (hn : H'.keys.Nodup)
    (hb : ∀ k b, (k, b) ∈ H' → BkR C ρ H w (ρ k) b) : MRel C ρ H' next w ∧ Ext C ρ H w ρ H' w := by
  have hext : Ext C ρ H w ρ H' w := ⟨fun b ⟨h1, h2, h3⟩ => ⟨⟨h1, h2, fun k hk' => h3 k ((hk k).2 hk')⟩, rfl⟩, fun k hk' => ⟨(hk k).1 hk', rfl⟩, fun k e t l hm => ⟨l, hr k e t l hm, Nat.le_refl _, fun c fr hc => ⟨c, fr, hc, rfl⟩⟩, Nat.le_refl _⟩
  exact ⟨⟨hm.below, hn, fun k hk' => hm.lt k ((hk k).2 hk'), fun k hk1 k' hk2 => hm.inj k ((hk k).2 hk1) k' ((hk k').2 hk2), fun k hk' => hm.low k ((hk k).2 hk'), fun k b hb' => (hb k b hb').ext hext rfl⟩, hext⟩

theorem putBlocks_keys (H : Heap) : ∀ l : List (Nat × Bk), (putBlocks H l).keys = H.keys
  | [] => rfl
  | (k, b) :: r => by simp only [putBlocks]; rw [Heap.keys_up, putBlocks_keys H r]

theorem putBlocks_mem {H : Heap} (hn : H.keys.Nodup) : ∀ {l : List (Nat × Bk)} {k : Nat} {b : Bk}, (k, b) ∈ putBlocks H l → (k, b) ∈ l ∨ (∀ b', (k, b') ∉ l) ∧ (k, b) ∈ H
  | [], k, b, h => Or.inr ⟨(by intro b' hb; cases hb), h⟩
  | (j, y) :: r, k, b, h => by
    simp only [putBlocks] at h
    by_cases hj : k = j
    · subst hj
      rw [Heap.mem_up_eq (by rw [putBlocks_keys]; exact hn) h]
      exact Or.inl List.mem_cons_self
    · rcases putBlocks_mem hn ((Heap.mem_up_ne hj).1 h) with h | ⟨h1, h2⟩
      · exact Or.inl (List.mem_cons_of_mem _ h)
      · refine Or.inr ⟨fun b' hb' => ?_, h2⟩
        rcases List.mem_cons.1 hb' with e | hb'
        · injection e with e _; exact hj e
        · exact h1 b' hb'

theorem putBlocks_other {H : Heap} : ∀ {l : List (Nat × Bk)} {k : Nat} {b : Bk}, (k, b) ∈ H → (∀ b', (k, b') ∉ l) → (k, b) ∈ putBlocks H l
  | [], _, _, h, _ => h
  | (j, y) :: r, k, b, h, hl => by
    simp only [putBlocks]
    have hne : k ≠ j := fun e => hl y (by rw [e]; exact List.mem_cons_self)
    exact (Heap.mem_up_ne hne).2 (putBlocks_other h (fun b' hb' => hl b' (List.mem_cons_of_mem _ hb')))

theorem olds_mem {H : Heap} : ∀ {sk : List (Nat × Nat)} {k : Nat} {b : Bk}, (k, b) ∈ olds H sk ↔ (∃ K, (K, k) ∈ sk) ∧ H.find k = some b
  | [], k, b => by simp [olds]
  | (K', j) :: r, k, b => by
    simp only [olds]
    cases hf : H.find j with
    | none =>
      simp only [olds_mem, List.mem_cons, Prod.mk.injEq]
      constructor
      · rintro ⟨⟨K, h1⟩, h2⟩; exact ⟨⟨K, Or.inr h1⟩, h2⟩
      · rintro ⟨⟨K, ⟨_, rfl⟩ | h1⟩, h2⟩
        · rw [hf] at h2; cases h2
        · exact ⟨⟨K, h1⟩, h2⟩
    | some y =>
      simp only [List.mem_cons, olds_mem, Prod.mk.injEq]
      constructor
      · rintro (⟨rfl, rfl⟩ | ⟨⟨K, h1⟩, h2⟩)
        · exact ⟨⟨K', Or.inl ⟨rfl, rfl⟩⟩, hf⟩
        · exact ⟨⟨K, Or.inr h1⟩, h2⟩
      · rintro ⟨⟨K, ⟨_, rfl⟩ | h1⟩, h2⟩
        · rw [hf] at h2; injection h2 with h2; exact Or.inl ⟨rfl, h2.symm⟩
        · exact Or.inr ⟨⟨K, h1⟩, h2⟩

theorem putBlocks_in {H : Heap} : ∀ {l : List (Nat × Bk)} {k : Nat} {b : Bk}, k ∈ H.keys → (k, b) ∈ l → (∀ b', (k, b') ∈ l → b' = b) → (k, b) ∈ putBlocks H l
  | [], _, _, _, h, _ => by cases h
  | (j, y) :: r, k, b, hk, h, hu => by
    simp only [putBlocks]
    by_cases hj : k = j
    · subst hj
      rw [hu y List.mem_cons_self]
      exact Heap.mem_up_same (by rw [putBlocks_keys]; exact hk)
    · refine (Heap.mem_up_ne hj).2 (putBlocks_in hk ?_ (fun b' hb' => hu b' (List.mem_cons_of_mem _ hb')))
      rcases List.mem_cons.1 h with e | h
      · injection e with e _; exact absurd e hj
      · exact h

theorem lateSk_spec {pre : List Oper} {base i : Nat} : ∀ {sk : List (Nat × Nat)} {K k : Nat}, (K, k) ∈ lateSk pre base i sk → (K, k) ∈ sk ∧ ∃ o, pre[K - base]? = some o ∧ hasEdge o i = true
  | [], _, _, h => by cases h
  | (K', k') :: r, K, k, h => by
    simp only [lateSk] at h
    split at h
    · rename_i o ho
      split at h
      · rename_i he
        rcases List.mem_cons.1 h with e | h
        · injection e with e1 e2; subst e1; subst e2; exact ⟨List.mem_cons_self, o, ho, he⟩
        · obtain ⟨h1, h2⟩ := lateSk_spec h; exact ⟨List.mem_cons_of_mem _ h1, h2⟩
      · obtain ⟨h1, h2⟩ := lateSk_spec h; exact ⟨List.mem_cons_of_mem _ h1, h2⟩
    · obtain ⟨h1, h2⟩ := lateSk_spec h; exact ⟨List.mem_cons_of_mem _ h1, h2⟩

theorem lateH_eq (pre : List Oper) (base : Nat) (sk : List (Nat × Nat)) (Hs H : Heap) (K : Nat) (N : Heap) : lateH pre base sk Hs H K N = pickO sk base N pre[K - base]? ++ putBlocks H (olds Hs (lateSk pre base (K - base) sk)) := by
  cases sk <;> rfl

theorem pickH_spec {sk : List (Nat × Nat)} {o : Oper} {base : Nat} : ∀ {N : Heap} {x : Nat × Bk}, x ∈ pickH sk o base N → x ∈ N ∧ base ≤ x.1 ∧ hasEdge o (x.1 - base) = true ∧ skHas sk x.1 = false
  | [], _, h => by cases h
  | (k, b) :: r, x, h => by
    simp only [pickH] at h
    split at h
    · rename_i hb
      split at h
      · rename_i hc
        simp only [Bool.and_eq_true, Bool.not_eq_true'] at hc
        rcases List.mem_cons.1 h with rfl | h
        · exact ⟨List.mem_cons_self, Nat.le_of_ble_eq_true hb, hc⟩
        · obtain ⟨h1, h2⟩ := pickH_spec h; exact ⟨List.mem_cons_of_mem _ h1, h2⟩
      · obtain ⟨h1, h2⟩ := pickH_spec h; exact ⟨List.mem_cons_of_mem _ h1, h2⟩
    · cases h

theorem SkInv.keep {ρ ρ' : Nat → Nat} {Hd new : Heap} {w w' : World} {Hs : Heap} {sk : List (Nat × Nat)} {base : Nat} {us : List Out} {ls : Nat → Bool} {i : Nat} (h : SkInv C ρ Hd w Hs sk base us ls) (he : Ext C ρ Hd w ρ' (new ++ Hd) w')
    (hb : ∀ k ∈ Hd.keys, w'.heap[ρ k]? = w.heap[ρ k]?) (hi : ∀ K k, (K, k) ∈ sk → K - base = i → us[i]? = some .skip)
    (hnew : ∀ K k e cells, (K, k) ∈ sk → Hs.find k = some (.vars e cells) → k ∈ Heap.keys new → (k, Bk.any) ∈ new ∧ ls (K - base) = false ∧ BkR C ρ' (new ++ Hd) w' (ρ' k) (.vars e cells)) : SkInv C ρ' (new ++ Hd) w' Hs sk base us (addL ls i) := by
  intro K k hk
  obtain ⟨h0, e, cells, h1, h2⟩ := h K k hk
  refine ⟨h0, e, cells, h1, fun hkk => ?_⟩
  have hcase : k ∈ Heap.keys new ∨ k ∈ Hd.keys := by
    simp only [Heap.keys, List.map_append, List.mem_append] at hkk
    exact hkk
  rcases hcase with hkk | hkk
  · obtain ⟨g1, g2, g3⟩ := hnew K k e cells hk h1 hkk
    refine ⟨List.mem_append.2 (Or.inl g1), Or.inr ⟨?_, g3⟩⟩
    by_cases hi' : K - base = i
    · rw [hi']; exact Or.inr (hi K k hk hi')
    · exact Or.inl (by unfold addL; rw [if_neg hi']; exact g2)
  · obtain ⟨h2, h3⟩ := h2 hkk
    have hr := (he.keys k hkk).2
    refine ⟨List.mem_append.2 (Or.inr h2), ?_⟩
    rw [hr]
    rcases h3 with ⟨b, g1, g2, g3⟩ | ⟨g1, g2⟩
    · exact Or.inl ⟨b, g1, by unfold addL; split <;> first | rfl | exact g2, g3.ext he (hb k hkk)⟩
    · refine Or.inr ⟨?_, g2.ext he (hb k hkk)⟩
      by_cases hi' : K - base = i
      · rw [hi']; exact Or.inr (hi K k hk hi')
      · rcases g1 with g1 | g1
        · exact Or.inl (by unfold addL; rw [if_neg hi']; exact g1)
        · exact Or.inr g1

/-- One operation of the part whose order is open. -/
theorem AInv.step (hG : GMono G) (hC : G C.w0) (hΓ : Γ.ok P G) {ρ0 : Nat → Nat} {ws : World} {σ0 : St} {base : Nat} {l pre : List Oper} {us : List Out} {f' : Nat → AV} {ls : Nat → Bool} {a : Act} {w : World}
    {i : Nat} {o : Oper} {Q : Exit → Act → World → Prop} {nx : Act → World → Prop} (hops : ops.toList = l) (hpre : ∀ (j : Nat) (p : Oper), pre[j]? = some p → l[j]? = some p)
    {Hs : Heap} {sk : List (Nat × Nat)} (hsk : SkOk sk base pre) (htr : Tr P Γ ops sk Hs (lateH pre base sk Hs σ0.H) σ0.n pre base σ0.H (look σ0.slots) us f') (hchk : chkPre ops pre pre 0 = true) (hnd0 : σ0.H.keys.Nodup) (hbase : ∀ k ∈ σ0.H.keys, k < base) (hnext : base + pre.length ≤ σ0.next)
    (hinit : ∀ (i : Nat) (o : Oper) (e : TypeId) (zs : List AV), pre[i]? = some o → o.op = .alloc e → zeroAVs P e = some zs → Hs.find (base + i) = some (.vars e zs)) (hcl : Closed l ls)
    (ho : pre[i]? = some o) (hls : ls i = false) (hedge : ∀ e ∈ o.after, binding e = true → ls e.on = true) (hinv : AInv C ρ0 ws σ0 Hs sk base pre us ls a w)
    (hnx : ∀ a' w', AInv C ρ0 ws σ0 Hs sk base pre us (addL ls i) a' w' → nx a' w') (rnd : Option Nat) : wpOpIn (wideR rnd) 0 P ops Q i nx a w := by
  obtain ⟨ρ, Hd, hH, hm, hsl, hsz, hdf, hext, hski⟩ := hinv
  obtain ⟨u, fi, Ni, hu, htri, hst, hNi⟩ := htr.nth ho
  obtain ⟨hrd, hdst⟩ := chkPre_spec hchk ho
  rw [Nat.zero_add] at hrd hdst
  have hilt : i < pre.length := (List.getElem?_eq_some_iff.1 ho).1
  -- what the operation reads
  have hread : ∀ t ∈ readsOf ops o, VR C ρ Hd w (fi t) (a.tmps.getD t undef) := by
    intro t ht
    have hc := hrd t ht
    apply hsl t
    rcases htri.slot t with ⟨j, p, v, h1, h2, h3, h4, h5⟩ | ⟨h1, h2⟩
    · have hji : j < i := by
        have := (List.getElem?_eq_some_iff.1 h1).1
        simp at this; omega
      rw [List.getElem?_take, if_pos hji] at h1 h2
      have h7 : hasEdge o j = true := by
        have h7 := chkRead_spec hc h1 h3
        rw [Nat.zero_add] at h7
        rcases h7 with h7 | h7
        · exact h7.2
        · omega
      obtain ⟨e, he1, he2, he3⟩ := hasEdge_spec h7
      exact Or.inl ⟨j, p, v, h1, h2, h3, h4, by rw [← he3]; exact hedge e he1 he2, h5⟩
    · refine Or.inr ⟨fun j p hp hd hlt => ?_, h2⟩
      have h6 := chkRead_spec hc hp hd
      rw [Nat.zero_add] at h6
      rcases h6 with ⟨h6, _⟩ | ⟨_, h6⟩
      · exact absurd hlt (h1 j p (by rw [List.getElem?_take, if_pos h6]; exact hp) hd)
      · obtain ⟨ed, d1, d2, d3⟩ := hasEdge_spec h6
        cases hb : ls j with
        | false => rfl
        | true =>
          have := hcl _ _ (hpre _ _ hp) hb ed d1 d2
          rw [d3, hls] at this
          cases this
  -- the keys of the new blocks
  have hnewk : ∀ (j : Nat) (v : Out), us[j]? = some v → ∀ x ∈ v.new, x.1 = base + j := by
    intro j v hj x hx
    have hjl : j < pre.length := by have := (List.getElem?_eq_some_iff.1 hj).1; rw [htr.length] at this; exact this
    obtain ⟨v', fj, _, h1, _, h3, _⟩ := htr.nth (i := j) (o := pre[j]) (by simp [hjl])
    rw [hj] at h1
    injection h1 with h1
    subst h1
    cases v with
    | ran r new =>
      rcases h3.2 with ⟨_, h3⟩ | ⟨_, _, _, _, _, rfl⟩
      · exact evM_keys h3 x hx
      · simp only [Out.new, List.mem_singleton] at hx; subst hx; rfl
    | skip => cases hx
    | st k b => cases hx
  have hKn : base + i ∉ Hd.keys := by
    intro hk
    obtain ⟨x, hx, e⟩ := List.mem_map.1 hk
    rcases (hH x).1 hx with h | ⟨j, v, h1, h2, h3⟩
    · have := hbase x.1 (List.mem_map.2 ⟨x, h, rfl⟩); omega
    · have := hnewk j v h1 x h3
      have : j = i := by omega
      subst this
      rw [hls] at h2; cases h2
  -- what holds behind it
  have done : ∀ (v : Value) (ρ' : Nat → Nat) (w' : World), MRel C ρ' (u.new ++ Hd) σ0.next w' → Ext C ρ Hd w ρ' (u.new ++ Hd) w' → VR C ρ' (u.new ++ Hd) w' u.av v → SkInv C ρ' (u.new ++ Hd) w' Hs sk base us (addL ls i) → AInv C ρ0 ws σ0 Hs sk base pre us (addL ls i) (a.put o.dst v) w' := by
    intro v ρ' w' hm' he hv hsk'
    refine ⟨ρ', u.new ++ Hd, fun x => ?_, hm', fun t x hx => ?_, by rw [put_size]; exact hsz, by rw [put_defers]; exact hdf.mono he.data he.size, hext.trans he, hsk'⟩
    · rw [List.mem_append, hH]
      constructor
      · rintro (h | h | ⟨j, v, h1, h2, h3⟩)
        · exact Or.inr ⟨i, u, hu, by simp [addL], h⟩
        · exact Or.inl h
        · exact Or.inr ⟨j, v, h1, by unfold addL; split <;> first | rfl | exact h2, h3⟩
      · rintro (h | ⟨j, v, h1, h2, h3⟩)
        · exact Or.inr (Or.inl h)
        · by_cases hj : j = i
          · subst hj; rw [hu] at h1; injection h1 with h1; subst h1; exact Or.inl h3
          · exact Or.inr (Or.inr ⟨j, v, h1, by unfold addL at h2; rwa [if_neg hj] at h2, h3⟩)
    · rw [getD_put]
      rcases hx with ⟨j, p, v', h1, h2, h3, h4, h5, h6⟩ | ⟨h1, h2⟩
      · by_cases hj : j = i
        · subst hj
          rw [ho] at h1; injection h1 with h1; subst h1
          rw [hu] at h2; injection h2 with h2; subst h2
          rw [if_pos ⟨h3, by rw [hsz]; exact h4⟩, h6]
          exact hv
        · rw [if_neg]
          · exact he.vr (hsl t x (Or.inl ⟨j, p, v', h1, h2, h3, h4, by unfold addL at h5; rwa [if_neg hj] at h5, h6⟩))
          · rintro ⟨hd, _⟩
            have := chkDst_spec (hdst t hd) h1 h3
            omega
      · rw [if_neg]
        · exact he.vr (hsl t x (Or.inr ⟨fun j p hp hd hlt => by
            have := h1 j p hp hd hlt
            unfold addL at this
            split at this
            · cases this
            · exact this, h2⟩))
        · rintro ⟨hd, hlt⟩
          have := h1 i o ho hd (by rw [← hsz]; exact hlt)
          simp [addL] at this
  have hoi : ops[i]? = some o := by
    have := hpre i o ho
    rw [← hops, Array.getElem?_toList] at this
    exact this
  unfold wpOpIn
  rw [hoi]
  simp only
  have hyield : ∀ (j t : Nat) (b : Bool), guardSlot ops j = some t → fi t = .d .bool b → t ∈ readsOf ops o → yielded ops a.tmps j = some b := by
    intro j t b ht hf hr
    have := hread t hr
    rw [hf] at this
    have e := bool_value this
    rw [Array.getD_eq_getD_getElem?] at e
    unfold yielded
    unfold guardSlot at ht
    rw [ht]
    cases hg : a.tmps[t]? with
    | none => rw [hg] at e; cases e
    | some v => rw [hg] at e; simp at e; subst e; simp [hg]
  cases u with
  | skip =>
    obtain ⟨j, want, t, hg, ht, hor⟩ := hst
    have hr := guard_reads hg ht
    rw [if_neg]
    · exact ⟨fun _ _ => trivial, hnx _ _ (done undef ρ w hm (Ext.refl _ _ _ _) .und (hski.keep (new := []) (Ext.refl _ _ _ _) (fun _ _ => rfl) (fun _ _ _ _ => hu) (fun _ _ _ _ _ _ h => by cases h)))⟩
    · rcases hor with hf | hf
      · rw [show Region.wanted o (yielded ops a.tmps) = false by simp [Region.wanted, hg, hyield j t _ ht hf hr]]
        simp
      · have := hread t hr
        rw [hf] at this
        have e : a.tmps.getD t undef = undef := by generalize a.tmps.getD t undef = v at this; cases this; rfl
        rw [Array.getD_eq_getD_getElem?] at e
        have hy : yielded ops a.tmps j = none := by
          unfold yielded
          unfold guardSlot at ht
          rw [ht]
          simp only [Option.bind_some]
          cases hg : a.tmps[t]? with
          | none => rfl
          | some v => rw [hg] at e; simp at e; rw [e]; rfl
        rw [show Region.wanted o (yielded ops a.tmps) = false by simp [Region.wanted, hg, hy]]
        simp
  | st k b =>
    obtain ⟨hw, hsg, t, pa, px, hop, hl⟩ := hst
    rw [if_pos]
    · have hval : ∀ x ∈ o.op.operands, VR C ρ Hd w (evalF fi x) (a.eval x) := by
        intro x hx
        cases x with
        | tmp t => exact hread t (tmpsOf_reads (mem_tmpsOf (by simpa using hx)))
        | const v => exact constAg_sound v
        | func f => exact .fn .nil .nil
        | global g => exact .no
      have hva := hval pa (by rw [hop]; simp [Op.operands])
      have hvx := hval px (by rw [hop]; simp [Op.operands])
      have hmem := skGet_mem hsg
      obtain ⟨_, e0, cells0, hf0, hcond⟩ := hski _ _ hmem
      have hidx : base + i - base = i := by omega
      rw [hidx] at hcond
      unfold stB at hl
      split at hl
      · rename_i k' off hpa
        split at hl
        · rename_i hbq
          have hbq := beq_true hbq
          subst hbq
          split at hl
          · rename_i e cells cs n hf hcs hsz'
            rw [hf0] at hf
            injection hf with hf
            injection hf with hf1 hf2
            subst hf1; subst hf2
            split at hl
            · rename_i hc
              cases hl
              simp only [Bool.and_eq_true] at hc
              rw [hpa] at hva
              generalize hvp : a.eval pa = vp at hva
              cases hva with
              | ptr hkk =>
                obtain ⟨hany, hor⟩ := hcond hkk
                have hold : BkR C ρ Hd w (ρ k') (.vars e0 cells0) := by
                  rcases hor with ⟨b', _, g, _⟩ | ⟨_, g⟩
                  · rw [hls] at g; cases g
                  · exact g
                obtain ⟨w', hrun, hm', hext', hnew, hoth⟩ := store_any (P := P) hm hany hold hcs hsz' (beq_true hc.1) (Nat.le_of_ble_eq_true hc.2) hvx
                refine wpIn_of_wp (fun c e => by rw [hop] at e; cases e) ?_
                unfold Oper.wp
                rw [show (execOp a.eval o).run P w = .ok .skip w' by simp [execOp, hop, hvp, hrun]]
                refine hnx _ _ (done undef ρ w' hm' hext' .und ?_)
                intro K' k2 hk2
                obtain ⟨g0, e1, cells1, g1, g23⟩ := hski K' k2 hk2
                refine ⟨g0, e1, cells1, g1, fun hin => ?_⟩
                obtain ⟨g2, g3⟩ := g23 hin
                refine ⟨g2, ?_⟩
                by_cases hKi : K' - base = i
                · have hKe : K' = base + i := by omega
                  subst hKe
                  have := hsk.get _ _ hk2
                  rw [hsg] at this
                  injection this with this
                  subst this
                  rw [hidx]
                  exact Or.inl ⟨_, hu, by simp [addL], hnew⟩
                · have hne : k2 ≠ k' := by
                    intro e
                    subst e
                    exact hKi (by rw [sk_inj hsk.nodup hk2 hmem]; exact hidx)
                  have hheap : w'.heap[ρ k2]? = w.heap[ρ k2]? := hoth _ (fun e => hne (hm.inj _ (mem_keys g2) _ hkk e))
                  rcases g3 with ⟨b, c1, c2, c3⟩ | ⟨c1, c2⟩
                  · exact Or.inl ⟨b, c1, by unfold addL; rw [if_neg hKi]; exact c2, c3.ext hext' hheap⟩
                  · exact Or.inr ⟨by unfold addL; rw [if_neg hKi]; exact c1, c2.ext hext' hheap⟩
            · cases hl
          · cases hl
        · cases hl
      · cases hl
    · rcases hw with hg | ⟨j, want, t, hg, ht, hf⟩
      · simp [Region.wanted, hg]
      · simp [Region.wanted, hg, hyield j t _ ht hf (guard_reads hg ht)]
  | ran r new =>
    obtain ⟨hw, hl⟩ := hst
    have hnst : ∀ K k, (K, k) ∈ sk → K - base = i → us[i]? = some .skip := by
      intro K k hk hKi
      exfalso
      obtain ⟨o', t', a', x', g1, g2⟩ := hsk.op K k hk
      rw [hKi, ho] at g1
      injection g1 with g1
      subst g1
      rcases hl with ⟨_, hl⟩ | ⟨e, zs, ho', _⟩
      · exact evM_store g2 hl
      · rw [ho'] at g2; cases g2
    rw [if_pos]
    · rcases hl with ⟨hskf, hl⟩ | ⟨e, zs, hoe, hz, rfl, rfl⟩
      · classical
        generalize hH0 : lateH pre base sk Hs σ0.H (base + i) Ni = H0 at hl
        rw [lateH_eq, Nat.add_sub_cancel_left, ho] at hH0
        have hlate : ∀ k b, (k, b) ∈ olds Hs (lateSk pre base i sk) → k ∈ Hd.keys → (k, Bk.any) ∈ Hd ∧ (∃ e cells, b = .vars e cells) ∧ BkR C ρ Hd w (ρ k) b := by
          intro k b hb hkk
          obtain ⟨⟨K, hK⟩, hf⟩ := olds_mem.1 hb
          obtain ⟨hKs, o2, c1, c2⟩ := lateSk_spec hK
          obtain ⟨_, e, cells, hf', g⟩ := hski K k hKs
          rw [hf] at hf'
          injection hf' with hf'
          obtain ⟨g1, g2⟩ := g hkk
          refine ⟨g1, ⟨e, cells, hf'⟩, ?_⟩
          obtain ⟨ed, d1, d2, d3⟩ := hasEdge_spec c2
          rcases g2 with ⟨b', _, g4, _⟩ | ⟨_, g3⟩
          · have := hcl _ _ (hpre _ _ c1) g4 ed d1 d2
            rw [d3, hls] at this
            cases this
          · rw [hf']; exact g3
        have hkeq : ∀ k, k ∈ Hd.keys ↔ k ∈ (putBlocks Hd (olds Hs (lateSk pre base i sk))).keys := fun k => by rw [putBlocks_keys]
        obtain ⟨hm1, hx1⟩ := hm.reveal (H' := putBlocks Hd (olds Hs (lateSk pre base i sk))) hkeq (fun k e t l hk => putBlocks_other hk (fun b' hb' => by
            have := Heap.mem_unique hm.nodup hk (hlate k b' hb' (mem_keys hk)).1
            cases this)) (by rw [putBlocks_keys]; exact hm.nodup) (fun k b hb => by
            rcases putBlocks_mem hm.nodup hb with h | ⟨_, h⟩
            · exact (hlate k b h ((hkeq k).2 (mem_keys hb))).2.2
            · exact hm.mem k b h)
        have hsub : ∀ x ∈ H0, x ∈ putBlocks Hd (olds Hs (lateSk pre base i sk)) := by
          rintro ⟨k, b⟩ hx
          rw [← hH0] at hx
          rcases List.mem_append.1 hx with hx | hx
          · obtain ⟨p1, p2, p3, p4⟩ := pickH_spec hx
            have p5 : (k, b) ∈ Hd := by
              rcases hNi _ p1 with h | ⟨j, v, h1, h2⟩
              · exact (hH _).2 (Or.inl h)
              · refine (hH _).2 (Or.inr ⟨j, v, h1, ?_, h2⟩)
                have hkj : k = base + j := hnewk j v h1 _ h2
                obtain ⟨ed, d1, d2, d3⟩ := hasEdge_spec p3
                have := hedge ed d1 d2
                rw [d3] at this
                rw [show k - base = j by omega] at this
                exact this
            refine putBlocks_other p5 (fun b' hb' => ?_)
            obtain ⟨⟨K, hK⟩, _⟩ := olds_mem.1 hb'
            have p4 : skHas sk k = false := p4
            rw [skHas_iff.2 ⟨K, (lateSk_spec hK).1⟩] at p4
            cases p4
          have hkk : k ∈ σ0.H.keys := by have := mem_keys hx; rwa [putBlocks_keys] at this
          have hkd : k ∈ Hd.keys := by
            obtain ⟨y, hy, e⟩ := List.mem_map.1 hkk
            exact List.mem_map.2 ⟨y, (hH y).2 (Or.inl hy), e⟩
          by_cases hin : ∃ b', (k, b') ∈ olds Hs (lateSk pre base i sk)
          · obtain ⟨b', hb'⟩ := hin
            have hu : ∀ b'', (k, b'') ∈ olds Hs (lateSk pre base i sk) → b'' = b' := fun b'' hb'' => by
              have h1 := (olds_mem.1 hb').2
              rw [(olds_mem.1 hb'').2] at h1
              injection h1
            have h1 : (k, b') ∈ putBlocks σ0.H (olds Hs (lateSk pre base i sk)) := putBlocks_in hkk hb' hu
            have hnd0 : (putBlocks σ0.H (olds Hs (lateSk pre base i sk))).keys.Nodup := by rw [putBlocks_keys]; exact hnd0
            rw [Heap.mem_unique hnd0 hx h1]
            exact putBlocks_in hkd hb' hu
          · have hno : ∀ b', (k, b') ∉ olds Hs (lateSk pre base i sk) := fun b' hb' => hin ⟨b', hb'⟩
            rcases putBlocks_mem hnd0 hx with h | ⟨_, h⟩
            · exact absurd h (hno _)
            · exact putBlocks_other ((hH _).2 (Or.inl h)) hno
        have hcong : evM P Γ (base + i) H0 (evalF fi) o = evM P Γ (base + i) H0 (fun x => if x ∈ o.op.operands then evalF fi x else .no) o := evM_congr (fun x hx => by rw [if_pos hx])
        rw [hcong] at hl
        refine wpIn_of_wp (evM_plain hl) ?_
        refine evM_wp (H := putBlocks Hd (olds Hs (lateSk pre base i sk))) hsub hm1 (fun h => hKn ((hkeq _).2 h)) (by omega) hΓ (hG _ _ hm.below hC) (fun x => ?_) hl (fun v ρ' w' hm' he hv hbl => ?_)
        · refine hx1.vr ?_
          show VR C ρ Hd w (if x ∈ o.op.operands then evalF fi x else .no) (a.eval x)
          split
          · rename_i hx
            cases x with
            | tmp t => exact hread t (tmpsOf_reads (mem_tmpsOf (by simpa using hx)))
            | const v => exact constAg_sound v
            | func f => exact .fn .nil .nil
            | global g => exact .no
          · exact .no
        · have hmk : ∀ k, k ∈ Heap.keys (new ++ putBlocks Hd (olds Hs (lateSk pre base i sk))) ↔ k ∈ Heap.keys (new ++ Hd) := fun k => by
            have := hkeq k
            simp only [Heap.keys, List.map_append, List.mem_append] at this ⊢
            rw [this]
          have hndn : Heap.keys (new ++ Hd) = Heap.keys (new ++ putBlocks Hd (olds Hs (lateSk pre base i sk))) := by
            have := putBlocks_keys Hd (olds Hs (lateSk pre base i sk))
            simp only [Heap.keys, List.map_append] at this ⊢
            rw [this]
          obtain ⟨hm2, hx2⟩ := hm'.reveal (H' := new ++ Hd) hmk (fun k e t l hk => by
              rcases List.mem_append.1 hk with h | h
              · exact List.mem_append.2 (Or.inl h)
              · rcases putBlocks_mem hm.nodup h with h1 | ⟨_, h1⟩
                · obtain ⟨_, ⟨e', cells, hb⟩, _⟩ := hlate k _ h1 ((hkeq k).2 (mem_keys h)); cases hb
                · exact List.mem_append.2 (Or.inr h1)) (by rw [hndn]; exact hm'.nodup) (fun k b hb => by
              rcases List.mem_append.1 hb with h | h
              · exact hm'.mem k b (List.mem_append.2 (Or.inl h))
              · by_cases hin : ∃ b', (k, b') ∈ olds Hs (lateSk pre base i sk)
                · obtain ⟨b', hb'⟩ := hin
                  obtain ⟨g1, ⟨e', cells, rfl⟩, _⟩ := hlate k _ hb' (mem_keys h)
                  rw [Heap.mem_unique hm.nodup h g1]
                  exact (hm'.mem k _ (List.mem_append.2 (Or.inr (putBlocks_in (mem_keys h) hb' (fun b'' hb'' => by
                    have h1 := (olds_mem.1 hb').2
                    rw [(olds_mem.1 hb'').2] at h1
                    injection h1))))).block
                · exact hm'.mem k b (List.mem_append.2 (Or.inr (putBlocks_other h (fun b' hb' => hin ⟨b', hb'⟩)))))
          have he2 : Ext C ρ Hd w ρ' (new ++ Hd) w' := hx1.trans (he.trans hx2)
          exact hnx _ _ (done v ρ' w' hm2 he2 (hx2.vr hv) (hski.keep he2 (fun k hk => hbl.block _ (hm.key_lt hk)) hnst (fun K k e cells hk _ hkn => by
            exfalso
            obtain ⟨x, hx, e⟩ := List.mem_map.1 hkn
            have := evM_keys hl x hx
            rw [e] at this
            rw [skHas_iff.2 ⟨K, this ▸ hk⟩] at hskf
            cases hskf)))
      · refine wpIn_of_wp (fun c e0 => by rw [hoe] at e0; cases e0) ?_
        obtain ⟨z, hz1, hz2, hz3⟩ := zeroAVs_sound (C := C) (ρ := ρ) (H := Hd) (w := w) (P := P) hz
        obtain ⟨hm', hext'⟩ := hm.alloc (K := base + i) (c := z.cells) (e := e) (blk := .any) hKn (by omega) (fun ρ' H' w' _ hw' => ⟨_, hw'⟩)
        unfold Oper.wp
        rw [show (execOp a.eval o).run P w = .ok (.value (.pointer (some ⟨w.heap.size, 0, none⟩))) (w.alloc (.cells z.cells e)) by
          simp [execOp, hoe, Instr.alloc, hz1, newVar]; rfl]
        refine hnx _ _ (done _ _ _ hm' hext' ?_ (hski.keep hext' (fun k hk => Below.heap_alloc _ _ _ (hm.key_lt hk)) hnst (fun K k e' cells hk hfk hkn => ?_)))
        · have : VR C (upd ρ (base + i) w.heap.size) ((base + i, .any) :: Hd) (w.alloc (.cells z.cells e)) (.ptr (base + i) 0) (.pointer (some ⟨upd ρ (base + i) w.heap.size (base + i), 0, none⟩)) := .ptr List.mem_cons_self
          rw [upd_same] at this
          exact this
        · have hke : k = base + i := by simpa [Heap.keys, Out.new] using hkn
          subst hke
          obtain ⟨g0, _⟩ := hski K _ hk
          obtain ⟨o', t', a', x', g1, g2⟩ := hsk.op K _ hk
          refine ⟨List.mem_singleton.2 rfl, ?_, ?_⟩
          · obtain ⟨o2, c1, c2⟩ := hsk.laid K _ hk (Nat.le_add_right _ _)
            obtain ⟨ed, d1, d2, d3⟩ := hasEdge_spec c2
            cases hb : ls (K - base) with
            | false => rfl
            | true =>
              have := hcl _ _ (hpre _ _ c1) hb ed d1 d2
              rw [d3, Nat.add_sub_cancel_left, hls] at this
              cases this
          · rw [upd_same]
            have hfi := hinit i o e zs ho hoe hz
            rw [hfi] at hfk
            injection hfk with hfk
            injection hfk with hf1 hf2
            subst hf1; subst hf2
            exact ⟨z.cells, by show (w.heap.push _)[w.heap.size]? = _; simp, hz2.imp (fun _ _ => hext'.vr), hz3⟩
    · rcases hw with hg | ⟨j, want, t, hg, ht, hf⟩
      · simp [Region.wanted, hg]
      · simp [Region.wanted, hg, hyield j t _ ht hf (guard_reads hg ht)]

/-- The operations of which each comes behind all others. -/
theorem tail_any (hG : GMono G) (hC : G C.w0) (hΓ : Γ.ok P G) {call : CallT} (hcall : CallSat P G call) {Q : Exit → Act → World → Prop} {K : Fi → Prop} {l : List Oper} {m : Nat} (hops : ops.toList = l)
    (hed : chkEdges l 0 = true) (htail : chkTail m (masks l []) 0 = true) : ∀ (rest : List Oper) (j fuel : Nat) (listed : Array Bool) {ρ : Nat → Nat} {σ : St} {a : Act} {w : World}, l.drop j = rest → m ≤ j → rest.length ≤ fuel → listed.size = ops.size →
      (∀ i, i < ops.size → listed.getD i false = decide (i < j)) → SRel C ρ σ a w → execSeq P Γ call ops rest σ K → (∀ a' w', Reach C σ ρ w (fun σ' => K (.go σ')) a' w' → Q .normal a' w') → (∀ ch a' w', Reach C σ ρ w (fun σ' => K (.pan ch σ')) a' w' → Q (.panic ch) a' w') → ∀ rnd : Option Nat, wpAnyIn (wideR rnd) 0 P .any ops Q fuel listed a w
  | rest, j, fuel, listed, ρ, σ, a, w, hd, hm, hf, hsz, hlist, hs, h, hQ, hP, rnd => by
    have hlen : l.length = ops.size := by rw [← hops]; simp
    have hlt : ∀ i, i < ops.size → listed.getD i true = decide (i < j) := by
      intro i hi
      have := hlist i hi
      rw [Array.getD_eq_getD_getElem?] at this ⊢
      rw [Array.getElem?_eq_getElem (by omega)] at this ⊢
      simpa using this
    have hcl : Closed l (fun i => listed.getD i false) := by
      intro i o ho hi e he hb
      have hio : i < ops.size := by rw [← hlen]; exact (List.getElem?_eq_some_iff.1 ho).1
      have hi' : listed.getD i false = true := hi
      rw [hlist i hio] at hi'
      have hlt' := chkEdges_spec hed ho e he hb
      rw [Nat.zero_add] at hlt'
      show listed.getD e.on false = true
      rw [hlist _ (by omega)]
      simp at hi' ⊢
      omega
    have hready : ∀ i ∈ Region.ready .any ops listed, i = j ∧ i < ops.size := by
      intro i hi
      unfold Region.ready at hi
      rw [List.mem_filter] at hi
      obtain ⟨h1, h2⟩ := hi
      have hi' : i < ops.size := by simpa using h1
      simp only [Bool.and_eq_true, Bool.not_eq_true'] at h2
      rw [hlt i hi'] at h2
      simp at h2
      obtain ⟨h3, h4⟩ := h2
      refine ⟨?_, hi'⟩
      rcases Nat.lt_or_ge j i with hji | hji
      · exfalso
        rw [Array.getElem?_eq_getElem hi'] at h4
        simp only [Option.map_some, Option.getD_some, Array.all_eq_true_iff_forall_mem] at h4
        have ho : l[i]? = some ops[i] := by rw [← hops]; simp [hi']
        obtain ⟨x, hx⟩ : ∃ x, (masks l [])[i]? = some x := ⟨_, List.getElem?_eq_getElem (by rw [(masks_prefix l []).2]; simp; omega)⟩
        have hxe := chkTail_spec htail hx (by omega)
        rw [Nat.zero_add] at hxe
        have := closed_bits hcl hed i _ ho (fun e he hb => by
          have := h4 e he
          unfold binding at hb
          rw [hb] at this
          simpa using this) x j hx (by rw [hxe, Nat.testBit_two_pow_sub_one]; simpa using hji)
        have hjo : j < ops.size := by omega
        have this' : listed.getD j false = true := this
        rw [hlist j hjo] at this'
        simp at this'
      · omega
    cases rest with
    | nil =>
      have hj : ops.size ≤ j := by
        rw [← hlen]
        exact List.drop_eq_nil_iff.1 hd
      have hnil : Region.ready .any ops listed = [] := by
        apply List.eq_nil_iff_forall_not_mem.2
        intro i hi
        have := hready i hi
        omega
      have hend := hQ a w ⟨ρ, σ, h, hs, Fr.refl _ _ _ _ _, Nat.le_refl _⟩
      cases fuel with
      | zero => exact ⟨hnil, hend⟩
      | succ fuel => exact ⟨fun _ => hend, fun i hi => by rw [hnil] at hi; cases hi⟩
    | cons o rest =>
      obtain ⟨fuel, rfl⟩ : ∃ f, fuel = f + 1 := ⟨fuel - 1, by simp at hf; omega⟩
      have hjl : j < l.length := by
        rcases Nat.lt_or_ge j l.length with h | h
        · exact h
        · rw [List.drop_eq_nil_iff.2 h] at hd; cases hd
      have hlj : l[j]? = some o := by
        have := congrArg (fun x => x[0]?) hd
        simpa using this
      have hoj : ops[j]? = some o := by rw [← hops, Array.getElem?_toList] at hlj; exact hlj
      have hdr : l.drop (j + 1) = rest := by
        rw [List.drop_eq_getElem_cons hjl] at hd
        injection hd
      refine ⟨fun hnil => ?_, fun i hi => ?_⟩
      · exfalso
        have hjin : j ∈ Region.ready .any ops listed := by
          unfold Region.ready
          rw [List.mem_filter]
          refine ⟨by simp; omega, ?_⟩
          rw [hlt j (by omega), hoj]
          simp only [Option.map_some, Option.getD_some, Bool.and_eq_true]
          refine ⟨by simp, ?_⟩
          rw [Array.all_eq_true_iff_forall_mem]
          intro e he
          cases hb : Region.binds .any e with
          | false => rfl
          | true =>
            have := chkEdges_spec hed hlj e he hb
            rw [Nat.zero_add] at this
            simp [hlist e.on (by omega), this]
        rw [hnil] at hjin
        cases hjin
      · obtain ⟨rfl, _⟩ := hready i hi
        unfold wpOpIn
        rw [hoj]
        simp only
        refine execSeq_step hG hC hΓ hcall hs h ?_ hP rnd
        rintro a' w' ⟨ρ', σ', h2, h3, h4, h5⟩
        refine tail_any hG hC hΓ hcall hops hed htail rest (i + 1) _ _ hdr (by omega) (by simp at hf; omega) (by simp [hsz]) (fun k hk => ?_) h3 h2 (fun a'' w'' hr => hQ a'' w'' (hr.trans h4 h5)) (fun ch a'' w'' hr => hP ch a'' w'' (hr.trans h4 h5)) rnd
        rw [Array.getD_eq_getD_getElem?]
        by_cases hki : k = i
        · subst hki
          rw [Array.getElem?_setIfInBounds_self_of_lt (by omega)]
          simp
        · rw [Array.getElem?_setIfInBounds_ne (Ne.symm hki), ← Array.getD_eq_getD_getElem?, hlist k hk]
          congr 1
          apply propext
          omega
  termination_by rest => rest.length


theorem evM_few {K : Nat} {H : Heap} {arg : Operand → AV} {o : Oper} {r : AV} {new : List (Nat × Bk)} (h : (evM P Γ K H arg o).Leaf (r, new)) : new.length ≤ 1 := by
  unfold evM at h
  split at h
  · obtain ⟨_, _, h⟩ := T.Leaf.bind h; cases h; exact Nat.zero_le _
  · split at h <;> cases h; exact Nat.le_refl _
  · split at h <;> cases h; exact Nat.le_refl _
  · split at h <;> first | (cases h; done) | skip
    split at h <;> first | (cases h; done) | skip
    split at h <;> first | (cases h; done) | skip
    split at h <;> first | (cases h; done) | skip
    split at h <;> first | (cases h; done) | skip
    split at h
    · cases h; exact Nat.zero_le _
    split at h
    · cases h; exact Nat.le_refl _
    · cases h; exact Nat.le_refl _
  · split at h
    · unfold strBytes at h
      split at h <;> first | (cases h; done) | skip
      split at h <;> first | (cases h; done) | skip
      cases h; exact Nat.zero_le _
    · obtain ⟨_, _, h⟩ := T.Leaf.bind h; cases h; exact Nat.zero_le _
  · split at h <;> first | (cases h; done) | skip
    split at h <;> cases h
    exact Nat.le_refl _
  · split at h <;> first | (cases h; done) | skip
    split at h <;> first | (cases h; done) | skip
    unfold makeI at h
    split at h <;> first | (cases h; done) | skip
    split at h <;> first | (cases h; done) | skip
    · unfold makeV at h
      split at h <;> first | (cases h; done) | skip
      split at h <;> first | (cases h; done) | skip
      cases h with
      | need _ h =>
        cases h; exact Nat.le_refl _
    split at h <;> first | (cases h; done) | skip
    split at h <;> first | (cases h; done) | skip
    cases h with
    | need _ h => cases h; exact Nat.le_refl _
  · split at h <;> first | (cases h; done) | skip
    split at h <;> first | (cases h; done) | skip
    split at h <;> first | (cases h; done) | skip
    split at h <;> first | (cases h; done) | skip
    cases h with
    | need _ h => rw [show new = [] from conRes_new h]; exact Nat.zero_le _
  · unfold appendE at h
    split at h <;> first | (cases h; done) | skip
    split at h <;> first | (cases h; done) | skip
    split at h <;> first | (cases h; done) | skip
    split at h <;> first | (cases h; done) | skip
    split at h <;> first | (cases h; done) | skip
    split at h <;> first | (cases h; done) | skip
    split at h <;> first | (cases h; done) | skip
    unfold appendNew at h
    cases h with
    | need _ h => cases h; exact Nat.zero_le _
  · obtain ⟨_, _, h⟩ := T.Leaf.bind h; cases h; exact Nat.zero_le _

/-- Memory whose blocks are listed in another order. -/
theorem MRel.perm {ρ : Nat → Nat} {H H' : Heap} {next : Nat} {w : World} (hm : MRel C ρ H next w) (h : ∀ x, x ∈ H ↔ x ∈ H') (hn : H'.keys.Nodup) : MRel C ρ H' next w ∧ Ext C ρ H w ρ H' w := by
  have hk : ∀ k, k ∈ H.keys ↔ k ∈ H'.keys := by
    intro k
    simp only [Heap.keys, List.mem_map, h]
  have hext : Ext C ρ H w ρ H' w := ⟨fun b ⟨h1, h2, h3⟩ => ⟨⟨h1, h2, fun k hk' => h3 k ((hk k).2 hk')⟩, rfl⟩, fun k hk' => ⟨(hk k).1 hk', rfl⟩, fun k e t l hm => ⟨l, (h _).1 hm, Nat.le_refl _, fun c fr hc => ⟨c, fr, hc, rfl⟩⟩, Nat.le_refl _⟩
  exact ⟨⟨hm.below, hn, fun k hk' => hm.lt k ((hk k).2 hk'), fun k hk1 k' hk2 => hm.inj k ((hk k).2 hk1) k' ((hk k').2 hk2), fun k hk' => hm.low k ((hk k).2 hk'), fun k b hb => (hm.mem k b ((h _).2 hb)).ext hext rfl⟩, hext⟩

theorem preT_nodup {sk : List (Nat × Nat)} {Hs : Heap} : ∀ (l : List Oper) (K : Nat) (H0 : Nat → Heap → Heap) (σ : St) (s : List (Nat × Bk)) (z : St × List (Nat × Bk)), (preT P Γ ops sk Hs H0 l K σ s).Leaf z → σ.H.keys.Nodup → (∀ k ∈ σ.H.keys, k < K) → z.1.H.keys.Nodup
  | [], K, H0, σ, s, z, h, hn, _ => by cases h; exact hn
  | o :: rest, K, H0, σ, s, z, h, hn, hk => by
    have key : ∀ (σ1 : St) (u : Out) (s' : List (Nat × Bk)), σ1.H = σ.H → (∀ x ∈ u.new, x.1 = K) → u.new.length ≤ 1 → (preT P Γ ops sk Hs H0 rest (K + 1) (σ1.step o u) s').Leaf z → z.1.H.keys.Nodup := by
      intro σ1 u s' e1 hu hl hlf
      have hH : (σ1.step o u).H = u.new ++ σ.H := by unfold St.step; rw [St.put_H]; simp only [e1]
      refine preT_nodup rest (K + 1) H0 _ _ z hlf ?_ ?_
      · rw [hH]
        match hun : u.new, hl with
        | [], _ => exact hn
        | [x], _ =>
          refine List.nodup_cons.2 ⟨fun hm => ?_, hn⟩
          have h1 : x.1 < K := hk _ hm
          have := hu x (by rw [hun]; simp)
          omega
      · rw [hH]
        intro k hkm
        obtain ⟨x, hx, e⟩ := List.mem_map.1 hkm
        subst e
        rcases List.mem_append.1 hx with hx | hx
        · have := hu x hx; omega
        · have := hk x.1 (List.mem_map.2 ⟨x, hx, rfl⟩); omega
    have run : ∀ (σ1 : St) (u : Out) (s' : List (Nat × Bk)), σ1.H = σ.H → (evS P Γ sk Hs K (H0 K σ.H) σ1.eval o).Leaf u → (preT P Γ ops sk Hs H0 rest (K + 1) (σ1.step o u) s').Leaf z → z.1.H.keys.Nodup := by
      intro σ1 u s' e h1 h2
      unfold evS at h1
      split at h1
      · split at h1
        · obtain ⟨b, _, h4⟩ := T.Leaf.bind h1
          cases h4
          exact key σ1 _ s' e (by intro x hx; cases hx) (Nat.zero_le _) h2
        · cases h1
      · split at h1
        · obtain ⟨y, h3, h4⟩ := T.Leaf.bind h1
          cases h4
          exact key σ1 (.ran y.1 y.2) s' e (evM_keys h3) (evM_few h3) h2
        · split at h1
          · split at h1
            · cases h1
              exact key σ1 _ s' e (by intro x hx; simp only [Out.new, List.mem_singleton] at hx; subst hx; rfl) (Nat.le_refl _) h2
            · cases h1
          · cases h1
    have skp : ∀ (σ1 : St) (s' : List (Nat × Bk)), σ1.H = σ.H → (preT P Γ ops sk Hs H0 rest (K + 1) (σ1.step o .skip) s').Leaf z → z.1.H.keys.Nodup :=
      fun σ1 s' e h2 => key σ1 .skip s' e (by intro x hx; cases hx) (Nat.zero_le _) h2
    simp only [preT] at h
    split at h
    · obtain ⟨y, h1, h2⟩ := T.Leaf.bind h
      exact run σ y _ rfl h1 h2
    · rename_i j want hg
      split at h
      · rename_i t ht
        split at h
        · cases h with
          | t h =>
            cases want with
            | true => obtain ⟨y, h1, h2⟩ := T.Leaf.bind h; exact run _ y _ (St.put_H _ _ _) h1 h2
            | false => exact skp _ _ (St.put_H _ _ _) h
          | f h =>
            cases want with
            | true => exact skp _ _ (St.put_H _ _ _) h
            | false => obtain ⟨y, h1, h2⟩ := T.Leaf.bind h; exact run _ y _ (St.put_H _ _ _) h1 h2
        · exact skp _ _ rfl h
        · cases h
      · cases h

theorem nodupB_sound {l : List Nat} (h : nodupB l = true) : l.Nodup := by
  induction l with
  | nil => exact List.nodup_nil
  | cons k r ih =>
    simp only [nodupB, Bool.and_eq_true, Bool.not_eq_true'] at h
    exact List.nodup_cons.2 ⟨by have := h.1; simpa using this, ih h.2⟩

theorem veil_mem {sk : List (Nat × Nat)} {H : Heap} {k : Nat} {b : Bk} : (k, b) ∈ veil sk H ↔ ∃ b', (k, b') ∈ H ∧ b = (match skHas sk k with | true => b'.veil | false => b') := by
  induction H with
  | nil => simp [veil]
  | cons x r ih =>
    obtain ⟨j, y⟩ := x
    simp only [veil, List.mem_cons, ih]
    constructor
    · rintro (e | ⟨b', h1, h2⟩)
      · injection e with e1 e2; subst e1; exact ⟨y, Or.inl rfl, e2⟩
      · exact ⟨b', Or.inr h1, h2⟩
    · rintro ⟨b', h1 | h1, h2⟩
      · injection h1 with e1 e2; subst e1; subst e2; exact Or.inl (by rw [h2] <;> cases skHas sk k <;> rfl)
      · exact Or.inr ⟨b', h1, h2⟩

theorem veil_keys (sk : List (Nat × Nat)) (H : Heap) : (veil sk H).keys = H.keys := by
  induction H with
  | nil => rfl
  | cons x r ih => obtain ⟨j, y⟩ := x; simp only [veil, Heap.keys, List.map_cons] at ih ⊢; rw [ih]

theorem veil_nil (H : Heap) : veil [] H = H := by
  induction H with
  | nil => rfl
  | cons x r ih => obtain ⟨j, y⟩ := x; simp only [veil, skHas, ih]

theorem veilS_eq (sk : List (Nat × Nat)) (H : Heap) : veilS sk H = veil sk H := by
  cases sk with
  | nil => exact (veil_nil H).symm
  | cons x r => rfl

theorem skOf_spec {σ : St} {pre : List Oper} {base : Nat} {Hx : Heap} : ∀ {l : List Oper} {K : Nat} {sk : List (Nat × Nat)}, skOf σ pre base Hx l K = some sk → (∀ K' k, (K', k) ∈ sk → K ≤ K' ∧ ∃ o t a x, l[K' - K]? = some o ∧ o.op = .store t a x ∧ ∃ e cells, Hx.find k = some (.vars e cells)) ∧ (∀ K' k, (K', k) ∈ sk → skGet sk K' = some k)
  | [], K, sk, h => by
    injection h with h
    subst h
    exact ⟨(by intro _ _ h; cases h), (by intro _ _ h; cases h)⟩
  | o :: r, K, sk, h => by
    simp only [skOf] at h
    split at h
    · rename_i l hl
      obtain ⟨h1, h2⟩ := skOf_spec hl
      have shift : ∀ K' k, (K', k) ∈ l → K ≤ K' ∧ ∃ o' t a x, (o :: r)[K' - K]? = some o' ∧ o'.op = .store t a x ∧ ∃ e cells, Hx.find k = some (.vars e cells) := by
        intro K' k hm
        obtain ⟨g0, o', t, a, x, g1, g2⟩ := h1 K' k hm
        refine ⟨by omega, o', t, a, x, ?_, g2⟩
        rw [show K' - K = (K' - (K + 1)) + 1 by omega]
        simpa using g1
      split at h
      · rename_i t a x ho
        split at h
        · rename_i k hk
          split at h
          · rename_i e cells hfk
            injection h with h
            subst h
            refine ⟨fun K' k' hm => ?_, fun K' k' hm => ?_⟩
            · rcases List.mem_cons.1 hm with e | hm
              · injection e with e1 e2; subst e1; subst e2
                exact ⟨Nat.le_refl _, o, t, a, x, by simp, ho, _, _, hfk⟩
              · exact shift K' k' hm
            · rcases List.mem_cons.1 hm with e | hm
              · injection e with e1 e2; subst e1; subst e2
                simp [skGet]
              · have := (h1 K' k' hm).1
                simp only [skGet, ne_beq (show K ≠ K' by omega)]
                exact h2 K' k' hm
          · cases h
        · cases h
      · injection h with h
        subst h
        exact ⟨shift, h2⟩
    · cases h

theorem allocs_keys : ∀ {l : List Oper} {K k : Nat}, k ∈ (allocs P l K).keys → K ≤ k
  | [], _, _, h => by cases h
  | o :: r, K, k, h => by
    simp only [allocs] at h
    split at h
    · split at h
      · rcases List.mem_cons.1 h with e | h
        · rw [e]; exact Nat.le_refl _
        · have := allocs_keys h; omega
      · have := allocs_keys h; omega
    · have := allocs_keys h; omega

theorem find_append_right {H H' : Heap} {k : Nat} (h : k ∉ H.keys) : Heap.find (H ++ H') k = H'.find k := by
  induction H with
  | nil => rfl
  | cons x r ih =>
    obtain ⟨j, b⟩ := x
    simp only [Heap.keys, List.map_cons, List.mem_cons, not_or] at h
    simp only [List.cons_append, Heap.find, ne_beq (Ne.symm h.1)]
    exact ih h.2

theorem allocs_find {H : Heap} {e : TypeId} {zs : List AV} {o : Oper} : ∀ {l : List Oper} {K i : Nat}, l[i]? = some o → o.op = .alloc e → zeroAVs P e = some zs → Heap.find (allocs P l K ++ H) (K + i) = some (.vars e zs)
  | [], _, _, h, _, _ => by cases h
  | p :: r, K, 0, h, ho, hz => by
    injection h with h
    subst h
    simp [allocs, ho, hz, Heap.find]
  | p :: r, K, i + 1, h, ho, hz => by
    have ih := allocs_find (H := H) (K := K + 1) (i := i) (l := r) (by simpa using h) ho hz
    rw [show K + (i + 1) = K + 1 + i by omega]
    simp only [allocs]
    split
    · split
      · simp only [List.cons_append, Heap.find, ne_beq (show K ≠ K + 1 + i by omega)]
        exact ih
      · exact ih
    · exact ih
end
end Go.Vg
