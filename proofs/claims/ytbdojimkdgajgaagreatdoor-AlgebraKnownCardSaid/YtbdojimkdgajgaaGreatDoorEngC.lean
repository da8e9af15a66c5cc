/-
  The engine, part C: what a new block, a store, an append and a slice given away do to the relation. Own work; no condition.
-/
import Derived.Test.YtbdojimkdgajgaaGreatDoorEngB
namespace Go.Vg
open Go Go.RowKit

/-- Memory has gone on, and every block of the call's own is still there. -/
structure Ext (C : Ctx) (ρ : Nat → Nat) (H : Heap) (w : World) (ρ' : Nat → Nat) (H' : Heap) (w' : World) : Prop where
  data : ∀ b, Ok C ρ H w b → Ok C ρ' H' w' b ∧ w'.heap[b]? = w.heap[b]?
  keys : ∀ k ∈ H.keys, k ∈ H'.keys ∧ ρ' k = ρ k
  rows : ∀ k e t l, (k, Bk.row e t l) ∈ H → ∃ l', (k, Bk.row e t l') ∈ H' ∧ l.length ≤ l'.length ∧
      ∀ c fr, w.heap[ρ k]? = some (.cells c e fr) → ∃ c' fr', w'.heap[ρ k]? = some (.cells c' e fr') ∧ c.size = c'.size
  size : w.heap.size ≤ w'.heap.size

theorem Ext.refl (C : Ctx) (ρ : Nat → Nat) (H : Heap) (w : World) : Ext C ρ H w ρ H w :=
  ⟨fun _ h => ⟨h, rfl⟩, fun _ h => ⟨h, rfl⟩, fun _ _ _ l h => ⟨l, h, Nat.le_refl _, fun c fr h => ⟨c, fr, h, rfl⟩⟩, Nat.le_refl _⟩

theorem Ext.vr {C : Ctx} {ρ ρ' : Nat → Nat} {H H' : Heap} {w w' : World} (h : Ext C ρ H w ρ' H' w') {x : AV} {v : Value}
    (hv : VR C ρ H w x v) : VR C ρ' H' w' x v := by
  have := VR.map (p := fun _ => true) (f := fun _ _ _ => .no) h.data (fun k hk _ => h.keys k hk) (fun k e t l hm _ => h.rows k e t l hm) (fun _ _ _ _ h => by cases h) hv
  rwa [AV.map_true] at this

theorem mem_keys {H : Heap} {k : Nat} {b : Bk} (h : (k, b) ∈ H) : k ∈ H.keys := List.mem_map.2 ⟨_, h, rfl⟩

theorem Ext.trans {C : Ctx} {ρ ρ' ρ'' : Nat → Nat} {H H' H'' : Heap} {w w' w'' : World}
    (h : Ext C ρ H w ρ' H' w') (g : Ext C ρ' H' w' ρ'' H'' w'') : Ext C ρ H w ρ'' H'' w'' := by
  refine ⟨fun b hb => ?_, fun k hk => ?_, fun k e t l hm => ?_, Nat.le_trans h.size g.size⟩
  · obtain ⟨h1, h2⟩ := h.data b hb
    obtain ⟨g1, g2⟩ := g.data b h1
    exact ⟨g1, g2.trans h2⟩
  · obtain ⟨h1, h2⟩ := h.keys k hk
    obtain ⟨g1, g2⟩ := g.keys k h1
    exact ⟨g1, g2.trans h2⟩
  · obtain ⟨l', h1, h2, h3⟩ := h.rows k e t l hm
    obtain ⟨l'', g1, g2, g3⟩ := g.rows k e t l' h1
    refine ⟨l'', g1, by omega, fun c fr hc => ?_⟩
    obtain ⟨c', fr', hc', hs⟩ := h3 c fr hc
    have hk := (h.keys k (mem_keys hm)).2
    rw [← hk] at hc'
    obtain ⟨c'', fr'', hc'', hs'⟩ := g3 c' fr' hc'
    exact ⟨c'', fr'', by rw [← hk]; exact hc'', by omega⟩

theorem Ext.fr {C : Ctx} {n : Nat} {ρ ρ' : Nat → Nat} {H H' : Heap} {w w' : World} (h : Ext C ρ H w ρ' H' w')
    (hn : ∀ k, k < n → k ∈ H'.keys → k ∈ H.keys) : Fr C n ρ H w ρ' H' w' :=
  ⟨h.data, fun k hk hm => ⟨hn k hk hm, (h.keys k (hn k hk hm)).2⟩, fun k e t l _ hm _ => h.rows k e t l hm, h.size⟩

theorem MapR.imp {R R' : AV → Value → Prop} {k : IntKind} (h : ∀ x v, R x v → R' x v) : ∀ {l : List (Int × AV)} {es : List MapEntry}, MapR R k l es → MapR R' k l es
  | [], [], _ => trivial
  | _ :: _, _ :: _, ⟨h1, h2, h3⟩ => ⟨h1, h _ _ h2, MapR.imp h h3⟩
  | [], _ :: _, h => h.elim
  | _ :: _, [], h => h.elim

theorem BkR.ext {C : Ctx} {ρ ρ' : Nat → Nat} {H H' : Heap} {w w' : World} {b b' : Nat} {x : Bk} (h : Ext C ρ H w ρ' H' w')
    (hb : w'.heap[b']? = w.heap[b]?) (hx : BkR C ρ H w b x) : BkR C ρ' H' w' b' x := by
  cases x with
  | vars e cells =>
    obtain ⟨c, h1, h2, h3⟩ := hx
    exact ⟨c, hb.trans h1, h2.imp (fun _ _ => h.vr), h3⟩
  | row e t l =>
    obtain ⟨c, h1, h2, h3, h4, h5⟩ := hx
    exact ⟨c, hb.trans h1, h2, h3, RdL.mono (fun x cs => Rd.mono h.data t x cs) _ _ h4, h5⟩
  | loop r =>
    obtain ⟨fn, tmps, d, h1, h2, h3⟩ := hx
    exact ⟨fn, tmps, d, hb.trans h1, h2, fun t => h.vr (h3 t)⟩
  | dic k l => obtain ⟨es, n, h1, h2⟩ := hx; exact ⟨es, n, hb.trans h1, h2.imp (fun _ _ => h.vr)⟩
  | any => obtain ⟨o, h1⟩ := hx; exact ⟨o, hb.trans h1⟩

theorem BkR.block {C : Ctx} {ρ : Nat → Nat} {H : Heap} {w : World} {b : Nat} {x : Bk} (h : BkR C ρ H w b x) :
    ∃ o, w.heap[b]? = some o := by
  cases x with
  | vars e cells => obtain ⟨c, h1, _⟩ := h; exact ⟨_, h1⟩
  | row e t l => obtain ⟨c, h1, _⟩ := h; exact ⟨_, h1⟩
  | loop r => obtain ⟨fn, tmps, d, h1, _⟩ := h; exact ⟨_, h1⟩
  | dic k l => obtain ⟨es, n, h1, _⟩ := h; exact ⟨_, h1⟩
  | any => exact h

theorem lt_of_block {w : World} {b : Nat} {o : Obj} (h : w.heap[b]? = some o) : b < w.heap.size := (Array.getElem?_eq_some_iff.1 h).1

theorem MRel.key_lt {C : Ctx} {ρ : Nat → Nat} {H : Heap} {next : Nat} {w : World} (hm : MRel C ρ H next w) {k : Nat} (hk : k ∈ H.keys) : ρ k < w.heap.size := by
  obtain ⟨⟨k', b⟩, hb, e⟩ := List.mem_map.1 hk
  subst e
  obtain ⟨o, h⟩ := (hm.mem k' b hb).block
  exact lt_of_block h

def upd (ρ : Nat → Nat) (K b : Nat) : Nat → Nat := fun k => match Nat.beq k K with | true => b | false => ρ k
theorem upd_same (ρ : Nat → Nat) (K b : Nat) : upd ρ K b K = b := by simp [upd]
theorem upd_ne (ρ : Nat → Nat) {K b k : Nat} (h : k ≠ K) : upd ρ K b k = ρ k := by simp [upd, ne_beq h]

/-- A new block. -/
theorem MRel.allocO {C : Ctx} {ρ : Nat → Nat} {H : Heap} {next : Nat} {w : World} {K : Nat} {ob : Obj} {blk : Bk}
    (hm : MRel C ρ H next w) (hK : K ∉ H.keys) (hlt : K < next)
    (hb : ∀ (ρ' : Nat → Nat) (H' : Heap) (w' : World), Ext C ρ H w ρ' H' w' → w'.heap[w.heap.size]? = some ob → BkR C ρ' H' w' w.heap.size blk) :
    MRel C (upd ρ K w.heap.size) ((K, blk) :: H) next (w.alloc ob) ∧
      Ext C ρ H w (upd ρ K w.heap.size) ((K, blk) :: H) (w.alloc ob) := by
  have hne : ∀ k ∈ H.keys, k ≠ K := fun k hk e => hK (e ▸ hk)
  have hn0 : C.w0.heap.size ≤ w.heap.size := hm.below.size
  have hext : Ext C ρ H w (upd ρ K w.heap.size) ((K, blk) :: H) (w.alloc ob) := by
    refine ⟨fun b hb => ?_, fun k hk => ⟨List.mem_cons_of_mem _ hk, upd_ne _ (hne k hk)⟩, fun k e' t l hmem => ⟨l, List.mem_cons_of_mem _ hmem, Nat.le_refl _, fun c' fr hc => ⟨c', fr, ?_, rfl⟩⟩, by simp⟩
    · obtain ⟨h1, h2, h3⟩ := hb
      refine ⟨⟨h1, by simp; omega, fun k hk => ?_⟩, Below.heap_alloc _ _ _ h2⟩
      rcases List.mem_cons.1 hk with rfl | hk
      · simp only [upd_same]; omega
      · have hk' : k ∈ H.keys := hk
        rw [upd_ne _ (hne k hk')]; exact h3 k hk'
    · rw [Below.heap_alloc _ _ _ (lt_of_block hc)]; exact hc
  refine ⟨⟨hm.below.alloc hn0 _, ?_, ?_, ?_, ?_, ?_⟩, hext⟩
  · exact List.nodup_cons.2 ⟨hK, hm.nodup⟩
  · intro k hk
    rcases List.mem_cons.1 hk with rfl | hk
    · exact hlt
    · exact hm.lt k hk
  · intro k hk k' hk' heq
    rcases List.mem_cons.1 hk with rfl | hk1 <;> rcases List.mem_cons.1 hk' with rfl | hk1'
    · rfl
    · have hk2 : k' ∈ H.keys := hk1'
      simp only [upd_same, upd_ne _ (hne k' hk2)] at heq
      have := hm.key_lt hk2; omega
    · have hk2 : k ∈ H.keys := hk1
      simp only [upd_same, upd_ne _ (hne k hk2)] at heq
      have := hm.key_lt hk2; omega
    · have hk2 : k ∈ H.keys := hk1
      have hk3 : k' ∈ H.keys := hk1'
      rw [upd_ne _ (hne k hk2), upd_ne _ (hne k' hk3)] at heq
      exact hm.inj k hk2 k' hk3 heq
  · intro k hk
    rcases List.mem_cons.1 hk with rfl | hk
    · simp only [upd_same]; exact hn0
    · have hk2 : k ∈ H.keys := hk
      rw [upd_ne _ (hne k hk2)]; exact hm.low k hk2
  · intro k b hkb
    rcases List.mem_cons.1 hkb with heq | hkb
    · injection heq with h1 h2; subst h1; subst h2
      simp only [upd_same]
      exact hb _ _ _ hext (by show (w.heap.push _)[w.heap.size]? = _; simp)
    · have hk2 := mem_keys hkb
      rw [upd_ne _ (hne k hk2)]
      exact (hm.mem k b hkb).ext hext (Below.heap_alloc _ _ _ (hm.key_lt hk2))

theorem MRel.alloc {C : Ctx} {ρ : Nat → Nat} {H : Heap} {next : Nat} {w : World} {K : Nat} {c : Array Value} {e : TypeId} {blk : Bk}
    (hm : MRel C ρ H next w) (hK : K ∉ H.keys) (hlt : K < next)
    (hb : ∀ (ρ' : Nat → Nat) (H' : Heap) (w' : World), Ext C ρ H w ρ' H' w' → w'.heap[w.heap.size]? = some (.cells c e (0, 0)) → BkR C ρ' H' w' w.heap.size blk) :
    MRel C (upd ρ K w.heap.size) ((K, blk) :: H) next (w.alloc (.cells c e)) ∧
      Ext C ρ H w (upd ρ K w.heap.size) ((K, blk) :: H) (w.alloc (.cells c e)) := hm.allocO hK hlt hb

def Heap.up : Heap → Nat → Bk → Heap
  | [], _, _ => []
  | (j, x) :: r, k, b => match Nat.beq j k with | true => (j, b) :: r | false => (j, x) :: Heap.up r k b

theorem Heap.keys_up (H : Heap) (k : Nat) (b : Bk) : (H.up k b).keys = H.keys := by
  induction H with
  | nil => rfl
  | cons x r ih =>
    obtain ⟨j, y⟩ := x
    simp only [Heap.up]
    cases Nat.beq j k with
    | true => rfl
    | false => simp only [Heap.keys, List.map_cons] at ih ⊢; rw [ih]

theorem Heap.mem_up_same {H : Heap} {k : Nat} {b : Bk} (h : k ∈ H.keys) : (k, b) ∈ H.up k b := by
  induction H with
  | nil => simp [Heap.keys] at h
  | cons x r ih =>
    obtain ⟨j, y⟩ := x
    simp only [Heap.up]
    cases hb : Nat.beq j k with
    | true => have := beq_true hb; subst this; exact List.mem_cons_self
    | false =>
      have hne := beq_false hb
      rcases List.mem_cons.1 h with e | h
      · exact absurd e.symm hne
      · exact List.mem_cons_of_mem _ (ih h)

theorem Heap.mem_up_ne {H : Heap} {k j : Nat} {b x : Bk} (hne : j ≠ k) : (j, x) ∈ H.up k b ↔ (j, x) ∈ H := by
  induction H with
  | nil => simp [Heap.up]
  | cons y r ih =>
    obtain ⟨i, z⟩ := y
    simp only [Heap.up]
    cases hb : Nat.beq i k with
    | true =>
      have := beq_true hb; subst this
      simp [hne]
    | false => simp only [List.mem_cons, ih]

theorem Heap.mem_up_eq {H : Heap} {k : Nat} {b x : Bk} (hn : H.keys.Nodup) (h : (k, x) ∈ H.up k b) : x = b := by
  induction H with
  | nil => simp [Heap.up] at h
  | cons y r ih =>
    obtain ⟨i, z⟩ := y
    have hn' := List.nodup_cons.1 hn
    simp only [Heap.up] at h
    cases hb : Nat.beq i k with
    | true =>
      rw [hb] at h
      have := beq_true hb; subst this
      rcases List.mem_cons.1 h with e | h
      · injection e
      · exact absurd (mem_keys (H := r) h) hn'.1
    | false =>
      rw [hb] at h
      rcases List.mem_cons.1 h with e | h
      · injection e with e1 e2; exact absurd e1.symm (beq_false hb)
      · exact ih hn'.2 h

theorem Heap.mem_unique {H : Heap} {k : Nat} {x y : Bk} (hn : H.keys.Nodup) (hx : (k, x) ∈ H) (hy : (k, y) ∈ H) : x = y := by
  induction H with
  | nil => simp at hx
  | cons z r ih =>
    obtain ⟨i, u⟩ := z
    have hn' := List.nodup_cons.1 hn
    rcases List.mem_cons.1 hx with e | hx1 <;> rcases List.mem_cons.1 hy with e' | hy1
    · injection e with _ e2; injection e' with _ e4; rw [e2, e4]
    · injection e with e1 _; subst e1; exact absurd (mem_keys (H := r) hy1) hn'.1
    · injection e' with e1 _; subst e1; exact absurd (mem_keys (H := r) hx1) hn'.1
    · exact ih hn'.2 hx1 hy1

/-- A store into one of the call's own blocks. -/
theorem MRel.write {C : Ctx} {ρ : Nat → Nat} {H : Heap} {next : Nat} {w : World} {k : Nat} {ob nb : Bk} {c c' : Array Value} {e : TypeId}
    (hm : MRel C ρ H next w) (hk : (k, ob) ∈ H) (hc : w.heap[ρ k]? = some (.cells c e (0, 0))) (hs : c.size = c'.size)
    (hrow : ∀ e t l, ob = .row e t l → ∃ l', nb = .row e t l' ∧ l.length ≤ l'.length)
    (hb : ∀ (H' : Heap) (w' : World), Ext C ρ H w ρ H' w' → w'.heap[ρ k]? = some (.cells c' e (0, 0)) → BkR C ρ H' w' (ρ k) nb) :
    MRel C ρ (H.up k nb) next (w.setRow (ρ k) c') ∧ Ext C ρ H w ρ (H.up k nb) (w.setRow (ρ k) c') := by
  have hkk := mem_keys hk
  have hext : Ext C ρ H w ρ (H.up k nb) (w.setRow (ρ k) c') := by
    refine ⟨fun b hb => ?_, fun j hj => ⟨by rw [Heap.keys_up]; exact hj, rfl⟩, fun j e' t l hmem => ?_, by simp⟩
    · obtain ⟨h1, h2, h3⟩ := hb
      exact ⟨⟨h1, by simpa using h2, fun j hj => h3 j (by rwa [Heap.keys_up] at hj)⟩, setRow_other _ _ _ _ (fun e => h3 k hkk e.symm)⟩
    · by_cases hj : j = k
      · subst hj
        have := Heap.mem_unique hm.nodup hk hmem
        obtain ⟨l', hl, hle⟩ := hrow e' t l this
        refine ⟨l', by rw [← hl]; exact Heap.mem_up_same hkk, hle, fun c1 fr1 h1 => ?_⟩
        rw [hc] at h1; injection h1 with h1; injection h1 with h1 h2 h3
        subst h1; subst h2; subst h3
        exact ⟨c', (0, 0), setRow_heap _ _ _ _ _ _ hc, hs⟩
      · refine ⟨l, (Heap.mem_up_ne hj).2 hmem, Nat.le_refl _, fun c1 fr1 h1 => ⟨c1, fr1, ?_, rfl⟩⟩
        rw [setRow_other _ _ _ _ (fun e => hj (hm.inj j (mem_keys hmem) k hkk e))]; exact h1
  refine ⟨⟨?_, ?_, ?_, ?_, ?_, ?_⟩, hext⟩
  · exact hm.below.trans ⟨rfl, rfl, rfl, by simp, fun i hi => setRow_other _ _ _ _ (fun e => by have := hm.low k hkk; omega)⟩
  · rw [Heap.keys_up]; exact hm.nodup
  · rw [Heap.keys_up]; exact hm.lt
  · rw [Heap.keys_up]; exact hm.inj
  · rw [Heap.keys_up]; exact hm.low
  · intro j b hjb
    by_cases hj : j = k
    · subst hj
      rw [Heap.mem_up_eq hm.nodup hjb]
      exact hb _ _ hext (setRow_heap _ _ _ _ _ _ hc)
    · have hjb' := (Heap.mem_up_ne hj).1 hjb
      exact (hm.mem j b hjb').ext hext (setRow_other _ _ _ _ (fun e => hj (hm.inj j (mem_keys hjb') k hkk e)))

def mapSlots (p : Nat → Bool) (f : Nat → Nat → Nat → AV) : List (Nat × AV) → List (Nat × AV)
  | [] => []
  | (t, v) :: r => (t, v.map p f) :: mapSlots p f r

theorem look_map (p : Nat → Bool) (f : Nat → Nat → Nat → AV) (l : List (Nat × AV)) (t : Nat) : look (mapSlots p f l) t = (look l t).map p f := by
  induction l with
  | nil => rfl
  | cons x r ih =>
    obtain ⟨k, v⟩ := x
    simp only [mapSlots, look]
    cases Nat.beq k t <;> simp [ih]

def LoopA.map (p : Nat → Bool) (f : Nat → Nat → Nat → AV) (r : LoopA) : LoopA := { r with slots := mapSlots p f r.slots }

def mapEnt (p : Nat → Bool) (f : Nat → Nat → Nat → AV) : List (Int × AV) → List (Int × AV)
  | [] => []
  | (n, v) :: r => (n, v.map p f) :: mapEnt p f r

theorem MapR.map {R R' : AV → Value → Prop} {p : Nat → Bool} {f : Nat → Nat → Nat → AV} {k : IntKind} (h : ∀ x v, R x v → R' (x.map p f) v) : ∀ {l : List (Int × AV)} {es : List MapEntry}, MapR R k l es → MapR R' k (mapEnt p f l) es
  | [], [], _ => trivial
  | _ :: _, _ :: _, ⟨h1, h2, h3⟩ => ⟨h1, h _ _ h2, MapR.map h h3⟩
  | [], _ :: _, h => h.elim
  | _ :: _, [], h => h.elim

def Bk.map (p : Nat → Bool) (f : Nat → Nat → Nat → AV) : Bk → Bk
  | .vars e cells => .vars e (AV.maps p f cells)
  | .row e t l => .row e t l
  | .loop r => .loop (r.map p f)
  | .dic k l => .dic k (mapEnt p f l)
  | .any => .any

def Heap.keep (p : Nat → Bool) (f : Nat → Nat → Nat → AV) : Heap → Heap
  | [] => []
  | (k, b) :: r => match p k with | true => (k, b.map p f) :: Heap.keep p f r | false => Heap.keep p f r

theorem Heap.mem_keep {p : Nat → Bool} {f : Nat → Nat → Nat → AV} {H : Heap} {k : Nat} {b : Bk} :
    (k, b) ∈ H.keep p f ↔ p k = true ∧ ∃ b', (k, b') ∈ H ∧ b = b'.map p f := by
  induction H with
  | nil => simp [Heap.keep]
  | cons x r ih =>
    obtain ⟨j, y⟩ := x
    simp only [Heap.keep]
    cases hp : p j with
    | true =>
      simp only [List.mem_cons, ih]
      constructor
      · rintro (e | ⟨h1, b', h2, h3⟩)
        · injection e with e1 e2; subst e1; exact ⟨hp, y, Or.inl rfl, e2⟩
        · exact ⟨h1, b', Or.inr h2, h3⟩
      · rintro ⟨h1, b', h2 | h2, h3⟩
        · injection h2 with e1 e2; subst e1; subst e2; exact Or.inl (by rw [h3])
        · exact Or.inr ⟨h1, b', h2, h3⟩
    | false =>
      simp only [ih, List.mem_cons]
      constructor
      · rintro ⟨h1, b', h2, h3⟩; exact ⟨h1, b', Or.inr h2, h3⟩
      · rintro ⟨h1, b', h2 | h2, h3⟩
        · injection h2 with e1 e2; subst e1; rw [hp] at h1; cases h1
        · exact ⟨h1, b', h2, h3⟩

theorem Heap.keys_keep {p : Nat → Bool} {f : Nat → Nat → Nat → AV} {H : Heap} {k : Nat} :
    k ∈ (H.keep p f).keys ↔ p k = true ∧ k ∈ H.keys := by
  constructor
  · intro h
    obtain ⟨⟨k', b⟩, hb, e⟩ := List.mem_map.1 h
    subst e
    obtain ⟨h1, b', h2, _⟩ := Heap.mem_keep.1 hb
    exact ⟨h1, mem_keys h2⟩
  · rintro ⟨h1, h2⟩
    obtain ⟨⟨k', b⟩, hb, e⟩ := List.mem_map.1 h2
    subst e
    exact mem_keys (Heap.mem_keep.2 ⟨h1, b, hb, rfl⟩)

theorem Heap.nodup_keep {p : Nat → Bool} {f : Nat → Nat → Nat → AV} {H : Heap} (h : H.keys.Nodup) : (H.keep p f).keys.Nodup := by
  induction H with
  | nil => simp [Heap.keep, Heap.keys]
  | cons x r ih =>
    obtain ⟨j, y⟩ := x
    have h' := List.nodup_cons.1 h
    simp only [Heap.keep]
    cases hp : p j with
    | true => exact List.nodup_cons.2 ⟨fun hm => h'.1 (Heap.keys_keep.1 hm).2, ih h'.2⟩
    | false => exact ih h'.2

theorem BkR.mapC {C : Ctx} {ρ ρ' : Nat → Nat} {H H' : Heap} {w w' : World} {p : Nat → Bool} {f : Nat → Nat → Nat → AV} {b b' : Nat} {x : Bk}
    (hd : ∀ b c e fr, Ok C ρ H w b → w.heap[b]? = some (.cells c e fr) → Ok C ρ' H' w' b ∧ w'.heap[b]? = w.heap[b]?)
    (hv : ∀ x v, VR C ρ H w x v → VR C ρ' H' w' (x.map p f) v)
    (hb : w'.heap[b']? = w.heap[b]?) (hx : BkR C ρ H w b x) : BkR C ρ' H' w' b' (x.map p f) := by
  cases x with
  | vars e cells =>
    obtain ⟨c, h1, h2, h3⟩ := hx
    exact ⟨c, hb.trans h1, VRs.map hv h2, h3⟩
  | row e t l =>
    obtain ⟨c, h1, h2, h3, h4, h5⟩ := hx
    exact ⟨c, hb.trans h1, h2, h3, RdL.mono (fun x cs => Rd.monoC hd t x cs) _ _ h4, h5⟩
  | loop r =>
    obtain ⟨fn, tmps, d, h1, h2, h3⟩ := hx
    exact ⟨fn, tmps, d, hb.trans h1, h2, fun t => by simp only [LoopA.map, look_map]; exact hv _ _ (h3 t)⟩
  | dic k l => obtain ⟨es, n, h1, h2⟩ := hx; exact ⟨es, n, hb.trans h1, h2.map hv⟩
  | any => obtain ⟨o, h1⟩ := hx; exact ⟨o, hb.trans h1⟩

theorem BkR.map {C : Ctx} {ρ ρ' : Nat → Nat} {H H' : Heap} {w w' : World} {p : Nat → Bool} {f : Nat → Nat → Nat → AV} {b b' : Nat} {x : Bk}
    (hd : ∀ b, Ok C ρ H w b → Ok C ρ' H' w' b ∧ w'.heap[b]? = w.heap[b]?)
    (hv : ∀ x v, VR C ρ H w x v → VR C ρ' H' w' (x.map p f) v)
    (hb : w'.heap[b']? = w.heap[b]?) (hx : BkR C ρ H w b x) : BkR C ρ' H' w' b' (x.map p f) := BkR.mapC (fun b _ _ _ h _ => hd b h) hv hb hx

theorem RdL.take_drop {α : Type} {R : α → List Value → Prop} {n : Nat} (hn : ∀ x cs, R x cs → cs.length = n) :
    ∀ (l : List α) (cs : List Value) (a b : Nat), RdL R l cs → RdL R ((l.drop a).take b) ((cs.drop (a * n)).take (b * n)) := by
  have ht : ∀ (l : List α) (cs : List Value) (b : Nat), RdL R l cs → RdL R (l.take b) (cs.take (b * n)) := by
    intro l
    induction l with
    | nil => intro cs b h; simp [RdL] at h; subst h; simp [RdL]
    | cons x xs ih =>
      intro cs b h
      obtain ⟨c1, c2, e, h1, h2⟩ := h
      cases b with
      | zero => simp [RdL]
      | succ b =>
        refine ⟨c1, c2.take (b * n), ?_, h1, ih _ _ h2⟩
        rw [e, List.take_append, hn _ _ h1, Nat.succ_mul, List.take_of_length_le (by rw [hn _ _ h1]; omega)]
        congr 2; omega
  have hdr : ∀ (l : List α) (cs : List Value) (a : Nat), RdL R l cs → RdL R (l.drop a) (cs.drop (a * n)) := by
    intro l
    induction l with
    | nil => intro cs a h; simp [RdL] at h; subst h; simp [RdL]
    | cons x xs ih =>
      intro cs a h
      cases a with
      | zero => simpa using h
      | succ a =>
        obtain ⟨c1, c2, e, h1, h2⟩ := h
        have := ih c2 a h2
        rw [List.drop_succ_cons]
        have h0 : c1.drop ((a + 1) * n) = [] := List.drop_of_length_le (by rw [hn _ _ h1, Nat.succ_mul]; omega)
        rw [e, List.drop_append, hn _ _ h1, h0, List.nil_append]
        rw [show (a + 1) * n - n = a * n by rw [Nat.succ_mul]; omega]
        exact this
  intro l cs a b h
  exact ht _ _ _ (hdr _ _ _ h)

end Go.Vg
