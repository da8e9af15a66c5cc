/-
  The engine, part B: the abstract state, its relation to a frame and a world, and what the small changes (a slot, a new block, a store) do to it. Own work; no condition.
-/
import Derived.Test.YtbdojimkdgajgaaGreatDoorEngA
namespace Go.Vg
open Go Go.RowKit

mutual
/-- Keep the references to blocks of which p holds; what becomes of the others: a slice 'f', else nothing is known. -/
def AV.map (p : Nat → Bool) (f : Nat → Nat → Nat → AV) : AV → AV
  | .ptr k off => match p k with | true => .ptr k off | false => .no
  | .eptr k i => match p k with | true => .eptr k i | false => .no
  | .efp k i g => match p k with | true => .efp k i g | false => .no
  | .own k off len => match p k with | true => .own k off len | false => f k off len
  | .ox k off len => match p k with | true => .ox k off len | false => f k off len
  | .sv k n => match p k with | true => .sv k n | false => .no
  | .fn g first caps => .fn g (AV.maps p f first) (AV.maps p f caps)
  | .yld l => match p l with | true => .yld l | false => .no
  | .mp k => match p k with | true => .mp k | false => .no
  | .ag cells => .ag (AV.maps p f cells)
  | .tup l => .tup (AV.maps p f l)
  | .d t x => .d t x
  | .dptr t x => .dptr t x
  | .nsl => .nsl
  | .nilp => .nilp
  | .nili => .nili
  | .nni => .nni
  | .ifc k t x => .ifc k t x
  | .und => .und
  | .no => .no
def AV.maps (p : Nat → Bool) (f : Nat → Nat → Nat → AV) : List AV → List AV
  | [] => []
  | a :: as => a.map p f :: AV.maps p f as
end

theorem VR.mapC {C : Ctx} {ρ ρ' : Nat → Nat} {H H' : Heap} {w w' : World} {p : Nat → Bool} {f : Nat → Nat → Nat → AV}
    (hd : ∀ b c e fr, Ok C ρ H w b → w.heap[b]? = some (.cells c e fr) → Ok C ρ' H' w' b ∧ w'.heap[b]? = w.heap[b]?)
    (hk : ∀ k ∈ H.keys, p k = true → k ∈ H'.keys ∧ ρ' k = ρ k)
    (hr : ∀ k e t l, (k, Bk.row e t l) ∈ H → p k = true → ∃ l', (k, Bk.row e t l') ∈ H' ∧ l.length ≤ l'.length ∧
      ∀ c fr, w.heap[ρ k]? = some (.cells c e fr) → ∃ c' fr', w'.heap[ρ k]? = some (.cells c' e fr') ∧ c.size = c'.size)
    (hf : ∀ k off len v, p k = false → VR C ρ H w (.own k off len) v → VR C ρ' H' w' (f k off len) v)
    {x : AV} {v : Value} (h : VR C ρ H w x v) : VR C ρ' H' w' (x.map p f) v := by
  refine VR.rec (motive_1 := fun x v _ => VR C ρ' H' w' (x.map p f) v) (motive_2 := fun xs vs _ => VRs C ρ' H' w' (AV.maps p f xs) vs)
    ?_ ?_ ?_ ?_ ?_ ?_ ?_ ?_ ?_ ?_ ?_ ?_ ?_ ?_ ?_ ?_ ?_ ?_ ?_ ?_ ?_ ?_ h
  · intro t x v h; exact .d (RdV.monoC hd h)
  · intro k off h
    simp only [AV.map]
    cases hp : p k
    · exact .no
    · obtain ⟨h1, h2⟩ := hk k h hp; rw [← h2]; exact .ptr h1
  · intro k i e t l h hi
    simp only [AV.map]
    have hkk : k ∈ H.keys := List.mem_map.2 ⟨_, h, rfl⟩
    cases hp : p k
    · exact .no
    · obtain ⟨l', h1, h2, _⟩ := hr k e t l h hp
      rw [← (hk k hkk hp).2]; exact .eptr h1 (by omega)
  · intro k i g o u e t l h hi ho
    simp only [AV.map]
    have hkk : k ∈ H.keys := List.mem_map.2 ⟨_, h, rfl⟩
    cases hp : p k
    · exact .no
    · obtain ⟨l', h1, h2, _⟩ := hr k e t l h hp
      rw [← (hk k hkk hp).2]; exact .efp h1 (by omega) ho
  · intro t x b o c e fr hb hc ho h
    exact .dptr (hd b c e fr hb hc).1 ((hd b c e fr hb hc).2.trans hc) ho (Rd.monoC hd _ _ _ h)
  · intro k off len e t l a cap c fr h hl hc hm hb hs ha
    simp only [AV.map]
    have hkk : k ∈ H.keys := List.mem_map.2 ⟨_, h, rfl⟩
    cases hp : p k
    · exact hf k off len _ hp (.own h hl hc hm hb hs ha)
    · obtain ⟨l', h1, h2, h3⟩ := hr k e t l h hp
      obtain ⟨c', fr', hb', hs'⟩ := h3 c fr hb
      have he := (hk k hkk hp).2
      exact .own (c := c') (fr := fr') h1 (by omega) hc hm (by rw [he]; exact hb') (by omega) (by rw [he]; exact ha)
  · intro k off len e t l a c fr h hl hm hb hs ha
    simp only [AV.map]
    have hkk : k ∈ H.keys := List.mem_map.2 ⟨_, h, rfl⟩
    cases hp : p k
    · exact hf k off len _ hp (.own h hl (Nat.le_refl _) hm hb hs ha)
    · obtain ⟨l', h1, h2, h3⟩ := hr k e t l h hp
      obtain ⟨c', fr', hb', hs'⟩ := h3 c fr hb
      have he := (hk k hkk hp).2
      exact .ox (c := c') (fr := fr') h1 (by omega) hm (by rw [he]; exact hb') (by omega) (by rw [he]; exact ha)
  · intro k n h hn
    simp only [AV.map]
    cases hp : p k
    · exact .no
    · obtain ⟨h1, h2⟩ := hk k h hp; rw [← h2]; exact .sv h1 hn
  · exact .nsl
  · exact .nilp
  · exact .nili
  · exact .nni
  · intro k t x v h; exact .ifc (RdV.monoC hd h)
  · intro g first caps vf vc _ _ h1 h2; exact .fn h1 h2
  · intro l h
    simp only [AV.map]
    cases hp : p l
    · exact .no
    · obtain ⟨h1, h2⟩ := hk l h hp; rw [← h2]; exact .yld h1
  · intro k h
    simp only [AV.map]
    cases hp : p k
    · exact .no
    · obtain ⟨h1, h2⟩ := hk k h hp; rw [← h2]; exact .mp h1
  · intro cells vs _ h1 h; exact .ag h h1
  · intro l vs _ h; exact .tup h
  · exact .und
  · intro v; exact .no
  · exact .nil
  · intro a v as vs _ _ h hs; exact .cons h hs

theorem VR.map {C : Ctx} {ρ ρ' : Nat → Nat} {H H' : Heap} {w w' : World} {p : Nat → Bool} {f : Nat → Nat → Nat → AV}
    (hd : ∀ b, Ok C ρ H w b → Ok C ρ' H' w' b ∧ w'.heap[b]? = w.heap[b]?)
    (hk : ∀ k ∈ H.keys, p k = true → k ∈ H'.keys ∧ ρ' k = ρ k)
    (hr : ∀ k e t l, (k, Bk.row e t l) ∈ H → p k = true → ∃ l', (k, Bk.row e t l') ∈ H' ∧ l.length ≤ l'.length ∧
      ∀ c fr, w.heap[ρ k]? = some (.cells c e fr) → ∃ c' fr', w'.heap[ρ k]? = some (.cells c' e fr') ∧ c.size = c'.size)
    (hf : ∀ k off len v, p k = false → VR C ρ H w (.own k off len) v → VR C ρ' H' w' (f k off len) v)
    {x : AV} {v : Value} (h : VR C ρ H w x v) : VR C ρ' H' w' (x.map p f) v := VR.mapC (fun b _ _ _ hb _ => hd b hb) hk hr hf h

theorem AV.map_true (f : Nat → Nat → Nat → AV) (x : AV) : x.map (fun _ => true) f = x := by
  refine AV.rec (motive_1 := fun x => x.map (fun _ => true) f = x) (motive_2 := fun xs => AV.maps (fun _ => true) f xs = xs) ?_ ?_ ?_ ?_ ?_ ?_ ?_ ?_ ?_ ?_ ?_ ?_ ?_ ?_ ?_ ?_ ?_ ?_ ?_ ?_ ?_ ?_ x <;>
    intros <;> simp_all [AV.map, AV.maps]

theorem VRs.map {C : Ctx} {ρ ρ' : Nat → Nat} {H H' : Heap} {w w' : World} {p : Nat → Bool} {f : Nat → Nat → Nat → AV}
    (h : ∀ x v, VR C ρ H w x v → VR C ρ' H' w' (x.map p f) v) : ∀ {xs : List AV} {vs : List Value}, VRs C ρ H w xs vs → VRs C ρ' H' w' (AV.maps p f xs) vs
  | _, _, .nil => .nil
  | _, _, .cons h1 h2 => .cons (h _ _ h1) (VRs.map h h2)

theorem VRs.imp {C : Ctx} {ρ ρ' : Nat → Nat} {H H' : Heap} {w w' : World}
    (h : ∀ x v, VR C ρ H w x v → VR C ρ' H' w' x v) : ∀ {xs : List AV} {vs : List Value}, VRs C ρ H w xs vs → VRs C ρ' H' w' xs vs
  | _, _, .nil => .nil
  | _, _, .cons h1 h2 => .cons (h _ _ h1) (VRs.imp h h2)

/-- What is kept from one state of memory to a later one; the blocks whose keys are at least n may have been made in between. -/
structure Fr (C : Ctx) (n : Nat) (ρ : Nat → Nat) (H : Heap) (w : World) (ρ' : Nat → Nat) (H' : Heap) (w' : World) : Prop where
  data : ∀ b, Ok C ρ H w b → Ok C ρ' H' w' b ∧ w'.heap[b]? = w.heap[b]?
  keys : ∀ k, k < n → k ∈ H'.keys → k ∈ H.keys ∧ ρ' k = ρ k
  rows : ∀ k e t l, k < n → (k, Bk.row e t l) ∈ H → k ∈ H'.keys → ∃ l', (k, Bk.row e t l') ∈ H' ∧ l.length ≤ l'.length ∧
      ∀ c fr, w.heap[ρ k]? = some (.cells c e fr) → ∃ c' fr', w'.heap[ρ k]? = some (.cells c' e fr') ∧ c.size = c'.size
  size : w.heap.size ≤ w'.heap.size

theorem Fr.refl (C : Ctx) (n : Nat) (ρ : Nat → Nat) (H : Heap) (w : World) : Fr C n ρ H w ρ H w :=
  ⟨fun _ h => ⟨h, rfl⟩, fun _ _ h => ⟨h, rfl⟩, fun _ _ _ l _ h _ => ⟨l, h, Nat.le_refl _, fun c fr h => ⟨c, fr, h, rfl⟩⟩, Nat.le_refl _⟩

theorem Fr.trans {C : Ctx} {n n' : Nat} {ρ ρ' ρ'' : Nat → Nat} {H H' H'' : Heap} {w w' w'' : World} (hn : n ≤ n')
    (h : Fr C n ρ H w ρ' H' w') (g : Fr C n' ρ' H' w' ρ'' H'' w'') : Fr C n ρ H w ρ'' H'' w'' := by
  refine ⟨fun b hb => ?_, fun k hk hm => ?_, fun k e t l hk hm hm'' => ?_, Nat.le_trans h.size g.size⟩
  · obtain ⟨h1, h2⟩ := h.data b hb
    obtain ⟨g1, g2⟩ := g.data b h1
    exact ⟨g1, g2.trans h2⟩
  · obtain ⟨g1, g2⟩ := g.keys k (by omega) hm
    obtain ⟨h1, h2⟩ := h.keys k hk g1
    exact ⟨h1, g2.trans h2⟩
  · obtain ⟨g1, g2⟩ := g.keys k (by omega) hm''
    obtain ⟨l', h1, h2, h3⟩ := h.rows k e t l hk hm g1
    obtain ⟨l'', g3, g4, g5⟩ := g.rows k e t l' (by omega) h1 hm''
    refine ⟨l'', g3, by omega, fun c fr hc => ?_⟩
    obtain ⟨c', fr', hc', hs⟩ := h3 c fr hc
    rw [← (h.keys k hk g1).2] at hc' ⊢
    obtain ⟨c'', fr'', hc'', hs'⟩ := g5 c' fr' hc'
    exact ⟨c'', fr'', hc'', by omega⟩

structure St where
  slots : List (Nat × AV)
  H : Heap
  next : Nat
  n : Nat

def del : List (Nat × AV) → Nat → List (Nat × AV)
  | [], _ => []
  | (k, v) :: r, t => match Nat.beq k t with | true => del r t | false => (k, v) :: del r t

theorem beq_false {a b : Nat} (h : Nat.beq a b = false) : a ≠ b := fun e => by subst e; simp at h
theorem beq_true {a b : Nat} (h : Nat.beq a b = true) : a = b := Nat.eq_of_beq_eq_true h

theorem ne_beq {a b : Nat} (h : a ≠ b) : Nat.beq a b = false := by
  cases e : Nat.beq a b with
  | false => rfl
  | true => exact absurd (beq_true e) h

theorem look_del_ne {l : List (Nat × AV)} {t u : Nat} (h : t ≠ u) : look (del l t) u = look l u := by
  induction l with
  | nil => rfl
  | cons x r ih =>
    obtain ⟨k, v⟩ := x
    simp only [del, look]
    cases hb : Nat.beq k t with
    | true =>
      have : Nat.beq k u = false := by have := beq_true hb; subst this; exact ne_beq h
      simp only [this]; exact ih
    | false => simp only [look]; rw [ih]

def St.put (σ : St) (dst : Option Nat) (v : AV) : St :=
  match dst with
  | none => σ
  | some t => match Nat.blt t σ.n with
    | true => { σ with slots := (t, v) :: del σ.slots t }
    | false => σ

/-- The memory's half of the relation. -/
structure MRel (C : Ctx) (ρ : Nat → Nat) (H : Heap) (next : Nat) (w : World) : Prop where
  below : Below C.w0.heap.size C.w0 w
  nodup : H.keys.Nodup
  lt : ∀ k ∈ H.keys, k < next
  inj : ∀ k ∈ H.keys, ∀ k' ∈ H.keys, ρ k = ρ k' → k = k'
  low : ∀ k ∈ H.keys, C.w0.heap.size ≤ ρ k
  mem : ∀ k b, (k, b) ∈ H → BkR C ρ H w (ρ k) b

/-- The marks of ranges over functions among a frame's deferred calls: of blocks that nobody else touches. -/
def Dfs (C : Ctx) (ρ : Nat → Nat) (H : Heap) (w : World) (l : List Deferred) : Prop :=
  C.lo ≤ w.heap.size ∧ ∃ ds : List Nat, l = ds.map (fun d => { target := .collected d, args := #[] }) ++ C.us ∧ ds.Nodup ∧ (∀ d ∈ ds, (C.lo ≤ d ∧ ∀ k ∈ H.keys, ρ k ≠ d) ∧ w.heap[d]? = some (.deferred (some []))) ∧ ∀ x, C.mks = some x → ds = x

theorem Dfs.ok {C : Ctx} {ρ : Nat → Nat} {H : Heap} {w : World} {d : Nat} (h : C.lo ≤ d ∧ ∀ k ∈ H.keys, ρ k ≠ d) (hd : w.heap[d]? = some (.deferred (some []))) : Ok C ρ H w d :=
  ⟨Or.inr (Nat.le_trans C.hlo h.1), (Array.getElem?_eq_some_iff.1 hd).1, h.2⟩

theorem Dfs.mono {C : Ctx} {ρ ρ' : Nat → Nat} {H H' : Heap} {w w' : World} {l : List Deferred} (hd : ∀ b, Ok C ρ H w b → Ok C ρ' H' w' b ∧ w'.heap[b]? = w.heap[b]?) (hsz : w.heap.size ≤ w'.heap.size) (h : Dfs C ρ H w l) : Dfs C ρ' H' w' l := by
  obtain ⟨h0, ds, h1, h2, h3, hmk⟩ := h
  refine ⟨Nat.le_trans h0 hsz, ds, h1, h2, fun d hm => ?_, hmk⟩
  obtain ⟨h4, h5⟩ := h3 d hm
  obtain ⟨h6, h7⟩ := hd d (Dfs.ok h4 h5)
  exact ⟨⟨h4.1, h6.2.2⟩, h7.trans h5⟩

theorem Dfs.nil {C : Ctx} {ρ : Nat → Nat} {H : Heap} {w : World} (h : C.lo ≤ w.heap.size) (hu : C.us = []) (hm : C.mks = none) : Dfs C ρ H w [] := ⟨h, [], by rw [hu]; rfl, List.nodup_nil, fun _ h => (by cases h), fun x hx => by rw [hm] at hx; cases hx⟩

structure SRel (C : Ctx) (ρ : Nat → Nat) (σ : St) (a : Act) (w : World) : Prop where
  m : MRel C ρ σ.H σ.next w
  slots : ∀ t, VR C ρ σ.H w (look σ.slots t) (a.tmps.getD t undef)
  size : a.tmps.size = σ.n
  defers : Dfs C ρ σ.H w a.defers

theorem SRel.put {C : Ctx} {ρ : Nat → Nat} {σ : St} {a : Act} {w : World} {dst : Option Nat} {x : AV} {v : Value}
    (h : SRel C ρ σ a w) (hv : VR C ρ σ.H w x v) : SRel C ρ (σ.put dst x) (a.put dst v) w := by
  cases dst with
  | none => exact h
  | some t =>
    simp only [St.put, Act.put]
    cases hb : Nat.blt t σ.n with
    | false =>
      have hge : σ.n ≤ t := by
        have : ¬ t < σ.n := fun hlt => by simp [Nat.blt, Nat.ble_eq_true_of_le hlt] at hb
        omega
      have : a.tmps.setIfInBounds t v = a.tmps := by
        rw [Array.setIfInBounds, dif_neg (by rw [h.size]; omega)]
      simp only [this]
      exact h
    | true =>
      have hlt : t < σ.n := Nat.le_of_ble_eq_true hb
      refine ⟨h.m, fun u => ?_, by simp [h.size], h.defers⟩
      simp only [look]
      cases hu : Nat.beq t u with
      | true =>
        have := beq_true hu; subst this
        simp only
        rw [show (a.tmps.setIfInBounds t v).getD t undef = v by
          simp [Array.getD, h.size, hlt]]
        exact hv
      | false =>
        have hne := beq_false hu
        simp only
        rw [look_del_ne hne]
        rw [show (a.tmps.setIfInBounds t v).getD u undef = a.tmps.getD u undef by
          simp only [Array.getD_eq_getD_getElem?]; rw [Array.getElem?_setIfInBounds_ne hne]]
        exact h.slots u

/-- Memory has gone on, and every reference of the slots is still good. -/
theorem SRel.frame {C : Ctx} {ρ ρ' : Nat → Nat} {σ : St} {H' : Heap} {next' : Nat} {a : Act} {w w' : World}
    (h : SRel C ρ σ a w) (hm : MRel C ρ' H' next' w') (hf : Fr C σ.next ρ σ.H w ρ' H' w') (hk : ∀ k ∈ σ.H.keys, k ∈ H'.keys) :
    SRel C ρ' { σ with H := H', next := next' } a w' := by
  refine ⟨hm, fun t => ?_, h.size, h.defers.mono hf.data hf.size⟩
  have := VR.map (p := fun _ => true) (f := fun _ _ _ => .no) hf.data (fun k hkk _ => ⟨hk k hkk, (hf.keys k (h.m.lt k hkk) (hk k hkk)).2⟩)
    (fun k e t l hmem _ => hf.rows k e t l (h.m.lt k (List.mem_map.2 ⟨_, hmem, rfl⟩)) hmem (hk k (List.mem_map.2 ⟨_, hmem, rfl⟩))) (fun _ _ _ _ h => by cases h) (h.slots t)
  rw [AV.map_true] at this
  exact this

end Go.Vg
