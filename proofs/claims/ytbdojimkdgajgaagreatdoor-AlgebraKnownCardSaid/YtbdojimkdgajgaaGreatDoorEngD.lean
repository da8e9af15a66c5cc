/-
  The engine, part D: a row of the call's own that becomes a datum, and one that an append replaces. Own work; no condition.
-/
import Derived.Test.YtbdojimkdgajgaaGreatDoorEngC
namespace Go.Vg
open Go Go.RowKit

def neK (k : Nat) : Nat → Bool := fun j => match Nat.beq j k with | true => false | false => true
theorem neK_true {k j : Nat} (h : neK k j = true) : j ≠ k := by
  unfold neK at h
  cases e : Nat.beq j k with
  | true => rw [e] at h; cases h
  | false => exact beq_false e
theorem neK_false {k j : Nat} (h : neK k j = false) : j = k := by
  unfold neK at h
  cases e : Nat.beq j k with
  | true => exact beq_true e
  | false => rw [e] at h; cases h
theorem neK_of {k j : Nat} (h : j ≠ k) : neK k j = true := by simp [neK, ne_beq h]
theorem neK_self (k : Nat) : neK k k = false := by simp [neK]

def dead : Nat → Nat → Nat → AV := fun _ _ _ => .no
def asData (t : Ty) (l : List t.T) : Nat → Nat → Nat → AV := fun _ off len => .d (.sl t) ((l.drop off).take len)

/-- What is known when some references are given up. -/
theorem SRel.keepTo {C : Ctx} {ρ ρ' : Nat → Nat} {σ : St} {H' : Heap} {next' : Nat} {a : Act} {w w' : World} {p : Nat → Bool} {f : Nat → Nat → Nat → AV}
    (h : SRel C ρ σ a w) (hm : MRel C ρ' H' next' w') (hv : ∀ x v, VR C ρ σ.H w x v → VR C ρ' H' w' (x.map p f) v) (hd : ∀ b, Ok C ρ σ.H w b → Ok C ρ' H' w' b ∧ w'.heap[b]? = w.heap[b]?) (hsz : w.heap.size ≤ w'.heap.size) :
    SRel C ρ' { slots := mapSlots p f σ.slots, H := H', next := next', n := σ.n } a w' :=
  ⟨hm, fun t => by rw [look_map]; exact hv _ _ (h.slots t), h.size, h.defers.mono hd hsz⟩

theorem Ok.keep {C : Ctx} {ρ : Nat → Nat} {H : Heap} {w : World} {p : Nat → Bool} {f : Nat → Nat → Nat → AV} {b : Nat} (h : Ok C ρ H w b) : Ok C ρ (H.keep p f) w b :=
  ⟨h.1, h.2.1, fun k hk => h.2.2 k (Heap.keys_keep.1 hk).2⟩

theorem list_window {α : Type} (c : List α) (N a b : Nat) (h : a + b ≤ N) : ((c.take N).drop a).take b = (c.drop a).take b := by
  rw [List.drop_take, List.take_take, Nat.min_eq_left (by omega)]

/-- The elements of a slice of one of the call's own rows. -/
theorem MRel.ownCells {C : Ctx} {ρ : Nat → Nat} {H : Heap} {next : Nat} {w : World} (hm : MRel C ρ H next w) {k off len : Nat} {e : TypeId} {t : Ty} {l : List t.T}
    (hk : (k, .row e t l) ∈ H) (hl : off + len ≤ l.length) : ∃ c, w.heap[ρ k]? = some (.cells c e (0, 0)) ∧ off * t.size + ((l.drop off).take len).length * t.size ≤ c.size ∧ ((l.drop off).take len).length = len ∧ len ≤ lim ∧
      RdL (Rd (Ok C ρ H w) w t) ((l.drop off).take len) ((c.toList.drop (off * t.size)).take (((l.drop off).take len).length * t.size)) := by
  obtain ⟨c, h1, h2, h3, h4, _⟩ := hm.mem k _ hk
  have hlen : ((l.drop off).take len).length = len := by simp; omega
  have hle : (off + len) * t.size ≤ l.length * t.size := Nat.mul_le_mul_right _ hl
  rw [Nat.add_mul] at hle
  refine ⟨c, h1, by rw [hlen]; omega, hlen, by omega, ?_⟩
  have := RdL.take_drop (fun x cs => Rd.length t x cs) l _ off len h4
  rw [list_window _ _ _ _ hle] at this
  rw [hlen]
  exact this

/-- A row of the call's own is given away: its slices are data from now on. -/
theorem MRel.thaw {C : Ctx} {ρ : Nat → Nat} {H : Heap} {next : Nat} {w : World} (hm : MRel C ρ H next w) {k : Nat} {e : TypeId} {t : Ty} {l : List t.T}
    (hk : (k, .row e t l) ∈ H) : MRel C ρ (H.keep (neK k) (asData t l)) next w ∧
      (∀ x v, VR C ρ H w x v → VR C ρ (H.keep (neK k) (asData t l)) w (x.map (neK k) (asData t l)) v) ∧
      ∀ n, Fr C n ρ H w ρ (H.keep (neK k) (asData t l)) w := by
  have hkk := mem_keys hk
  have hd : ∀ b, Ok C ρ H w b → Ok C ρ (H.keep (neK k) (asData t l)) w b ∧ w.heap[b]? = w.heap[b]? := fun b hb => ⟨hb.keep, rfl⟩
  have hokk : Ok C ρ (H.keep (neK k) (asData t l)) w (ρ k) :=
    ⟨Or.inr (hm.low k hkk), hm.key_lt hkk, fun j hj e => by
      obtain ⟨h1, h2⟩ := Heap.keys_keep.1 hj
      exact neK_true h1 (hm.inj j h2 k hkk e)⟩
  have hrows : ∀ j e' t' l', (j, Bk.row e' t' l') ∈ H → neK k j = true → (j, Bk.row e' t' l') ∈ H.keep (neK k) (asData t l) :=
    fun j e' t' l' hj hp => Heap.mem_keep.2 ⟨hp, _, hj, rfl⟩
  have hv : ∀ x v, VR C ρ H w x v → VR C ρ (H.keep (neK k) (asData t l)) w (x.map (neK k) (asData t l)) v := by
    intro x v hx
    refine VR.map hd (fun j hj hp => ⟨Heap.keys_keep.2 ⟨hp, hj⟩, rfl⟩) (fun j e' t' l' hj hp => ⟨l', hrows j e' t' l' hj hp, Nat.le_refl _, fun c fr h => ⟨c, fr, h, rfl⟩⟩) ?_ hx
    intro j off len v hp hov
    have := neK_false hp
    subst this
    cases hov with
    | own h hl hc hmx hb hs ha =>
      have hu := Heap.mem_unique hm.nodup hk h
      injection hu with hu1 hu2 hu3
      subst hu1; subst hu2
      have hu3 := eq_of_heq hu3
      subst hu3
      obtain ⟨c, h1, h2, h3, h4, h5⟩ := hm.ownCells hk hl
      refine .d ⟨_, ⟨_, _, by rw [h3], by rw [h3]; exact hc, by rw [h3]; exact h4, ?_⟩, rfl⟩
      by_cases hnil : (l.drop off).take len = []
      · exact Or.inl hnil
      · have hpos : 0 < len := by
          rw [← h3]; exact List.length_pos_iff.2 hnil
        have ha' := ha.resolve_right (fun h => by omega)
        exact Or.inr ⟨ρ j, off * t.size, c, e, (0, 0), ha', hokk, h1, h2, RdL.mono (fun x cs => Rd.mono hd t x cs) _ _ h5⟩
  refine ⟨⟨hm.below, Heap.nodup_keep hm.nodup, fun j hj => hm.lt j (Heap.keys_keep.1 hj).2, fun j hj j' hj' => hm.inj j (Heap.keys_keep.1 hj).2 j' (Heap.keys_keep.1 hj').2,
    fun j hj => hm.low j (Heap.keys_keep.1 hj).2, fun j b hj => ?_⟩, hv, fun n => ⟨hd, fun j _ hj => ⟨(Heap.keys_keep.1 hj).2, rfl⟩, fun j e' t' l' _ hj hj' => ⟨l', hrows j e' t' l' hj (Heap.keys_keep.1 hj').1, Nat.le_refl _, fun c fr h => ⟨c, fr, h, rfl⟩⟩, Nat.le_refl _⟩⟩
  obtain ⟨_, b', hb', e'⟩ := Heap.mem_keep.1 hj
  subst e'
  exact (hm.mem j b' hb').map hd hv rfl

/-- A row is replaced by another one, which lies in its place or in a new block. -/
theorem MRel.swap {C : Ctx} {ρ : Nat → Nat} {H : Heap} {next : Nat} {w w' : World} (hm : MRel C ρ H next w) {k K B : Nat} {e : TypeId} {t : Ty} {l l' : List t.T}
    (hk : (k, .row e t l) ∈ H) (hK : K ∉ H.keys) (hlt : K < next) (hB : B = ρ k ∨ w.heap.size ≤ B) (hg : w.grownBy w' (some (ρ k)))
    (hb : ∀ (ρ' : Nat → Nat) (H' : Heap), (∀ b, Ok C ρ H w b → Ok C ρ' H' w' b ∧ w'.heap[b]? = w.heap[b]?) → BkR C ρ' H' w' B (.row e t l')) :
    MRel C (upd ρ K B) ((K, .row e t l') :: H.keep (neK k) dead) next w' ∧
      (∀ x v, VR C ρ H w x v → VR C (upd ρ K B) ((K, .row e t l') :: H.keep (neK k) dead) w' (x.map (neK k) dead) v) ∧
      ∀ n, n ≤ K → Fr C n ρ H w (upd ρ K B) ((K, .row e t l') :: H.keep (neK k) dead) w' := by
  have hkk := mem_keys hk
  have hne : ∀ j ∈ H.keys, j ≠ K := fun j hj e => hK (e ▸ hj)
  have hlow := hm.low k hkk
  have hn0 : C.w0.heap.size ≤ w.heap.size := hm.below.size
  have hBlow : C.w0.heap.size ≤ B := by rcases hB with h | h <;> omega
  have hBne : ∀ j ∈ H.keys, j ≠ k → ρ j ≠ B := by
    intro j hj hjk e
    rcases hB with h | h
    · exact hjk (hm.inj j hj k hkk (e.trans h))
    · have := hm.key_lt hj; omega
  have hblk : ∀ j ∈ H.keys, j ≠ k → w'.heap[ρ j]? = w.heap[ρ j]? := fun j hj hjk =>
    hg.block _ (hm.key_lt hj) (fun e => by injection e with e; exact hjk (hm.inj j hj k hkk e))
  have hd : ∀ b, Ok C ρ H w b → Ok C (upd ρ K B) ((K, .row e t l') :: H.keep (neK k) dead) w' b ∧ w'.heap[b]? = w.heap[b]? := by
    rintro b ⟨h1, h2, h3⟩
    refine ⟨⟨h1, Nat.lt_of_lt_of_le h2 hg.size, fun j hj => ?_⟩, hg.block _ h2 (fun e => by injection e with e; exact h3 k hkk e.symm)⟩
    rcases List.mem_cons.1 hj with rfl | hj
    · simp only [upd_same]
      rcases hB with h | h
      · rw [h]; exact h3 k hkk
      · omega
    · obtain ⟨_, h5⟩ := Heap.keys_keep.1 hj
      rw [upd_ne _ (hne j h5)]; exact h3 j h5
  have hrows : ∀ j e' t' l'', (j, Bk.row e' t' l'') ∈ H → neK k j = true → (j, Bk.row e' t' l'') ∈ ((K, Bk.row e t l') :: H.keep (neK k) dead) :=
    fun j e' t' l'' hj hp => List.mem_cons_of_mem _ (Heap.mem_keep.2 ⟨hp, _, hj, rfl⟩)
  have hv : ∀ x v, VR C ρ H w x v → VR C (upd ρ K B) ((K, .row e t l') :: H.keep (neK k) dead) w' (x.map (neK k) dead) v := by
    intro x v hx
    refine VR.map hd (fun j hj hp => ⟨List.mem_cons_of_mem _ (Heap.keys_keep.2 ⟨hp, hj⟩), upd_ne _ (hne j hj)⟩)
      (fun j e' t' l'' hj hp => ⟨l'', hrows j e' t' l'' hj hp, Nat.le_refl _, fun c fr h => ⟨c, fr, ?_, rfl⟩⟩) (fun _ _ _ _ _ _ => .no) hx
    rw [hblk j (mem_keys hj) (neK_true hp)]; exact h
  refine ⟨⟨?_, ?_, ?_, ?_, ?_, ?_⟩, hv, fun n hn => ⟨hd, fun j hjn hj => ?_, fun j e' t' l'' hjn hj hj' => ?_, hg.size⟩⟩
  · exact hm.below.grown hg hn0 (fun j e => by injection e with e; omega)
  · exact List.nodup_cons.2 ⟨fun h => hK (Heap.keys_keep.1 h).2, Heap.nodup_keep hm.nodup⟩
  · intro j hj
    rcases List.mem_cons.1 hj with rfl | hj
    · exact hlt
    · exact hm.lt j (Heap.keys_keep.1 hj).2
  · intro j hj j' hj' heq
    rcases List.mem_cons.1 hj with rfl | hj1 <;> rcases List.mem_cons.1 hj' with rfl | hj1'
    · rfl
    · obtain ⟨h4, h5⟩ := Heap.keys_keep.1 hj1'
      simp only [upd_same, upd_ne _ (hne j' h5)] at heq
      exact absurd heq.symm (hBne j' h5 (neK_true h4))
    · obtain ⟨h4, h5⟩ := Heap.keys_keep.1 hj1
      simp only [upd_same, upd_ne _ (hne j h5)] at heq
      exact absurd heq (hBne j h5 (neK_true h4))
    · obtain ⟨_, h5⟩ := Heap.keys_keep.1 hj1
      obtain ⟨_, h7⟩ := Heap.keys_keep.1 hj1'
      rw [upd_ne _ (hne j h5), upd_ne _ (hne j' h7)] at heq
      exact hm.inj j h5 j' h7 heq
  · intro j hj
    rcases List.mem_cons.1 hj with rfl | hj
    · simp only [upd_same]; exact hBlow
    · obtain ⟨_, h5⟩ := Heap.keys_keep.1 hj
      rw [upd_ne _ (hne j h5)]; exact hm.low j h5
  · intro j b hj
    rcases List.mem_cons.1 hj with heq | hj
    · injection heq with h1 h2; subst h1; subst h2
      simp only [upd_same]
      exact hb _ _ hd
    · obtain ⟨h4, b', hb', e'⟩ := Heap.mem_keep.1 hj
      subst e'
      have h5 := mem_keys hb'
      rw [upd_ne _ (hne j h5)]
      exact (hm.mem j b' hb').map hd hv (hblk j h5 (neK_true h4))
  · rcases List.mem_cons.1 hj with rfl | hj
    · omega
    · obtain ⟨_, h5⟩ := Heap.keys_keep.1 hj
      exact ⟨h5, upd_ne _ (hne j h5)⟩
  · rcases List.mem_cons.1 hj' with rfl | hj'
    · omega
    · obtain ⟨h4, h5⟩ := Heap.keys_keep.1 hj'
      refine ⟨l'', hrows j e' t' l'' hj h4, Nat.le_refl _, fun c fr h => ⟨c, fr, ?_, rfl⟩⟩
      rw [hblk j h5 (neK_true h4)]; exact h

end Go.Vg
