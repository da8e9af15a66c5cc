/-
  The engine, part M: stores, appends and copies. Own work; no condition.
-/
import Derived.Test.YtbdojimkdgajgaaGreatDoorEngL
namespace Go.Vg
open Go Go.RowKit

def over {α : Type} (l : List α) (o : Nat) (xs : List α) : List α := l.take o ++ xs ++ l.drop (o + xs.length)

/-- A struct with another n-th field. -/
def setD : (t : Ty) → t.T → Nat → (u : Ty) → u.T → Option t.T
  | .pair t _, x, 0, u, y => match u.as t y with
    | some z => some (z, x.2)
    | none => none
  | .pair _ r, x, n + 1, u, y => match setD r x.2 n u y with
    | some z => some (x.1, z)
    | none => none
  | _, _, _, _, _ => none

def storeSt (P : Program) (σ : St) (t : TypeId) (a x : AV) : T St :=
  match a with
  | .ptr k off => match σ.H.find k, cellsOf x, sizeAt P t with
    | some (.vars e cells), some cs, some n => match Nat.beq cs.length n && Nat.ble (off + n) cells.length with
      | true => .ok { σ with H := σ.H.up k (.vars e (over cells off cs)) }
      | false => .bad
    | _, _, _ => .bad
  | .eptr k i => match σ.H.find k, sizeAt P t with
    | some (.row e u l), some n => match Nat.beq n u.size with
      | true => match toD u x with
        | some y => .ok { σ with H := σ.H.up k (.row e u (l.set i y)) }
        | none => .bad
      | false => .bad
    | _, _ => .bad
  | .efp k i f => match σ.H.find k, sizeAt P t with
    | some (.row e u l), some n => match offD u f with
      | some (_, v) => match Nat.beq n v.size with
        | true => match toD v x with
          | some y => match setD u (l.getD i u.dflt) f v y with
            | some z => .ok { σ with H := σ.H.up k (.row e u (l.set i z)) }
            | none => .bad
          | none => .bad
        | false => .bad
      | none => .bad
    | _, _ => .bad
  | _ => .bad

/-- Behind a slice that is as long as it can be. -/
def appendX (σ : St) (dst : Option Nat) (e : TypeId) (bytes : Nat) (u : Ty) (xs : List u.T) (k len : Nat) : T St :=
  match σ.H.find k with
  | some (.row e' u' l) => match Nat.beq e e' with
    | true => match (u'.sl).as (.sl u) l with
      | some (l : List u.T) => .need ((len + xs.length) * bytes ≤ 140737488355328) (.ite xs.isEmpty (.ok (σ.put dst (.ox k 0 len)))
          (.ok (({ σ with H := (σ.next, .row e u (l.take len ++ xs)) :: σ.H, next := σ.next + 1 } : St).put dst (.own σ.next 0 (len + xs.length)))))
      | none => .bad
    | false => .bad
  | _ => .bad

/-- Elements appended to the nil slice, or to a slice of one of the call's own rows that begins at its head. -/
def appendXs (σ : St) (dst : Option Nat) (e : TypeId) (bytes : Nat) (u : Ty) (xs : List u.T) (s : AV) : T St :=
  match s with
  | .nsl => .need (xs.length * bytes ≤ 140737488355328) (.ite xs.isEmpty (.ok (σ.put dst .nsl))
      (.ok (({ σ with H := (σ.next, .row e u xs) :: σ.H, next := σ.next + 1 } : St).put dst (.own σ.next 0 xs.length))))
  | .own k 0 len => match σ.H.find k with
    | some (.row e' u' l) => match Nat.beq e e' with
      | true => match (u'.sl).as (.sl u) l with
        | some (l : List u.T) => .need ((len + xs.length) * bytes ≤ 140737488355328)
            (.ok (({ σ with slots := mapSlots (neK k) dead σ.slots, H := (σ.next, .row e u (l.take len ++ xs)) :: σ.H.keep (neK k) dead, next := σ.next + 1 } : St).put dst (.own σ.next 0 (len + xs.length))))
        | none => .bad
      | false => .bad
    | _ => .bad
  | .ox k off len => match off with
    | 0 => appendX σ dst e bytes u xs k len
    | _ + 1 => .bad
  | _ => .bad

/-- 'append' of a slice. -/
def appendSt (P : Program) (σ : St) (dst : Option Nat) (t : TypeId) (s x : AV) : T St :=
  match P.underlying t with
  | some (.slice e) => match P.info? e with
    | some i => match tyOf P 20 e, zeroAVs P e with
      | some u, some zs => match Nat.beq i.size u.size && Nat.beq zs.length u.size && Nat.ble 1 i.bytes && Nat.ble 1 u.size with
        | true => match toDL σ.H (.sl u) x with
          | some (xs : List u.T) => appendXs σ dst e i.bytes u xs s
          | none => .bad
        | false => .bad
      | _, _ => .bad
    | none => .bad
  | _ => .bad

/-- Zeros behind the nil slice. -/
def appendZI (σ : St) (dst : Option Nat) (e : TypeId) (bytes : Nat) (u : Ty) (y : u.T) (n : Int) : T St :=
  .need (1 ≤ n ∧ n * (bytes : Int) ≤ 140737488355328) (.ok (({ σ with H := (σ.next, .row e u (List.replicate n.toNat y)) :: σ.H, next := σ.next + 1 } : St).put dst (.own σ.next 0 n.toNat)))

def appendZ (P : Program) (σ : St) (dst : Option Nat) (t v : TypeId) (s x : AV) : T St :=
  match P.underlying t, P.underlying v with
  | some (.slice e), some (.int _) => match P.info? e with
    | some i => match tyOf P 20 e, zeroAVs P e with
      | some u, some zs => match pack u zs with
        | some (y, []) => match Nat.beq i.size u.size && Nat.beq zs.length u.size && Nat.ble 1 i.bytes && Nat.ble 1 u.size with
          | true => match s, x with
            | .nsl, .d (.int _) n => appendZI σ dst e i.bytes u y n
            | _, _ => .bad
          | false => .bad
        | _ => .bad
      | _, _ => .bad
    | none => .bad
  | _, _ => .bad

/-- 'append' of a string's bytes. -/
def appendStr (P : Program) (σ : St) (dst : Option Nat) (t v : TypeId) (s x : AV) : T St :=
  match P.underlying t, P.underlying v with
  | some (.slice e), some .string => match P.info? e with
    | some i => match tyOf P 20 e, zeroAVs P e with
      | some (.int .u8), some zs => match Nat.beq i.size 1 && Nat.beq zs.length 1 && Nat.ble 1 i.bytes with
        | true => match x with
          | .d .str l => appendXs σ dst e i.bytes (.int .u8) (bytesI l) s
          | _ => .bad
        | false => .bad
      | _, _ => .bad
    | none => .bad
  | _, _ => .bad

/-- 'copy' into a slice of one of the call's own rows. -/
def copySt (P : Program) (σ : St) (dst : Option Nat) (t : TypeId) (d x : AV) : T St :=
  match P.underlying t with
  | some (.slice e) => match d with
    | .own k off len => match σ.H.find k with
      | some (.row e' u l) => match sizeAt P e with
        | some n => match Nat.beq n u.size with
          | true => match toDL σ.H (.sl u) x with
            | some (xs : List u.T) => .ok (({ σ with H := σ.H.up k (.row e' u (over l off (xs.take len))) } : St).put dst (lenI (min xs.length len)))
            | none => .bad
          | false => .bad
        | none => .bad
      | _ => .bad
    | _ => .bad
  | _ => .bad

section
variable {C : Ctx} {ρ : Nat → Nat} {H : Heap} {w : World} {P : Program}

theorem MRel.mono {next next' : Nat} (h : MRel C ρ H next w) (hn : next ≤ next') : MRel C ρ H next' w :=
  ⟨h.below, h.nodup, fun k hk => Nat.lt_of_lt_of_le (h.lt k hk) hn, h.inj, h.low, h.mem⟩

theorem VRs.over {as bs : List AV} {vs us : List Value} (h : VRs C ρ H w as vs) (h' : VRs C ρ H w bs us) (o : Nat) : VRs C ρ H w (over as o bs) (over vs o us) := by
  unfold Vg.over
  rw [h'.length]
  exact ((h.take o).append h').append (h.drop _)

theorem over_length {α : Type} (l : List α) (o : Nat) (xs : List α) (h : o + xs.length ≤ l.length) : (over l o xs).length = l.length := by
  unfold over; simp; omega

theorem over_mem {α : Type} {l : List α} {o : Nat} {xs : List α} {x : α} (h : x ∈ over l o xs) : x ∈ l ∨ x ∈ xs := by
  unfold over at h
  rcases List.mem_append.1 h with h | h
  · rcases List.mem_append.1 h with h | h
    · exact Or.inl (List.mem_of_mem_take h)
    · exact Or.inr h
  · exact Or.inl (List.mem_of_mem_drop h)

theorem RdL.append {α : Type} {R : α → List Value → Prop} : ∀ (l m : List α) (cs ds : List Value), RdL R l cs → RdL R m ds → RdL R (l ++ m) (cs ++ ds)
  | [], m, cs, ds, h, h' => by simp [RdL] at h; subst h; exact h'
  | x :: xs, m, cs, ds, ⟨c1, c2, e, h1, h2⟩, h' => by
    subst e
    exact ⟨c1, c2 ++ ds, by simp, h1, RdL.append xs m c2 ds h2 h'⟩

theorem RdL.drop {α : Type} {R : α → List Value → Prop} {n : Nat} (hn : ∀ x cs, R x cs → cs.length = n) (l : List α) (cs : List Value) (a : Nat) (h : RdL R l cs) : RdL R (l.drop a) (cs.drop (a * n)) := by
  have := RdL.take_drop hn l cs a (l.drop a).length h
  rw [List.take_length] at this
  rw [List.take_of_length_le (by rw [List.length_drop, RdL.length hn l cs h, List.length_drop, Nat.sub_mul]; omega)] at this
  exact this

theorem RdL.take {α : Type} {R : α → List Value → Prop} {n : Nat} (hn : ∀ x cs, R x cs → cs.length = n) (l : List α) (cs : List Value) (a : Nat) (h : RdL R l cs) : RdL R (l.take a) (cs.take (a * n)) := by
  have := RdL.take_drop hn l cs 0 a h
  simpa using this

theorem RdL.over {α : Type} {R : α → List Value → Prop} {n : Nat} (hn : ∀ x cs, R x cs → cs.length = n) (l m : List α) (cs ds : List Value) (o : Nat) (h : RdL R l cs) (h' : RdL R m ds) :
    RdL R (Vg.over l o m) (Vg.over cs (o * n) ds) := by
  unfold Vg.over
  have hl := RdL.length hn m ds h'
  rw [hl, ← Nat.add_mul]
  exact RdL.append _ _ _ _ (RdL.append _ _ _ _ (RdL.take hn l cs o h) h') (RdL.drop hn l cs _ h)

theorem set_over {α : Type} (l : List α) (i : Nat) (x : α) (h : i < l.length) : l.set i x = over l i [x] := by
  unfold over
  rw [List.set_eq_take_append_cons_drop, if_pos h]
  simp

theorem over_take {α : Type} (l : List α) (N o : Nat) (xs : List α) (h : o + xs.length ≤ N) : (over l o xs).take N = over (l.take N) o xs ∨ l.length < o := by
  by_cases ho : l.length < o
  · exact Or.inr ho
  left
  unfold over
  rw [List.take_append, List.take_append, List.take_take, List.drop_take]
  simp only [List.length_append, List.length_take, List.take_take]
  rw [Nat.min_eq_left (show o ≤ l.length by omega), Nat.min_eq_right (show o ≤ N by omega), List.take_of_length_le (show xs.length ≤ N - o by omega), Nat.min_eq_left (show o ≤ N by omega)]

/-- Cells written one behind the other into one of the call's own blocks. -/
theorem setD_sound {ok : Nat → Prop} {w : World} : ∀ {t : Ty} {x : t.T} {n o : Nat} {u : Ty} {y : u.T} {z : t.T} {cs ys : List Value}, setD t x n u y = some z → offD t n = some (o, u) → Rd ok w t x cs → Rd ok w u y ys → Rd ok w t z (over cs o ys) ∧ o + u.size ≤ t.size
  | .pair t r, x, 0, o, u, y, z, cs, ys, h, ho, hx, hy => by
    simp only [setD] at h
    split at h
    · rename_i z' hz
      injection h with h
      subst h
      obtain ⟨e, e2⟩ := Ty.as_some hz
      subst e
      subst e2
      simp only [offD] at ho
      injection ho with ho
      injection ho with ho _
      subst ho
      obtain ⟨c1, c2, rfl, h1, h2⟩ := hx
      have l1 := Rd.length _ _ _ h1
      have l2 := Rd.length _ _ _ hy
      refine ⟨⟨ys, c2, ?_, hy, h2⟩, by simp [Ty.size]⟩
      unfold over
      rw [List.take_zero, List.nil_append, Nat.zero_add, l2, ← l1, List.drop_left]
    · cases h
  | .pair t r, x, n + 1, o, u, y, z, cs, ys, h, ho, hx, hy => by
    simp only [setD] at h
    split at h
    · rename_i z' hz
      injection h with h
      subst h
      simp only [offD] at ho
      split at ho
      · rename_i o' v' ho'
        injection ho with ho
        injection ho with e1 e2
        subst e1; subst e2
        obtain ⟨c1, c2, rfl, h1, h2⟩ := hx
        have l1 := Rd.length _ _ _ h1
        obtain ⟨h3, h4⟩ := setD_sound hz ho' h2 hy
        refine ⟨⟨c1, over c2 o' ys, ?_, h1, h3⟩, by simp only [Ty.size]; omega⟩
        unfold over
        rw [← l1, List.take_append, List.drop_append, List.take_of_length_le (by omega), List.drop_of_length_le (by omega), List.nil_append, Nat.add_sub_cancel_left, Nat.add_assoc, Nat.add_sub_cancel_left]
        simp
      · cases ho
    · cases h
  | .int _, _, _, _, _, _, _, _, _, h, _, _, _ => by cases h
  | .bool, _, _, _, _, _, _, _, _, h, _, _, _ => by cases h
  | .str, _, _, _, _, _, _, _, _, h, _, _, _ => by cases h
  | .unit, _, _, _, _, _, _, _, _, h, _, _, _ => by cases h
  | .arr _ _, _, _, _, _, _, _, _, _, h, _, _, _ => by cases h
  | .sl _, _, _, _, _, _, _, _, _, h, _, _, _ => by cases h

theorem over_over {α : Type} (l : List α) (a o s : Nat) (xs : List α) (h1 : o + xs.length ≤ s) (h2 : a + s ≤ l.length) : over l (a + o) xs = over l a (over ((l.drop a).take s) o xs) := by
  have hl : (over ((l.drop a).take s) o xs).length = s := by
    rw [over_length _ _ _ (by rw [List.length_take, List.length_drop]; omega), List.length_take, List.length_drop]; omega
  unfold over at hl ⊢
  rw [hl, List.take_take, Nat.min_eq_left (by omega), List.drop_take, List.drop_drop]
  have e1 : l.take (a + o) = l.take a ++ (l.drop a).take o := by rw [List.take_add]
  have e2 : (l.drop (a + (o + xs.length))).take (s - (o + xs.length)) ++ l.drop (a + s) = l.drop (a + o + xs.length) := by
    have := List.take_append_drop (s - (o + xs.length)) (l.drop (a + (o + xs.length)))
    rw [List.drop_drop, show a + (o + xs.length) + (s - (o + xs.length)) = a + s by omega] at this
    rw [this, Nat.add_assoc]
  rw [e1, ← e2]
  simp [List.append_assoc]

theorem store_run {b o : Nat} {c : Array Value} {e : TypeId} {vs : List Value} (hb : w.heap[b]? = some (.cells c e (0, 0))) (ho : o + vs.length ≤ c.size) (h1 : ∀ v ∈ vs, v.oneCell' = true) :
    (storeCells ⟨b, o, none⟩ vs).run P w = .ok () (w.setRow b ⟨over c.toList o vs⟩) := by
  have := run_storeCells_at P b o e vs 0 c w hb (by simpa using ho) h1
  simpa [over] using this

theorem storeSt_sound {σ σ' : St} {a : Act} {t : TypeId} {x y : AV} {vx vy : Value} (h : (storeSt P σ t x y).Leaf σ') (hs : SRel C ρ σ a w) (hx : VR C ρ σ.H w x vx) (hy : VR C ρ σ.H w y vy) :
    ∃ w', (Instr.storeAt t vx vy).run P w = .ok () w' ∧ SRel C ρ σ' a w' ∧ Fr C σ.next ρ σ.H w ρ σ'.H w' ∧ σ'.next = σ.next := by
  have hm := hs.m
  unfold storeSt at h
  split at h
  · rename_i k off
    split at h
    · rename_i e cells cs n hf hcs hsz
      split at h
      · rename_i hc
        cases h
        simp only [Bool.and_eq_true] at hc
        have hc1 := beq_true hc.1
        have hc2 := Nat.le_of_ble_eq_true hc.2
        subst hc1
        have hk := Heap.find_mem hf
        obtain ⟨c, hc3, hc4, hc5⟩ := hm.mem k _ hk
        obtain ⟨hy1, hy2⟩ := cellsOf_sound hcs hy
        have hl1 := hy1.length
        have hl2 := hc4.length
        have hfit : off + vy.cells.toList.length ≤ c.toList.length := by omega
        obtain ⟨hm', hext⟩ := hm.write (nb := .vars e (over cells off cs)) (c' := ⟨over c.toList off vy.cells.toList⟩) hk hc3 (by show c.size = (over c.toList off vy.cells.toList).length; rw [over_length _ _ _ hfit]; simp) (by intro e t l hh; cases hh)
          (fun H' w' he hh => ⟨_, hh, (hc4.over hy1 off).imp (fun _ _ => he.vr), fun v hv => by
            rcases over_mem hv with hv | hv
            · exact hc5 v hv
            · exact hy2 v hv⟩)
        cases hx
        refine ⟨_, ?_, hs.frame hm' (hext.fr (fun j _ hj => by rwa [Heap.keys_up] at hj)) (fun j hj => by rwa [Heap.keys_up]), hext.fr (fun j _ hj => by rwa [Heap.keys_up] at hj), rfl⟩
        simp only [Instr.storeAt, Instr.sureAddr, Sem.run_bind, Sem.run_pure, Result.andThen_ok, storeVar, sizeAt_run hsz, Sem.run_ite]
        rw [if_neg (by simp at hl1; omega)]
        exact store_run hc3 (by simpa using hfit) hy2
      · cases h
    · cases h
  · rename_i k i
    split at h
    · rename_i e u l n hf hsz
      split at h
      · rename_i hc
        have hc := beq_true hc
        subst hc
        split at h
        · rename_i y' hy'
          cases h
          have hk := Heap.find_mem hf
          obtain ⟨c, hc1, hc2, hc3, hc4, hc5⟩ := hm.mem k _ hk
          have hyr := (toD_sound hy' hy).cells
          have hl1 := Rd.length _ _ _ hyr
          have hy2 := Rd.one _ _ _ hyr
          cases hx with
          | eptr hk' hi =>
            have hu' := Heap.mem_unique hm.nodup hk hk'
            injection hu' with hu1 hu2 hu3
            subst hu1; subst hu2
            have hu3 := eq_of_heq hu3
            subst hu3
            have hle : (i + 1) * u.size ≤ l.length * u.size := Nat.mul_le_mul_right _ hi
            rw [Nat.succ_mul] at hle
            have hfit : i * u.size + vy.cells.toList.length ≤ c.toList.length := by rw [hl1]; simp; omega
            obtain ⟨hm', hext⟩ := hm.write (nb := .row e u (l.set i y')) (c' := ⟨over c.toList (i * u.size) vy.cells.toList⟩) hk hc1 (by show c.size = (over c.toList _ _).length; rw [over_length _ _ _ hfit]; simp)
              (by intro e1 t1 l1 hh; injection hh with h1 h2 h3; subst h1; subst h2; have h3 := eq_of_heq h3; subst h3; exact ⟨_, rfl, by simp⟩)
              (fun H' w' he hh => by
                refine ⟨_, hh, by show (l.set i y').length * _ ≤ (over c.toList _ _).length; rw [over_length _ _ _ hfit]; simpa using hc2, by simpa using hc3, ?_, fun v hv => ?_⟩
                · rw [List.length_set]
                  show RdL _ _ ((over c.toList _ _).take _)
                  rw [(over_take c.toList (l.length * u.size) (i * u.size) vy.cells.toList (by rw [hl1]; exact hle)).resolve_right (by simp; omega), set_over l i y' hi]
                  have hone : RdL (Rd (Ok C ρ H' w') w' u) [y'] vy.cells.toList := ⟨_, [], by simp, Rd.mono he.data u _ _ hyr, rfl⟩
                  exact RdL.over (fun x cs => Rd.length u x cs) _ _ _ _ _ (RdL.mono (fun x cs => Rd.mono he.data u x cs) _ _ hc4) hone
                · rcases over_mem hv with hv | hv
                  · exact hc5 v hv
                  · exact hy2 v hv)
            refine ⟨_, ?_, hs.frame hm' (hext.fr (fun j _ hj => by rwa [Heap.keys_up] at hj)) (fun j hj => by rwa [Heap.keys_up]), hext.fr (fun j _ hj => by rwa [Heap.keys_up] at hj), rfl⟩
            simp only [Instr.storeAt, Instr.sureAddr, Sem.run_bind, Sem.run_pure, Result.andThen_ok, storeVar, sizeAt_run hsz, Sem.run_ite]
            rw [if_neg (by simp at hl1; omega)]
            exact store_run hc1 (by simpa using hfit) hy2
        · cases h
      · cases h
    · cases h
  · rename_i k i f
    split at h
    · rename_i e u l n hf hsz
      split at h
      · rename_i o v ho
        split at h
        · rename_i hc
          have hc := beq_true hc
          subst hc
          split at h
          · rename_i y' hy'
            split at h
            · rename_i z hz
              cases h
              have hk := Heap.find_mem hf
              obtain ⟨c, hc1, hc2, hc3, hc4, hc5⟩ := hm.mem k _ hk
              have hyr := (toD_sound hy' hy).cells
              have hl1 := Rd.length _ _ _ hyr
              have hy2 := Rd.one _ _ _ hyr
              cases hx with
              | efp hk' hi ho' =>
                have hu' := Heap.mem_unique hm.nodup hk hk'
                injection hu' with hu1 hu2 hu3
                subst hu1; subst hu2
                have hu3 := eq_of_heq hu3
                subst hu3
                have ho2 := ho.symm.trans ho'
                injection ho2 with ho2
                injection ho2 with ho2 _
                subst ho2
                have hle : (i + 1) * u.size ≤ l.length * u.size := Nat.mul_le_mul_right _ hi
                rw [Nat.succ_mul] at hle
                have hel := RdL.getD (fun x cs => Rd.length u x cs) u.dflt l _ i hc4 hi
                rw [list_window _ _ _ _ hle] at hel
                obtain ⟨hz1, hz2⟩ := setD_sound hz ho hel hyr
                have hlen : c.toList.length = c.size := by simp
                have hfit : i * u.size + o + vy.cells.toList.length ≤ c.toList.length := by rw [hl1]; omega
                have hzl := Rd.length _ _ _ hz1
                have hov := over_over c.toList (i * u.size) o u.size vy.cells.toList (by rw [hl1]; exact hz2) (by omega)
                obtain ⟨hm', hext⟩ := hm.write (nb := .row e u (l.set i z)) (c' := ⟨over c.toList (i * u.size + o) vy.cells.toList⟩) hk hc1 (by show c.size = (over c.toList _ _).length; rw [over_length _ _ _ hfit]; simp)
                  (by intro e1 t1 l1 hh; injection hh with h1 h2 h3; subst h1; subst h2; have h3 := eq_of_heq h3; subst h3; exact ⟨_, rfl, by simp⟩)
                  (fun H' w' he hh => by
                    refine ⟨_, hh, by show (l.set i z).length * _ ≤ (over c.toList _ _).length; rw [over_length _ _ _ hfit]; simpa using hc2, by simpa using hc3, ?_, fun v hv => ?_⟩
                    · rw [List.length_set]
                      show RdL _ _ ((over c.toList _ _).take _)
                      rw [hov, (over_take c.toList (l.length * u.size) (i * u.size) _ (by rw [hzl]; exact hle)).resolve_right (by simp; omega), set_over l i z hi]
                      have hone : RdL (Rd (Ok C ρ H' w') w' u) [z] (over ((c.toList.drop (i * u.size)).take u.size) o vy.cells.toList) := ⟨_, [], by simp, Rd.mono he.data u _ _ hz1, rfl⟩
                      exact RdL.over (fun x cs => Rd.length u x cs) _ _ _ _ _ (RdL.mono (fun x cs => Rd.mono he.data u x cs) _ _ hc4) hone
                    · rcases over_mem hv with hv | hv
                      · exact hc5 v hv
                      · exact hy2 v hv)
                refine ⟨_, ?_, hs.frame hm' (hext.fr (fun j _ hj => by rwa [Heap.keys_up] at hj)) (fun j hj => by rwa [Heap.keys_up]), hext.fr (fun j _ hj => by rwa [Heap.keys_up] at hj), rfl⟩
                simp only [Instr.storeAt, Instr.sureAddr, Sem.run_bind, Sem.run_pure, Result.andThen_ok, storeVar, sizeAt_run hsz, Sem.run_ite]
                rw [if_neg (by simp at hl1; omega)]
                exact store_run hc1 (by simpa using hfit) hy2
            · cases h
          · cases h
        · cases h
      · cases h
    · cases h
  · cases h

theorem VR.sv_inv {k n : Nat} {v : Value} (h : VR C ρ H w (.sv k n) v) : v = .slice (some ⟨ρ k, 0, none⟩) n n ∧ n ≤ lim := by
  cases h with
  | sv _ hn => exact ⟨rfl, hn⟩

/-- A slice whose elements are known. -/
theorem src_view {next : Nat} (hm : MRel C ρ H next w) {u : Ty} {x : AV} {xs : List u.T} {v : Value} (h : toDL H (.sl u) x = some xs) (hx : VR C ρ H w x v) :
    ∃ a cap cs, v = .slice a xs.length cap ∧ RdL (Rd (Ok C ρ H w) w u) xs cs ∧ cs.length = xs.length * u.size ∧ xs.length ≤ lim ∧
      (xs = [] ∨ ∃ b o, a = some ⟨b, o, none⟩ ∧ ∀ j y, cs[j]? = some y → w.cell? ((⟨b, o, none⟩ : Addr).add j) = some y) := by
  have hr := (toDL_sound (fun _ h => h) hm h hx).scalar rfl
  obtain ⟨a, cap, e, h1, h2, h3⟩ := hr
  injection e with e _
  subst e
  have hdat : ∃ cs, RdL (Rd (Ok C ρ H w) w u) xs cs ∧ (xs = [] ∨ ∃ b o c e fr, a = some ⟨b, o, none⟩ ∧ w.heap[b]? = some (.cells c e fr) ∧ o + xs.length * u.size ≤ c.size ∧ cs = (c.toList.drop o).take (xs.length * u.size)) := by
    have isd : ∀ x', toD (.sl u) x' = some xs → VR C ρ H w x' (.slice a xs.length cap) → ∃ cs, RdL (Rd (Ok C ρ H w) w u) xs cs ∧ (xs = [] ∨ ∃ b o c e fr, a = some ⟨b, o, none⟩ ∧ w.heap[b]? = some (.cells c e fr) ∧ o + xs.length * u.size ≤ c.size ∧ cs = (c.toList.drop o).take (xs.length * u.size)) := by
      intro x' hx' hv'
      obtain ⟨a', cap', e, h1, h2, h3⟩ := (toD_sound hx' hv').scalar rfl
      injection e with e _
      injection e with e _
      subst e
      rcases h3 with h3 | ⟨b, o, c, e, fr, ha, hok, hb, hs, hr⟩
      · refine ⟨[], ?_, Or.inl h3⟩
        rw [h3]; rfl
      · exact ⟨_, hr, Or.inr ⟨b, o, c, e, fr, ha, hb, hs, rfl⟩⟩
    by_cases ho : ∃ k off len, x = .own k off len
    · obtain ⟨k, off, len, rfl⟩ := ho
      simp only [toDL] at h
      split at h
      · rename_i e v' l hf
        obtain ⟨e1, e2⟩ := Ty.as_some h
        injection e1 with e1
        subst e1
        have e2' : (l.drop off).take len = xs := e2
        have hk := Heap.find_mem hf
        cases hx with
        | own hk' hl hc hmx hb hs ha =>
          have hu := Heap.mem_unique hm.nodup hk hk'
          injection hu with hu1 hu2 hu3
          subst hu1; subst hu2
          have hu3 := eq_of_heq hu3
          subst hu3
          obtain ⟨c, g1, g2, g3, g4, g5⟩ := hm.ownCells hk hl
          rw [e2'] at g2 g3 g5
          refine ⟨_, g5, ?_⟩
          by_cases hnil : xs = []
          · exact Or.inl hnil
          · have hpos : 0 < xs.length := List.length_pos_iff.2 hnil
            have ha' := ha.resolve_right (fun h => by omega)
            exact Or.inr ⟨ρ k, off * v'.size, c, e, (0, 0), ha', g1, g2, rfl⟩
      · cases h
    · by_cases ho2 : ∃ k n, x = .sv k n
      · obtain ⟨k, n, rfl⟩ := ho2
        simp only [toDL] at h
        split at h
        · rename_i e cells hf
          split at h
          · rename_i l hp
            injection h with h
            subst h
            have hk := Heap.find_mem hf
            obtain ⟨c, hc, hvs, _⟩ := hm.mem _ _ hk
            obtain ⟨c1, c2, e1, hl, h2⟩ := pack_sound _ _ _ _ _ hp hvs
            cases h2
            rw [List.append_nil] at e1
            obtain ⟨hn, hr⟩ := hl
            have hn' : List.length (α := u.T) l = n := hn
            have hsz := RdL.length (fun x cs => Rd.length u x cs) _ _ hr
            have hsz' : c1.length = n * u.size := by rw [← hn']; exact hsz
            obtain ⟨ev, hlim⟩ := VR.sv_inv hx
            injection ev with ea _ _
            refine ⟨c1, hr, Or.inr ⟨ρ k, 0, c, e, (0, 0), ea, hc, ?_, ?_⟩⟩
            · have : c.size = c1.length := by rw [← e1]; simp
              rw [hn']; omega
            · rw [List.drop_zero, e1, hn', ← hsz', List.take_length]
          · cases h
        · cases h
      · refine isd x ?_ hx
        cases x <;> first | exact h | exact absurd ⟨_, _, _, rfl⟩ ho | exact absurd ⟨_, _, rfl⟩ ho2
  obtain ⟨cs, hcs, hor⟩ := hdat
  refine ⟨a, cap, cs, rfl, hcs, RdL.length (fun x cs => Rd.length u x cs) _ _ hcs, h2, ?_⟩
  rcases hor with hor | ⟨b, o, c, e, fr, ha, hb, hs, hcs'⟩
  · exact Or.inl hor
  · refine Or.inr ⟨b, o, ha, fun j y hj => ?_⟩
    rw [hcs'] at hj
    have hlt : j < ((c.toList.drop o).take (xs.length * u.size)).length := (List.getElem?_eq_some_iff.1 hj).1
    simp only [List.length_take, List.length_drop, Array.length_toList] at hlt
    rw [List.getElem?_take, if_pos (by omega), List.getElem?_drop, Array.getElem?_toList] at hj
    rw [add_mk]
    simp [World.cell?, hb, hj]

end
end Go.Vg
