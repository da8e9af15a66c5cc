/-
  The engine, part H: the other operations that leave memory alone: fields, elements, slices, literals. Own work; no condition.
-/
import Derived.Test.YtbdojimkdgajgaaGreatDoorEngG
namespace Go.Vg
open Go Go.RowKit

def pickAV (x : Bool) (a b : AV) : T AV :=
  match a, b with
  | .d t u, .d t' v => match t'.as t v with
    | some v' => .ok (.d t (cond x u v'))
    | none => .ite x (.ok a) (.ok b)
  | _, _ => .ite x (.ok a) (.ok b)

def negI (k : IntKind) (x : Int) : AV := .d (.int k) (k.wrap (0 - x))

def unAV (op : UnOp) (a : AV) : T AV :=
  match op, a with
  | .not, .d .bool x => .ok (.d .bool (!x))
  | .neg, .d (.int k) x => .ok (negI k x)
  | _, _ => .bad

def convAV (P : Program) (s d : TypeId) (a : AV) : T AV :=
  match P.underlying s, P.underlying d, a with
  | some _, some (.int k), .d (.int _) n => .ok (.d (.int k) (k.wrap n))
  | some _, some .string, .d .str x => .ok (.d .str x)
  | _, _, _ => .bad

/-- The n-th field of a struct, and where it begins. -/
def nthD : (t : Ty) → t.T → Nat → Option (Nat × (Σ u : Ty, u.T))
  | .pair t _, x, 0 => some (0, ⟨t, x.1⟩)
  | .pair t u, x, n + 1 => match nthD u x.2 n with
    | some (o, y) => some (t.size + o, y)
    | none => none
  | _, _, _ => none

/-- A Go type is that of these data. -/
def isTy (P : Program) (t : TypeId) (u : Ty) : Bool :=
  match aggOf P t, sizeAt P t with
  | some b, some n => (b == u.agg) && Nat.beq n u.size
  | _, _ => false

def fieldAt (P : Program) (s : TypeId) (f : Nat) : Option Field :=
  match P.underlying s with
  | some (.struct fs) => fs[f]?
  | _ => none

def fAddrAV (P : Program) (s : TypeId) (a : AV) (f : Nat) : T AV :=
  match fieldAt P s f with
  | some fl => match sizeAt P fl.type with
    | some (_ + 1) => match a with
      | .ptr k off => .ok (.ptr k (off + fl.offset))
      | .dptr t x => match nthD t x f with
        | some (o, ⟨u, y⟩) => match Nat.beq o fl.offset with
          | true => .ok (.dptr u y)
          | false => .bad
        | none => .bad
      | _ => .bad
    | _ => .bad
  | none => .bad

/-- The same, of an element of one of the call's own rows, too. -/
def fAddrH (P : Program) (H : Heap) (s : TypeId) (a : AV) (f : Nat) : T AV :=
  match a with
  | .eptr k i => match fieldAt P s f, H.find k with
    | some fl, some (.row _ u _) => match sizeAt P fl.type, offD u f with
      | some (_ + 1), some (o, _) => match Nat.beq o fl.offset with
        | true => .ok (.efp k i f)
        | false => .bad
      | _, _ => .bad
    | _, _ => .bad
  | a => fAddrAV P s a f

def fieldAV (P : Program) (s : TypeId) (a : AV) (f : Nat) : T AV :=
  match fieldAt P s f with
  | some fl => match a with
    | .d t x => match nthD t x f with
      | some (o, ⟨u, y⟩) => match Nat.beq o fl.offset && isTy P fl.type u && t.agg with
        | true => .ok (.d u y)
        | false => .bad
      | none => .bad
    | .ag cells => T.ofO (readAV P fl.type cells fl.offset)
    | _ => .bad
  | none => .bad

section
variable {C : Ctx} {ρ : Nat → Nat} {H : Heap} {w : World} {P : Program}

theorem pickAV_sound {x : Bool} {a b r : AV} {va vb : Value} (h : (pickAV x a b).Leaf r) (ha : VR C ρ H w a va) (hb : VR C ρ H w b vb) :
    VR C ρ H w r (if x then va else vb) := by
  have base : ∀ r, (T.ite x (.ok a) (.ok b)).Leaf r → VR C ρ H w r (if x then va else vb) := by
    intro r h
    cases h with
    | t h => cases h; exact ha
    | f h => cases h; exact hb
  unfold pickAV at h
  split at h
  · split at h
    · rename_i t u t' v v' e
      cases h
      cases x with
      | true => exact ha
      | false => exact .d (VR.as hb e)
    · exact base r h
  · exact base r h

theorem unAV_sound {op : UnOp} {a r : AV} {v : Value} (h : (unAV op a).Leaf r) (ha : VR C ρ H w a v) :
    ∃ v', (Op.unary op v).run P w = .ok v' w ∧ VR C ρ H w r v' := by
  unfold unAV at h
  split at h
  · cases h
    rw [bool_value ha]
    exact ⟨_, rfl, vr_bool⟩
  · cases h
    rw [(int_value ha).1]
    exact ⟨_, rfl, vr_wrap⟩
  · cases h

theorem convAV_sound {s d : TypeId} {a r : AV} {v : Value} (h : (convAV P s d a).Leaf r) (ha : VR C ρ H w a v) :
    ∃ v', (convert s d v).run P w = .ok v' w ∧ VR C ρ H w r v' := by
  unfold convAV at h
  split at h
  · rename_i ds k j n hs hd
    cases h
    rw [(int_value ha).1]
    refine ⟨.int k (k.wrap n), ?_, vr_wrap⟩
    simp only [convert, Sem.run_bind, run_underlying hs, run_underlying hd, Result.andThen_ok]
    cases ds <;> rfl
  · rename_i ds x hs hd
    cases h
    obtain ⟨e, hl⟩ := str_value ha
    rw [e]
    refine ⟨_, ?_, vr_str hl⟩
    simp only [convert, Sem.run_bind, run_underlying hs, run_underlying hd, Result.andThen_ok]
    cases ds <;> rfl
  · cases h

theorem nthD_sound {ok : Nat → Prop} : ∀ (t : Ty) (x : t.T) (n o : Nat) (u : Ty) (y : u.T) (cs : List Value), nthD t x n = some (o, ⟨u, y⟩) → Rd ok w t x cs →
    Rd ok w u y ((cs.drop o).take u.size) ∧ o + u.size ≤ t.size
  | .pair t u', x, 0, o, u, y, cs, h, hr => by
    simp only [nthD] at h
    injection h with h; injection h with h1 h2; injection h2 with h2 h3
    subst h1; subst h2
    have h3 := eq_of_heq h3
    subst h3
    obtain ⟨c1, c2, e, h4, _⟩ := hr
    subst e
    have := Rd.length _ _ _ h4
    refine ⟨?_, by simp [Ty.size]⟩
    rw [List.drop_zero, List.take_left' this]
    exact h4
  | .pair t u', x, n + 1, o, u, y, cs, h, hr => by
    simp only [nthD] at h
    split at h
    · rename_i o' y' hn
      injection h with h; injection h with h1 h2
      subst h1; subst h2
      obtain ⟨c1, c2, e, h4, h5⟩ := hr
      subst e
      obtain ⟨h6, h7⟩ := nthD_sound u' x.2 n o' u y c2 hn h5
      have hl := Rd.length _ _ _ h4
      refine ⟨?_, by simp only [Ty.size]; omega⟩
      have : (c1 ++ c2).drop (t.size + o') = c2.drop o' := by
        rw [List.drop_append, List.drop_of_length_le (by omega), List.nil_append]
        congr 1; omega
      rw [this]
      exact h6
    · cases h
  | .int _, _, _, _, _, _, _, h, _ => by cases h
  | .bool, _, _, _, _, _, _, h, _ => by cases h
  | .str, _, _, _, _, _, _, h, _ => by cases h
  | .unit, _, _, _, _, _, _, h, _ => by cases h
  | .arr _ _, _, _, _, _, _, _, h, _ => by cases h
  | .sl _, _, _, _, _, _, _, h, _ => by cases h

theorem offD_nth : ∀ {t : Ty} {x : t.T} {n o : Nat} {u : Ty} {y : u.T}, nthD t x n = some (o, ⟨u, y⟩) → offD t n = some (o, u)
  | .pair t u', x, 0, o, u, y, h => by
    simp only [nthD] at h
    injection h with h; injection h with h1 h2; injection h2 with h2 h3
    subst h1; subst h2
    rfl
  | .pair t u', x, n + 1, o, u, y, h => by
    simp only [nthD] at h
    split at h
    · rename_i o' y' hn
      injection h with h; injection h with h1 h2
      subst h1; subst h2
      simp only [offD, offD_nth hn]
    · cases h
  | .int _, _, _, _, _, _, h => by cases h
  | .bool, _, _, _, _, _, h => by cases h
  | .str, _, _, _, _, _, h => by cases h
  | .unit, _, _, _, _, _, h => by cases h
  | .arr _ _, _, _, _, _, _, h => by cases h
  | .sl _, _, _, _, _, _, h => by cases h

theorem fieldAt_sound {s : TypeId} {f : Nat} {fl : Field} (h : fieldAt P s f = some fl) : ∃ fs, P.underlying s = some (.struct fs) ∧ fs[f]? = some fl := by
  unfold fieldAt at h
  split at h
  · rename_i fs hu; exact ⟨fs, hu, h⟩
  · cases h

theorem sizeAt_run {t : TypeId} {n : Nat} (h : sizeAt P t = some n) (w : World) : (sizeOf t).run P w = .ok n w := by
  unfold sizeAt at h
  cases hi : P.info? t with
  | none => rw [hi] at h; cases h
  | some i =>
    rw [hi] at h
    injection h with h
    subst h
    simp [sizeOf, typeInfo, hi]

theorem aggOf_run {t : TypeId} {b : Bool} (h : aggOf P t = some b) (w : World) : (isAgg t).run P w = .ok b w := by
  unfold aggOf at h
  split at h
  · rename_i hu; injection h with h; subst h; simp [isAgg, run_underlying hu]
  · rename_i hu; injection h with h; subst h; simp [isAgg, run_underlying hu]
  · rename_i d h1 h2 hu
    injection h with h; subst h
    simp only [isAgg, Sem.run_bind, run_underlying hu, Result.andThen_ok]
    cases d <;> first | rfl | exact absurd hu (by simpa using h1 _) | exact absurd hu (by simpa using h2 _ _)
  · cases h

theorem fAddrAV_sound {s : TypeId} {f : Nat} {a r : AV} {v : Value} (h : (fAddrAV P s a f).Leaf r) (ha : VR C ρ H w a v) :
    ∃ v', (Instr.fieldAt s v f).run P w = .ok v' w ∧ VR C ρ H w r v' := by
  unfold fAddrAV at h
  split at h
  · rename_i fl hf
    obtain ⟨fs, hu, hfs⟩ := fieldAt_sound hf
    split at h
    · rename_i n hsz
      have hrun : ∀ b o, (Instr.fieldAt s (.pointer (some ⟨b, o, none⟩)) f).run P w = .ok (.pointer (some ⟨b, o + fl.offset, none⟩)) w := by
        intro b o
        have hadd : (⟨b, o, none⟩ : Addr).add fl.offset = ⟨b, o + fl.offset, none⟩ := by unfold Addr.add; split <;> simp_all
        simp [Instr.fieldAt, run_underlying hu, hfs, Instr.sureAddr, fieldPlace, sizeAt_run hsz, hadd]
      split at h
      · cases h
        cases ha with
        | ptr hk => exact ⟨_, hrun _ _, .ptr hk⟩
      · split at h
        · rename_i o u y hn
          split at h
          · rename_i ho
            cases h
            have ho := beq_true ho
            subst ho
            cases ha with
            | dptr hb hc hs hr =>
              obtain ⟨h1, h2⟩ := nthD_sound _ _ _ _ _ _ _ hn hr
              refine ⟨_, hrun _ _, .dptr hb hc (by omega) ?_⟩
              rw [List.drop_take, List.take_take, List.drop_drop, Nat.min_eq_left (by omega)] at h1
              exact h1
          · cases h
        · cases h
      · cases h
    · cases h
  · cases h

theorem fAddrH_sound {H0 : Heap} (hsub : ∀ x ∈ H0, x ∈ H) {next : Nat} (hm : MRel C ρ H next w) {s : TypeId} {f : Nat} {a r : AV} {v : Value} (h : (fAddrH P H0 s a f).Leaf r) (ha : VR C ρ H w a v) :
    ∃ v', (Instr.fieldAt s v f).run P w = .ok v' w ∧ VR C ρ H w r v' := by
  unfold fAddrH at h
  split at h
  · rename_i k i
    split at h
    · rename_i fl e u l hf hk
      obtain ⟨fs, hu, hfs⟩ := fieldAt_sound hf
      split at h
      · rename_i n o v hsz ho
        split at h
        · rename_i hb
          cases h
          have hb := beq_true hb
          subst hb
          have hk := hsub _ (Heap.find_mem hk)
          cases ha with
          | eptr hk' hi =>
            have hu' := Heap.mem_unique hm.nodup hk hk'
            injection hu' with hu1 hu2 hu3
            subst hu1; subst hu2
            have hu3 := eq_of_heq hu3
            subst hu3
            have hadd : ∀ b p, (⟨b, p, none⟩ : Addr).add fl.offset = ⟨b, p + fl.offset, none⟩ := by intro b p; unfold Addr.add; split <;> simp_all
            refine ⟨_, ?_, .efp hk hi ho⟩
            simp [Instr.fieldAt, run_underlying hu, hfs, Instr.sureAddr, fieldPlace, sizeAt_run hsz, hadd]
        · cases h
      · cases h
    · cases h
  · exact fAddrAV_sound h ha

theorem isTy_sound {t : TypeId} {u : Ty} (h : isTy P t u = true) : aggOf P t = some u.agg ∧ sizeAt P t = some u.size := by
  unfold isTy at h
  split at h
  · rename_i b n h1 h2
    simp only [Bool.and_eq_true, beq_iff_eq] at h
    rw [h1, h2, h.1, beq_true h.2]
    exact ⟨rfl, rfl⟩
  · cases h

/-- A part of a struct or an array that holds a datum. -/
theorem part_dataZ {ok : Nat → Prop} {t : TypeId} {u : Ty} {y : u.T} {cs : List Value} {o : Nat} (ht : isTy P t u = true) (ho : o + u.size ≤ cs.length ∨ u.size = 0)
    (hr : Rd ok w u y ((cs.drop o).take u.size)) : ∃ v, (part t ⟨cs⟩ o).run P w = .ok v w ∧ RdV ok w u y v := by
  obtain ⟨h1, h2⟩ := isTy_sound ht
  cases hag : u.agg with
  | true =>
    rw [hag] at h1
    refine ⟨.agg ⟨(cs.drop o).take u.size⟩, ?_, ⟨_, hr, by simp [vOf, hag]⟩⟩
    simp only [part, Sem.run_bind, aggOf_run h1, sizeAt_run h2, Result.andThen_ok, if_true, Sem.run_pure]
    congr 2
    apply Array.ext'
    rw [Array.toList_extract, List.extract_eq_take_drop, Nat.add_sub_cancel_left]
  | false =>
    rw [hag] at h1
    have hl := Rd.length _ _ _ hr
    have h1s : u.size = 1 := by cases u <;> first | rfl | cases hag
    rw [h1s] at hr ho
    have hlt : o < cs.length := by omega
    have hd : (cs.drop o).take 1 = [cs[o]] := by
      rw [List.drop_eq_getElem_cons hlt]; rfl
    rw [hd] at hr
    refine ⟨cs[o], ?_, RdV.of_scalar hag hr⟩
    simp [part, aggOf_run h1, hlt]

theorem part_data {ok : Nat → Prop} {t : TypeId} {u : Ty} {y : u.T} {cs : List Value} {o : Nat} (ht : isTy P t u = true) (ho : o + u.size ≤ cs.length)
    (hr : Rd ok w u y ((cs.drop o).take u.size)) : ∃ v, (part t ⟨cs⟩ o).run P w = .ok v w ∧ RdV ok w u y v := part_dataZ ht (Or.inl ho) hr


theorem readAV_sound {t : TypeId} {cells : List AV} {o : Nat} {r : AV} {cs : List Value} (h : readAV P t cells o = some r) (hv : VRs C ρ H w cells cs) (h1 : ∀ v ∈ cs, v.oneCell' = true) :
    ∃ v, (part t ⟨cs⟩ o).run P w = .ok v w ∧ VR C ρ H w r v := by
  unfold readAV at h
  split at h
  · rename_i n ha hs
    split at h
    · rename_i hle
      injection h with h; subst h
      refine ⟨.agg ⟨(cs.drop o).take n⟩, ?_, aggAV_sound ((hv.drop o).take n) (fun v hv' => h1 v (List.mem_of_mem_drop (List.mem_of_mem_take hv')))⟩
      simp only [part, Sem.run_bind, aggOf_run ha, sizeAt_run hs, Result.andThen_ok, if_true, Sem.run_pure]
      congr 2
      apply Array.ext'
      rw [Array.toList_extract, List.extract_eq_take_drop, Nat.add_sub_cancel_left]
    · cases h
  · rename_i n ha hs
    obtain ⟨v, hv1, hv2⟩ := hv.get h
    refine ⟨v, ?_, hv2⟩
    simp [part, aggOf_run ha, hv1]
  · cases h

theorem fieldAV_sound {s : TypeId} {f : Nat} {a r : AV} {v : Value} (h : (fieldAV P s a f).Leaf r) (ha : VR C ρ H w a v) :
    ∃ v', (Instr.field s v f).run P w = .ok v' w ∧ VR C ρ H w r v' := by
  unfold fieldAV at h
  split at h
  · rename_i fl hf
    obtain ⟨fs, hu, hfs⟩ := fieldAt_sound hf
    have hrun : ∀ cs : List Value, (Instr.field s (.agg ⟨cs⟩) f).run P w = (part fl.type ⟨cs⟩ fl.offset).run P w := by
      intro cs
      simp [Instr.field, run_underlying hu, hfs, asAgg]
    split at h
    · rename_i t x
      split at h
      · rename_i o u y hn
        split at h
        · rename_i hc
          cases h
          simp only [Bool.and_eq_true] at hc
          obtain ⟨⟨ho, hty⟩, hag⟩ := hc
          have ho := beq_true ho
          subst ho
          obtain ⟨cs, hr, hv⟩ := ha.datum
          simp only [vOf, hag, if_true] at hv
          subst hv
          obtain ⟨h3, h4⟩ := nthD_sound _ _ _ _ _ _ _ hn hr
          have hl := Rd.length _ _ _ hr
          obtain ⟨v', h5, h6⟩ := part_data (P := P) hty (by omega) h3
          exact ⟨v', by rw [hrun]; exact h5, .d h6⟩
        · cases h
      · cases h
    · rename_i cells
      have h := T.Leaf.ofO h
      cases ha with
      | ag h1 h2 =>
        obtain ⟨v', h5, h6⟩ := readAV_sound h h1 h2
        exact ⟨v', by rw [hrun]; exact h5, h6⟩
    · cases h
  · cases h

theorem RdL.getD {α : Type} {R : α → List Value → Prop} {n : Nat} (hn : ∀ x cs, R x cs → cs.length = n) (d : α) :
    ∀ (l : List α) (cs : List Value) (i : Nat), RdL R l cs → i < l.length → R (l.getD i d) ((cs.drop (i * n)).take n)
  | [], _, i, _, hi => by simp at hi
  | x :: xs, cs, 0, ⟨c1, c2, e, h1, h2⟩, _ => by
    subst e
    have := hn _ _ h1
    simpa [List.take_left' this] using h1
  | x :: xs, cs, i + 1, ⟨c1, c2, e, h1, h2⟩, hi => by
    subst e
    have hl := hn _ _ h1
    have ih := RdL.getD hn d xs c2 i h2 (by simpa using hi)
    have : (c1 ++ c2).drop ((i + 1) * n) = c2.drop (i * n) := by
      rw [List.drop_append, List.drop_of_length_le (by rw [hl, Nat.succ_mul]; omega), List.nil_append, hl, Nat.succ_mul]
      congr 1; omega
    rw [this]
    simpa using ih
end

/-- A number, case by case. -/
def caseN {α : Type} (n : Int) (f : Nat → T α) : Nat → T α
  | 0 => .bad
  | j + 1 => .ite (n == (j : Int)) (f j) (caseN n f j)

theorem caseN_leaf {α : Type} {n : Int} {f : Nat → T α} {r : α} : ∀ {m : Nat}, (caseN n f m).Leaf r → ∃ j : Nat, n = (j : Int) ∧ (f j).Leaf r
  | 0, h => by cases h
  | j + 1, h => by
    simp only [caseN] at h
    generalize hb : (n == (j : Int)) = b at h
    cases h with
    | t h => exact ⟨j, by simpa using hb, h⟩
    | f h => exact caseN_leaf h

/-- The address of an element. -/
def iAddrI (P : Program) (H : Heap) (t : TypeId) (a : AV) (n : Int) : T AV :=
  match P.underlying t with
    | some (.slice e) => match a with
      | .d (.sl u) l => match sizeAt P e with
        | some m => match Nat.beq m u.size with
          | true => .need (0 ≤ n ∧ n < (l.length : Int)) (.ok (.dptr u (l.getD n.toNat u.dflt)))
          | false => .bad
        | none => .bad
      | .own k off len => match H.find k, sizeAt P e with
        | some (.row _ u _), some m => match Nat.beq m u.size with
          | true => .need (0 ≤ n ∧ n < (len : Int)) (.ok (.eptr k (off + n.toNat)))
          | false => .bad
        | _, _ => .bad
      | .sv k len => match sizeAt P e with
        | some m => .need (0 ≤ n ∧ n < (len : Int)) (caseN n (fun j => .ok (.ptr k (0 + j * m))) len)
        | none => .bad
      | _ => .bad
    | some (.array len e) => match a with
      | .ptr k off => match sizeAt P e with
        | some m => .need (0 ≤ n ∧ n < (len : Int)) (caseN n (fun j => .ok (.ptr k (off + j * m))) len)
        | none => .bad
      | .dptr (.arr m' u) l => match sizeAt P e with
        | some m => match Nat.beq m u.size && Nat.beq m' len with
          | true => .need (0 ≤ n ∧ n < (len : Int)) (.ok (.dptr u (l.getD n.toNat u.dflt)))
          | false => .bad
        | none => .bad
      | _ => .bad
    | _ => .bad

def iAddrAV (P : Program) (H : Heap) (t : TypeId) (a i : AV) : T AV :=
  match i with
  | .d (.int _) n => iAddrI P H t a n
  | _ => .bad

/-- An element of an array's value, or a string's byte. -/
def indexI (P : Program) (t : TypeId) (a : AV) (n : Int) : T AV :=
  match P.underlying t with
    | some .string => match a with
      | .d .str l => .need (0 ≤ n ∧ n < (l.length : Int)) (.ok (.d (.int .u8) ((l.getD n.toNat 0).toNat : Int)))
      | _ => .bad
    | some (.array len e) => match a with
      | .d (.arr m' u) l => match isTy P e u && Nat.beq m' len with
        | true => .need (0 ≤ n ∧ n < (len : Int)) (.ok (.d u (l.getD n.toNat u.dflt)))
        | false => .bad
      | .ag cells => match sizeAt P e with
        | some m => .need (0 ≤ n ∧ n < (len : Int)) (caseN n (fun j => T.ofO (readAV P e cells (j * m))) len)
        | none => .bad
      | _ => .bad
    | _ => .bad

def indexAV (P : Program) (t : TypeId) (a i : AV) : T AV :=
  match i with
  | .d (.int _) n => indexI P t a n
  | _ => .bad

section
variable {C : Ctx} {ρ : Nat → Nat} {H : Heap} {w : World} {P : Program}

theorem add_mk (b o n : Nat) : (⟨b, o, none⟩ : Addr).add n = ⟨b, o + n, none⟩ := by unfold Addr.add; split <;> simp_all

theorem iAddrI_sound {H0 : Heap} (hsub : ∀ x ∈ H0, x ∈ H) {next : Nat} (hm : MRel C ρ H next w) {t : TypeId} {a r : AV} {v : Value} {k : IntKind} {n : Int} (h : (iAddrI P H0 t a n).Leaf r) (ha : VR C ρ H w a v) :
    ∃ v', (Instr.indexAt t v (.int k n)).run P w = .ok v' w ∧ VR C ρ H w r v' := by
  unfold iAddrI at h
  · split at h
    · rename_i e hu
      have hrun : ∀ (b o len cap m : Nat), sizeAt P e = some m → 0 ≤ n → n < (len : Int) →
          (Instr.indexAt t (.slice (some ⟨b, o, none⟩) len cap) (.int k n)).run P w = .ok (.pointer (some ⟨b, o + n.toNat * m, none⟩)) w := by
        intro b o len cap m hs h0 h1
        simp [Instr.indexAt, asIntOf, run_underlying hu, h0, h1, sizeAt_run hs, add_mk]
      split at h
      · rename_i u l
        split at h
        · rename_i m hs
          split at h
          · rename_i hb
            have hb := beq_true hb
            subst hb
            cases h with
            | need hp h =>
              cases h
              obtain ⟨a', cap, e1, h2, h3, h4⟩ := ha.datum.scalar rfl
              injection e1 with e1 _
              subst e1
              have hne : l ≠ [] := fun e => by subst e; simp at hp; omega
              obtain ⟨b, o, c, e', fr, ha', hok, hb, hs', hr⟩ := h4.resolve_left hne
              subst ha'
              have hlt : n.toNat < l.length := by omega
              have hle : (n.toNat + 1) * u.size ≤ l.length * u.size := Nat.mul_le_mul_right _ hlt
              rw [Nat.succ_mul] at hle
              refine ⟨_, hrun _ _ _ _ _ hs hp.1 hp.2, .dptr hok hb (by omega) ?_⟩
              have := RdL.getD (fun x cs => Rd.length u x cs) u.dflt l _ n.toNat hr hlt
              rw [list_window _ _ _ _ hle, List.drop_drop] at this
              exact this
          · cases h
        · cases h
      · rename_i kk off len
        split at h
        · rename_i e2 u l m hf hs
          split at h
          · rename_i hb
            have hb := beq_true hb
            subst hb
            cases h with
            | need hp h =>
              cases h
              have hk := hsub _ (Heap.find_mem hf)
              cases ha with
              | own hk' hl hc hmx hb hsz ha =>
                have hu' := Heap.mem_unique hm.nodup hk hk'
                injection hu' with hu1 hu2 hu3
                subst hu1; subst hu2
                have ha' := ha.resolve_right (fun h => by omega)
                subst ha'
                refine ⟨_, hrun _ _ _ _ _ hs hp.1 hp.2, ?_⟩
                rw [← Nat.add_mul]
                have hu3 := eq_of_heq hu3
                subst hu3
                exact .eptr hk (by have := hp.2; omega)
          · cases h
        · cases h
      · rename_i kk len
        split at h
        · rename_i m hs
          cases h with
          | need hp h =>
            obtain ⟨j, hj, h⟩ := caseN_leaf h
            cases h
            obtain rfl : n.toNat = j := by omega
            cases ha with
            | sv hk hn => exact ⟨_, hrun _ _ _ _ _ hs hp.1 hp.2, .ptr hk⟩
        · cases h
      · cases h
    · rename_i len e hu
      have hrun : ∀ (b o m : Nat), sizeAt P e = some m → 0 ≤ n → n < (len : Int) →
          (Instr.indexAt t (.pointer (some ⟨b, o, none⟩)) (.int k n)).run P w = .ok (.pointer (some ⟨b, o + n.toNat * m, none⟩)) w := by
        intro b o m hs h0 h1
        simp [Instr.indexAt, asIntOf, run_underlying hu, h0, h1, sizeAt_run hs, add_mk, Instr.sureAddr]
      split at h
      · rename_i kk off
        split at h
        · rename_i m hs
          cases h with
          | need hp h =>
            obtain ⟨j, hj, h⟩ := caseN_leaf h
            cases h
            obtain rfl : n.toNat = j := by omega
            cases ha with
            | ptr hk => exact ⟨_, hrun _ _ _ hs hp.1 hp.2, .ptr hk⟩
        · cases h
      · rename_i m' u l
        split at h
        · rename_i m hs
          split at h
          · rename_i hb
            simp only [Bool.and_eq_true] at hb
            have hb1 := beq_true hb.1
            have hb2 := beq_true hb.2
            subst hb1; subst hb2
            cases h with
            | need hp h =>
              cases h
              cases ha with
              | dptr hok hc ho hr =>
                obtain ⟨hl, hr⟩ := hr
                have hlt : n.toNat < l.length := by rw [hl]; omega
                have hle : (n.toNat + 1) * u.size ≤ m' * u.size := Nat.mul_le_mul_right _ (by rw [hl] at hlt; exact hlt)
                rw [Nat.succ_mul] at hle
                simp only [Ty.size] at ho hr
                refine ⟨_, hrun _ _ _ hs hp.1 hp.2, .dptr hok hc (by omega) ?_⟩
                have := RdL.getD (fun x cs => Rd.length u x cs) u.dflt l _ n.toNat hr hlt
                rw [list_window _ _ _ _ hle, List.drop_drop] at this
                exact this
          · cases h
        · cases h
      · cases h
    · cases h

theorem iAddrAV_sound {H0 : Heap} (hsub : ∀ x ∈ H0, x ∈ H) {next : Nat} (hm : MRel C ρ H next w) {t : TypeId} {a i r : AV} {v vi : Value} (h : (iAddrAV P H0 t a i).Leaf r) (ha : VR C ρ H w a v) (hi : VR C ρ H w i vi) :
    ∃ v', (Instr.indexAt t v vi).run P w = .ok v' w ∧ VR C ρ H w r v' := by
  unfold iAddrAV at h
  split at h
  · rw [(int_value hi).1]; exact iAddrI_sound hsub hm h ha
  · cases h

theorem bytes_get (l : List UInt8) (i : Nat) (h : i < l.length) : (⟨⟨l⟩⟩ : ByteArray)[i]? = some (l.getD i 0) := by
  rw [getElem?_pos _ _ (by show i < l.length; exact h)]
  congr 1
  show l[i] = _
  simp [h]

theorem indexI_sound {t : TypeId} {a r : AV} {v : Value} {k : IntKind} {n : Int} (h : (indexI P t a n).Leaf r) (ha : VR C ρ H w a v) :
    ∃ v', (Instr.index t v (.int k n)).run P w = .ok v' w ∧ VR C ρ H w r v' := by
  unfold indexI at h
  · split at h
    · rename_i hu
      split at h
      · rename_i l
        cases h with
        | need hp h =>
          cases h
          obtain ⟨e, _⟩ := str_value ha
          subst e
          have hlt : n.toNat < l.length := by omega
          have hg := bytes_get l n.toNat hlt
          refine ⟨.int .u8 ((l.getD n.toNat 0).toNat : Int), ?_, ?_⟩
          · simp [Instr.index, asIntOf, run_underlying hu, hp.1, hg]
          · have := (l.getD n.toNat 0).toNat_lt
            exact vr_int (by simp [IntKind.min, IntKind.signed]) (by simp [IntKind.max, IntKind.signed, IntKind.bits]; omega)
      · cases h
    · rename_i len e hu
      split at h
      · rename_i m' u l
        split at h
        · rename_i hb
          simp only [Bool.and_eq_true] at hb
          have hb2 := beq_true hb.2
          subst hb2
          cases h with
          | need hp h =>
            cases h
            obtain ⟨cs, hr, hv⟩ := ha.datum
            simp only [vOf, Ty.agg, if_true] at hv
            subst hv
            obtain ⟨hl, hr⟩ := hr
            have hlt : n.toNat < l.length := by rw [hl]; omega
            have hle : (n.toNat + 1) * u.size ≤ m' * u.size := Nat.mul_le_mul_right _ (by rw [hl] at hlt; exact hlt)
            rw [Nat.succ_mul] at hle
            have hcl := RdL.length (fun x cs => Rd.length u x cs) _ _ hr
            rw [hl] at hcl
            obtain ⟨v', h5, h6⟩ := part_data (P := P) hb.1 (by omega) (RdL.getD (fun x cs => Rd.length u x cs) u.dflt l _ n.toNat hr hlt)
            refine ⟨v', ?_, .d h6⟩
            simp only [Instr.index, asIntOf, Sem.run_bind, Sem.run_pure, run_underlying hu, Result.andThen_ok, Sem.run_ite, if_pos hp, sizeAt_run (isTy_sound hb.1).2]
            exact h5
        · cases h
      · rename_i cells
        split at h
        · rename_i m hs
          cases h with
          | need hp h =>
            obtain ⟨j, hj, h⟩ := caseN_leaf h
            have h := T.Leaf.ofO h
            obtain rfl : n.toNat = j := by omega
            cases ha with
            | ag h1 h2 =>
              obtain ⟨v', h5, h6⟩ := readAV_sound h h1 h2
              refine ⟨v', ?_, h6⟩
              simp only [Instr.index, asIntOf, Sem.run_bind, Sem.run_pure, run_underlying hu, Result.andThen_ok, Sem.run_ite, if_pos hp, sizeAt_run hs]
              exact h5
        · cases h
      · cases h
    · cases h

theorem indexAV_sound {t : TypeId} {a i r : AV} {v vi : Value} (h : (indexAV P t a i).Leaf r) (ha : VR C ρ H w a v) (hi : VR C ρ H w i vi) :
    ∃ v', (Instr.index t v vi).run P w = .ok v' w ∧ VR C ρ H w r v' := by
  unfold indexAV at h
  split at h
  · rw [(int_value hi).1]; exact indexI_sound h ha
  · cases h
end
end Go.Vg
