/-
  The engine, part K: contracts; loads, new blocks and calls by contract. Own work; no condition.
-/
import Derived.Test.YtbdojimkdgajgaaGreatDoorEngJ
import Derived.Laws.OwnMore
namespace Go.Vg
open Go Go.RowKit

/-- A contract: plain data in, plain data out. Both types end in 'unit'. -/
structure Con where
  args : Ty
  res : Ty
  pre : args.T → Prop
  fn : args.T → res.T
  dec : ∀ x, Decidable (pre x) := by exact fun _ => Classical.propDecidable _
  /-- Is the second of two results an error, told by whether it is not nil? -/
  err : Bool := false

/-- Values that hold data, one by one. -/
def RdVs (ok : Nat → Prop) (w : World) : (t : Ty) → t.T → List Value → Prop
  | .unit, _, vs => vs = []
  | .pair t u, x, vs => ∃ v us, vs = v :: us ∧ RdV ok w t x.1 v ∧ RdVs ok w u x.2 us
  | _, _, _ => False

/-- The values of a call's results; e: the last of two is an error. -/
def RdR (e : Bool) (ok : Nat → Prop) (w : World) (t : Ty) (y : t.T) (vs : List Value) : Prop :=
  match e with
  | false => RdVs ok w t y vs
  | true => match t, y with
    | .pair u (.pair .bool .unit), y => ∃ v v2, vs = [v, v2] ∧ RdV ok w u y.1 v ∧ (match (y.2.1 : Bool) with | true => ∃ t p, v2 = .iface t p | false => v2 = .nilIface)
    | _, _ => False

def resV (vs : List Value) : Value :=
  match vs with
  | [v] => v
  | vs => .tuple ⟨vs⟩

def okNew (ok : Nat → Prop) (w w' : World) (b : Nat) : Prop := ok b ∨ w.heap.size ≤ b ∧ b < w'.heap.size

/-- The model enters this function where it is called. -/
def enters (P : Program) (f : FuncId) : Bool :=
  match P.funcs[f]? with
  | some fn => match fn.body with
    | some _ => !(fn.name == "runtime.NumGoroutine")
    | none => false
  | none => false

def Con.ok (P : Program) (G : World → Prop) (f : FuncId) (c : Con) : Prop :=
  enters P f = true ∧ ∀ (w : World) (ok : Nat → Prop) (vs : List Value) (x : c.args.T), G w → (∀ b, ok b → b < w.heap.size) → RdVs ok w c.args x vs → c.pre x →
    Calls P f ⟨vs⟩ w fun e w' => ∃ rs, e = .returned (resV rs) ∧ RdR c.err (okNew ok w w') w' c.res (c.fn x) rs ∧ Below w.heap.size w w'

theorem Con.ok_plain {P : Program} {G : World → Prop} {f : FuncId} {c : Con} (hc : c.err = false) (h : enters P f = true ∧ ∀ (w : World) (ok : Nat → Prop) (vs : List Value) (x : c.args.T), G w → (∀ b, ok b → b < w.heap.size) → RdVs ok w c.args x vs → c.pre x →
    Calls P f ⟨vs⟩ w fun e w' => ∃ rs, e = .returned (resV rs) ∧ RdVs (okNew ok w w') w' c.res (c.fn x) rs ∧ Below w.heap.size w w') : c.ok P G f := by
  unfold Con.ok
  rw [hc]
  exact h

abbrev Cons := List (Nat × Con)
def Cons.ok (P : Program) (G : World → Prop) : Cons → Prop
  | [] => True
  | (f, c) :: r => Con.ok P G f c ∧ Cons.ok P G r

def Cons.find : Cons → Nat → Option Con
  | [], _ => none
  | (g, c) :: r, f => match Nat.beq g f with | true => some c | false => Cons.find r f

theorem Cons.find_ok {P : Program} {G : World → Prop} {Γ : Cons} {f : Nat} {c : Con} (h : Γ.ok P G) (hf : Γ.find f = some c) : c.ok P G f := by
  induction Γ with
  | nil => cases hf
  | cons x r ih =>
    obtain ⟨g, d⟩ := x
    simp only [Cons.find] at hf
    cases hb : Nat.beq g f with
    | true => rw [hb] at hf; have := beq_true hb; subst this; injection hf with hf; subst hf; exact h.1
    | false => rw [hb] at hf; exact ih h.2 hf

def noSl : Ty → Bool
  | .sl _ => false
  | .pair t u => noSl t && noSl u
  | .arr _ t => noSl t
  | _ => true

def toArgs (H : Heap) : (t : Ty) → List AV → Option t.T
  | .unit, [] => some ()
  | .pair t u, a :: as => match toDL H t a.soft with
    | some x => match toArgs H u as with
      | some y => some (x, y)
      | none => none
    | none => none
  | _, _ => none

def isOwn : AV → Bool
  | .own _ _ _ => true
  | .ox _ _ _ => true
  | .sv _ _ => true
  | _ => false

def anyOwn : List AV → Bool
  | [] => false
  | a :: as => isOwn a || anyOwn as

def resAVs : (t : Ty) → t.T → List AV
  | .pair t u, x => .d t x.1 :: resAVs u x.2
  | _, _ => []

def resAV (l : List AV) : AV :=
  match l with
  | [a] => a
  | l => .tup l

/-- What a call by contract hands back. -/
def conRes (e : Bool) (t : Ty) (y : t.T) : T (AV × List (Nat × Bk)) :=
  match e with
  | false => .ok (resAV (resAVs t y), [])
  | true => match t, y with
    | .pair u (.pair .bool .unit), y => .ite y.2.1 (.ok (.tup [.d u y.1, .nni], [])) (.ok (.tup [.d u y.1, .nili], []))
    | _, _ => .bad

def flatRep {α : Type} (l : List α) : Nat → List α
  | 0 => []
  | n + 1 => l ++ flatRep l n

/-- Loads. -/
def loadAV (P : Program) (H : Heap) (t : TypeId) (a : AV) : T AV :=
  match a with
  | .ptr k off => match H.find k with
    | some (.vars _ cells) => T.ofO (readAV P t cells off)
    | _ => .bad
  | .eptr k i => match H.find k with
    | some (.row _ u l) => match isTy P t u with
      | true => .ok (.d u (l.getD i u.dflt))
      | false => .bad
    | _ => .bad
  | .efp k i f => match H.find k with
    | some (.row _ u l) => match nthD u (l.getD i u.dflt) f with
      | some (_, ⟨v, y⟩) => match isTy P t v with
        | true => .ok (.d v y)
        | false => .bad
      | none => .bad
    | _ => .bad
  | .dptr u x => match isTy P t u with
    | true => .ok (.d u x)
    | false => .bad
  | _ => .bad

/-- A new block of cells of which nothing is known yet. -/
def makeV (K : Nat) (e : TypeId) (i : TypeInfo) (n c : Int) : T (AV × List (Nat × Bk)) :=
  match i.zero with
  | some z => match Nat.beq i.size 1 && Nat.ble 1 i.bytes && z.oneCell' with
    | true => .need (0 ≤ n ∧ n = c ∧ c * (i.bytes : Int) ≤ 140737488355328) (.ok (.sv K n.toNat, [(K, .vars e (List.replicate n.toNat .no))]))
    | false => .bad
  | none => .bad

/-- A new row of zero values. -/
def makeI (P : Program) (K : Nat) (t : TypeId) (n c : Int) : T (AV × List (Nat × Bk)) :=
  match P.underlying t with
  | some (.slice e) => match tyOf P 20 e, zeroAVs P e, P.info? e with
    | none, _, some i => makeV K e i n c
    | some u, some zs, some i => match pack u zs with
      | some (x, []) => match Nat.beq i.size u.size && Nat.beq zs.length u.size && Nat.ble 1 i.bytes with
        | true => .need (0 ≤ n ∧ n ≤ c ∧ c * (i.bytes : Int) ≤ 140737488355328) (.ok (.own K 0 n.toNat, [(K, .row e u (List.replicate n.toNat x))]))
        | false => .bad
      | _ => .bad
    | _, _, _ => .bad
  | _ => .bad

/-- 'string' to '[]byte': new memory, which nobody writes. -/
def strBytes (P : Program) (s d : TypeId) (l : List UInt8) : T (AV × List (Nat × Bk)) :=
  match P.underlying s, P.underlying d with
  | some .string, some (.slice e) => match P.underlying e with
    | some (.int .u8) => .ok (.d (.sl (.int .u8)) (bytesI l), [])
    | _ => .bad
  | _, _ => .bad

/-- A mark: the first contract stands twice: built slices are data. -/
def Cons.twice : List (Nat × Con) → Bool
  | x :: y :: _ => Nat.beq x.1 y.1
  | _ => false

/-- A datum's elements appended to nil: new memory, which nobody writes. -/
def appendNew (bytes : Nat) (u : Ty) (xs : List u.T) : T (AV × List (Nat × Bk)) :=
  .need (xs.length * bytes ≤ 140737488355328) (.ok (.d (.sl u) xs, []))

def appendE (P : Program) (ts : List TypeId) (l : List AV) : T (AV × List (Nat × Bk)) :=
  match ts, l with
  | [t, t2], [.nsl, x] => match Nat.beq t t2 with
    | true => match P.underlying t with
      | some (.slice e) => match P.info? e with
        | some i => match tyOf P 20 e, zeroAVs P e with
          | some u, some zs => match Nat.beq i.size u.size && Nat.beq zs.length u.size && Nat.ble 1 i.bytes && Nat.ble 1 u.size with
            | true => match toD (.sl u) x with
              | some (xs : List u.T) => appendNew i.bytes u xs
              | none => .bad
            | false => .bad
          | _, _ => .bad
        | none => .bad
      | _ => .bad
    | false => .bad
  | _, _ => .bad

/-- Operations that read memory, make a block, or call by contract. K: the new block's key. -/
def evM (P : Program) (Γ : Cons) (K : Nat) (H : Heap) (arg : Operand → AV) (o : Oper) : T (AV × List (Nat × Bk)) :=
  match o.op with
  | .load t a => (loadAV P H t (arg a)).bind fun r => .ok (r, [])
  | .alloc e => match zeroAVs P e with
    | some zs => .ok (.ptr K 0, [(K, .vars e zs)])
    | none => .bad
  | .box e x => match cellsOf (arg x) with
    | some cells => .ok (.ptr K 0, [(K, .vars e cells)])
    | none => .bad
  | .buildSlice t n ps => match P.underlying t with
    | some (.slice e) => match tyOf P 20 e, zeroAVs P e, sizeAt P e with
      | some u, some zs, some m => match Nat.beq m u.size && Nat.beq zs.length m && Nat.ble (n * m) 16777216 && Nat.ble n 16777216 with
        | true => match fillAV (fun i => some (i * m, m)) (flatRep zs n) (ps.toList.map fun x => (x.1, arg x.2)) with
          | some cells => match pack (.arr n u) cells with
            | some (l, []) => match Cons.twice Γ with
              | true => .ok (.d (.sl u) l, [])
              | false => match noSl u with
                | true => .ok (.own K 0 n, [(K, .row e u l)])
                | false => .ok (.ox K 0 n, [(K, .row e u l)])
            | _ => .bad
          | none => .bad
        | false => .bad
      | _, _, _ => .bad
    | _ => .bad
  | .convert s d x => match isBytes P d, arg x with
    | true, .d .str l => strBytes P s d l
    | _, _ => (evP P H arg o).bind fun r => .ok (r, [])
  | .makeMap t none => match P.underlying t with
    | some (.map kt _) => match P.underlying kt with
      | some (.int k) => .ok (.mp K, [(K, .dic k [])])
      | _ => .bad
    | _ => .bad
  | .makeSlice t n c => match arg n with
    | .d (.int _) n => match arg c with
      | .d (.int _) c => makeI P K t n c
      | _ => .bad
    | _ => .bad
  | .call { callee := .value f, args, .. } => match arg f with
    | .fn g first caps => match Γ.find g with
      | some c => match noSl c.res || !(anyOwn (first ++ args.toList.map arg ++ caps)) with
        | true => match toArgs H c.args (first ++ args.toList.map arg ++ caps) with
          | some x => @T.need _ (c.pre x) (c.dec x) (conRes c.err c.res (c.fn x))
          | none => .bad
        | false => .bad
      | none => .bad
    | _ => .bad
  | .call { callee := .builtin .append, args, argTypes } => appendE P argTypes.toList (args.toList.map arg)
  | _ => (evP P H arg o).bind fun r => .ok (r, [])

section
variable {C : Ctx} {ρ : Nat → Nat} {H : Heap} {w : World} {P : Program}

/-- Nothing that was there has changed. -/
theorem MRel.grow {next : Nat} {w' : World} (hm : MRel C ρ H next w) (hb : Below w.heap.size w w') : MRel C ρ H next w' ∧ Ext C ρ H w ρ H w' := by
  have hn0 : C.w0.heap.size ≤ w.heap.size := hm.below.size
  have hext : Ext C ρ H w ρ H w' := by
    refine ⟨fun b ⟨h1, h2, h3⟩ => ⟨⟨h1, Nat.lt_of_lt_of_le h2 hb.size, h3⟩, hb.block b h2⟩, fun k hk => ⟨hk, rfl⟩, fun k e t l hmem => ⟨l, hmem, Nat.le_refl _, fun c fr hc => ⟨c, fr, ?_, rfl⟩⟩, hb.size⟩
    rw [hb.block _ (lt_of_block hc)]; exact hc
  exact ⟨⟨hm.below.trans (hb.mono hn0), hm.nodup, hm.lt, hm.inj, hm.low, fun k b hkb => (hm.mem k b hkb).ext hext (hb.block _ (hm.key_lt (mem_keys hkb)))⟩, hext⟩

theorem loadVar_part {t : TypeId} {b o : Nat} {c : Array Value} {e : TypeId} {fr : Nat × Nat} (hb : w.heap[b]? = some (.cells c e fr)) {ag : Bool} {n : Nat} (ha : aggOf P t = some ag) (hs : sizeAt P t = some n)
    (ho : o + n ≤ c.size) (h1 : ag = false → n = 1) : (loadVar t ⟨b, o, none⟩).run P w = (part t ⟨c.toList⟩ o).run P w := by
  cases ag with
  | true =>
    simp only [loadVar, part, Sem.run_bind, aggOf_run ha, sizeAt_run hs, Result.andThen_ok, if_true]
    have hl := run_loadCells_list (P := P) w ⟨b, o, none⟩ ((c.toList.drop o).take n) (by
      intro j v hj
      rw [add_mk]
      simp only [World.cell?, hb]
      have hlt : j < ((c.toList.drop o).take n).length := (List.getElem?_eq_some_iff.1 hj).1
      simp only [List.length_take, List.length_drop, Array.length_toList] at hlt
      rw [List.getElem?_take, if_pos (by omega), List.getElem?_drop, Array.getElem?_toList] at hj
      simpa using hj)
    have hlen : ((c.toList.drop o).take n).length = n := by simp; omega
    rw [hlen] at hl
    simp only [hl, Result.andThen_ok, Sem.run_pure]
    congr 2
    apply Array.ext'
    rw [Array.toList_extract, List.extract_eq_take_drop, Nat.add_sub_cancel_left]
  | false =>
    have h1 := h1 rfl
    subst h1
    have hlt : o < c.size := by omega
    simp [loadVar, part, aggOf_run ha, World.cell?, hb, hlt]

theorem loadAV_sound {H0 : Heap} (hsub : ∀ x ∈ H0, x ∈ H) {next : Nat} (hm : MRel C ρ H next w) {t : TypeId} {a r : AV} {v : Value} (h : (loadAV P H0 t a).Leaf r) (ha : VR C ρ H w a v) :
    ∃ v', (Instr.loadAt t v).run P w = .ok v' w ∧ VR C ρ H w r v' := by
  have data : ∀ (b o : Nat) (c : Array Value) (e : TypeId) (fr : Nat × Nat) (u : Ty) (y : u.T), w.heap[b]? = some (.cells c e fr) → isTy P t u = true → o + u.size ≤ c.size → Rd (Ok C ρ H w) w u y ((c.toList.drop o).take u.size) →
      ∃ v', (Instr.loadAt t (.pointer (some ⟨b, o, none⟩))).run P w = .ok v' w ∧ VR C ρ H w (.d u y) v' := by
    intro b o c e fr u y hb hty ho hr
    obtain ⟨h1, h2⟩ := isTy_sound hty
    obtain ⟨v', h5, h6⟩ := part_data (P := P) hty (by simpa using ho) hr
    refine ⟨v', ?_, .d h6⟩
    simp only [Instr.loadAt, Instr.sureAddr, Sem.run_bind, Sem.run_pure, Result.andThen_ok]
    rw [loadVar_part hb h1 h2 ho (fun h => by cases u <;> first | rfl | cases h)]
    exact h5
  unfold loadAV at h
  split at h
  · rename_i k off
    split at h
    · rename_i e cells hf
      have h := T.Leaf.ofO h
      have hk := hsub _ (Heap.find_mem hf)
      obtain ⟨c, hc1, hc2, hc3⟩ := hm.mem k _ hk
      obtain ⟨v', h5, h6⟩ := readAV_sound h hc2 hc3
      cases ha
      refine ⟨v', ?_, h6⟩
      simp only [Instr.loadAt, Instr.sureAddr, Sem.run_bind, Sem.run_pure, Result.andThen_ok]
      have hlen := hc2.length
      unfold readAV at h
      split at h
      · rename_i n hag hsz
        split at h
        · rename_i hle
          rw [loadVar_part hc1 hag hsz (by have := Nat.le_of_ble_eq_true hle; simp at hlen; omega) (fun h => by cases h)]
          exact h5
        · cases h
      · rename_i n hag hsz
        have hlt : off < cells.length := (List.getElem?_eq_some_iff.1 h).1
        have hlt' : off < c.size := by simp at hlen; omega
        have hp : (part t ⟨c.toList⟩ off).run P w = .ok c[off] w := by simp [part, aggOf_run hag, hlt']
        rw [hp] at h5
        simp only [loadVar, Sem.run_bind, aggOf_run hag, Result.andThen_ok, Bool.false_eq_true, if_false, run_load, World.cell?, hc1]
        simp [hlt'] at h5 ⊢
        exact h5
      · cases h
    · cases h
  · rename_i k i
    split at h
    · rename_i e u l hf
      split at h
      · rename_i hty
        cases h
        have hk := hsub _ (Heap.find_mem hf)
        obtain ⟨c, hc1, hc2, hc3, hc4, hc5⟩ := hm.mem k _ hk
        cases ha with
        | eptr hk' hi =>
          have hu' := Heap.mem_unique hm.nodup hk hk'
          injection hu' with hu1 hu2 hu3
          subst hu1; subst hu2
          have hu3 := eq_of_heq hu3
          subst hu3
          have hle : (i + 1) * u.size ≤ l.length * u.size := Nat.mul_le_mul_right _ hi
          rw [Nat.succ_mul] at hle
          have := RdL.getD (fun x cs => Rd.length u x cs) u.dflt l _ i hc4 hi
          rw [list_window _ _ _ _ hle] at this
          exact data _ _ _ _ _ _ _ hc1 hty (by omega) this
      · cases h
    · cases h
  · rename_i k i f
    split at h
    · rename_i e u l hf
      split at h
      · rename_i o v y hn
        split at h
        · rename_i hty
          cases h
          have hk := hsub _ (Heap.find_mem hf)
          obtain ⟨c, hc1, hc2, hc3, hc4, hc5⟩ := hm.mem k _ hk
          cases ha with
          | efp hk' hi ho =>
            have hu' := Heap.mem_unique hm.nodup hk hk'
            injection hu' with hu1 hu2 hu3
            subst hu1; subst hu2
            have hu3 := eq_of_heq hu3
            subst hu3
            obtain ⟨rfl, rfl⟩ : _ ∧ _ := by
              have := (offD_nth hn).symm.trans ho
              injection this with this
              injection this with t1 t2
              exact ⟨t1, t2⟩
            have hle : (i + 1) * u.size ≤ l.length * u.size := Nat.mul_le_mul_right _ hi
            rw [Nat.succ_mul] at hle
            have := RdL.getD (fun x cs => Rd.length u x cs) u.dflt l _ i hc4 hi
            rw [list_window _ _ _ _ hle] at this
            obtain ⟨h1, h2⟩ := nthD_sound _ _ _ _ _ _ _ hn this
            rw [List.drop_take, List.take_take, List.drop_drop, Nat.min_eq_left (by omega)] at h1
            exact data _ _ _ _ _ _ _ hc1 hty (by omega) h1
        · cases h
      · cases h
    · cases h
  · rename_i u x
    split at h
    · rename_i hty
      cases h
      cases ha with
      | dptr hb hc ho hr => exact data _ _ _ _ _ _ _ hc hty ho hr
    · cases h
  · cases h

end
end Go.Vg
