/-
  The engine, part J: literals, lengths, least and greatest; all operations that leave memory alone, in one function. Own work; no condition.
-/
import Derived.Test.YtbdojimkdgajgaaGreatDoorEngI
import Derived.Lib.Builder
import Derived.Lib.UnsafeStr
import Derived.Laws.BytesString
import Derived.DeepKeys
import Derived.MapKept
namespace Go.Vg
open Go Go.RowKit

def placeS (P : Program) (fs : Array Field) (i : Nat) : Option (Nat × Nat) :=
  match fs[i]? with
  | some f => match sizeAt P f.type with
    | some n => some (f.offset, n)
    | none => none
  | none => none

def allSizes (P : Program) : List Field → Bool
  | [] => true
  | f :: r => match sizeAt P f.type with
    | some _ => allSizes P r
    | none => false

def zeroAVs (P : Program) (t : TypeId) : Option (List AV) :=
  match P.info? t with
  | some i => match i.zero with
    | some z => match allOne z.cells.toList with
      | true => some (constAVs z.cells.toList)
      | false => none
    | none => none
  | none => none

def buildAV (P : Program) (t : TypeId) (ps : List (Nat × AV)) : T AV :=
  match zeroAVs P t with
  | some zs => match P.underlying t with
    | some (.struct fs) => match allSizes P fs.toList with
      | true => match fillAV (placeS P fs) zs ps with
        | some cells => .ok (aggAV P t cells)
        | none => .bad
      | false => .bad
    | some (.array _ e) => match sizeAt P e with
      | some n => match fillAV (fun i => some (i * n, n)) zs ps with
        | some cells => .ok (aggAV P t cells)
        | none => .bad
      | none => .bad
    | _ => .bad
  | none => .bad

def lenI (n : Nat) : AV := .d (.int .i64) (n : Int)

def lenAV (P : Program) (t : TypeId) (a : AV) : T AV :=
  match P.underlying t with
  | some .string => match a with
    | .d .str l => .ok (lenI l.length)
    | _ => .bad
  | some (.slice _) => match a with
    | .d (.sl _) l => .ok (lenI l.length)
    | .own _ _ n => .ok (lenI n)
    | .sv _ n => .ok (lenI n)
    | .nsl => .ok (lenI 0)
    | _ => .bad
  | some (.array n _) => match Nat.ble n lim with
    | true => .ok (lenI n)
    | false => .bad
  | _ => .bad

def capAV (P : Program) (t : TypeId) (a : AV) : T AV :=
  match P.underlying t with
  | some (.slice _) => match a with
    | .ox _ _ n => .ok (lenI n)
    | .nsl => .ok (lenI 0)
    | _ => .bad
  | _ => .bad

def pickI (least : Bool) (x y : Int) : Int :=
  match least with
  | true => if y < x then y else x
  | false => if y > x then y else x

def foldMM (least : Bool) (k : IntKind) : Int → List AV → T AV
  | x, [] => .ok (.d (.int k) x)
  | x, .d (.int j) y :: r => if j = k then foldMM least k (pickI least x y) r else .bad
  | _, _ :: _ => .bad

def mmAV (least : Bool) (l : List AV) : T AV :=
  match l with
  | .d (.int k) x :: r => foldMM least k x r
  | _ => .bad

section
variable {C : Ctx} {ρ : Nat → Nat} {H : Heap} {w : World} {P : Program}

theorem zeroAVs_sound {t : TypeId} {zs : List AV} (h : zeroAVs P t = some zs) : ∃ z, (zeroValue t).run P w = .ok z w ∧ VRs C ρ H w zs z.cells.toList ∧ ∀ v ∈ z.cells.toList, v.oneCell' = true := by
  unfold zeroAVs at h
  split at h
  · rename_i i hi
    split at h
    · rename_i z hz
      split at h
      · rename_i ho
        injection h with h; subst h
        exact ⟨z, by simp [zeroValue, typeInfo, hi, hz], constAVs_sound _, allOne_sound ho⟩
      · cases h
    · cases h
  · cases h

theorem mapM_sizes : ∀ (l : List Field), allSizes P l = true → ∃ ps : List (Nat × Nat), (l.mapM (fun f => do pure (f.offset, ← sizeOf f.type)) : Sem (List (Nat × Nat))).run P w = .ok ps w ∧
    ∀ i : Nat, ps[i]? = (match l[i]? with | some f => (match sizeAt P f.type with | some n => some (f.offset, n) | none => none) | none => none)
  | [], _ => ⟨[], rfl, by simp⟩
  | f :: r, h => by
    simp only [allSizes] at h
    split at h
    · rename_i n hs
      obtain ⟨ps, h1, h2⟩ := mapM_sizes r h
      refine ⟨(f.offset, n) :: ps, ?_, ?_⟩
      · simp only [List.mapM_cons, Sem.run_bind, sizeAt_run hs, Result.andThen_ok, Sem.run_pure, h1]
      · intro i
        cases i with
        | zero => simp [hs]
        | succ i => simpa using h2 i
    · cases h

theorem buildAV_sound {t : TypeId} {ps : List (Nat × AV)} {vps : Array (Nat × Value)} {r : AV} (h : (buildAV P t ps).Leaf r) (hp : Parts C ρ H w ps vps.toList) :
    ∃ v, (Instr.build t vps).run P w = .ok v w ∧ VR C ρ H w r v := by
  unfold buildAV at h
  split at h
  · rename_i zs hz
    obtain ⟨z, hz1, hz2, hz3⟩ := zeroAVs_sound (C := C) (ρ := ρ) (H := H) (w := w) hz
    split at h
    · rename_i fs hu
      split at h
      · rename_i ha
        split at h
        · rename_i cells hf
          cases h
          obtain ⟨pl, hpl1, hpl2⟩ := mapM_sizes (w := w) fs.toList ha
          have hpl : (fun i : Nat => (pl.toArray : Array (Nat × Nat))[i]?) = placeS P fs := by
            funext i
            unfold placeS
            have := hpl2 i
            rw [Array.getElem?_toList] at this
            simpa using this
          obtain ⟨rs, hr1, hr2, hr3⟩ := fillAV_sound _ _ _ _ _ hf hz2 hz3 hp
          rw [← hpl] at hr1
          refine ⟨.agg ⟨rs⟩, ?_, aggAV_sound hr2 hr3⟩
          have hm : (fs.mapM (fun f => do pure (f.offset, ← sizeOf f.type)) : Sem (Array (Nat × Nat))).run P w = .ok pl.toArray w := by
            rw [Array.mapM_eq_mapM_toList]
            simp only [Sem.run_map]
            rw [hpl1]
            rfl
          simp only [Instr.build, Sem.run_bind, hz1, Result.andThen_ok, run_underlying hu, hm]
          simp only [Array.toArray_toList] at hr1
          rw [hr1]
          rfl
        · cases h
      · cases h
    · rename_i m e hu
      split at h
      · rename_i n hs
        split at h
        · rename_i cells hf
          cases h
          obtain ⟨rs, hr1, hr2, hr3⟩ := fillAV_sound _ _ _ _ _ hf hz2 hz3 hp
          refine ⟨.agg ⟨rs⟩, ?_, aggAV_sound hr2 hr3⟩
          simp only [Instr.build, Sem.run_bind, hz1, Result.andThen_ok, run_underlying hu, sizeAt_run hs]
          simp only [Array.toArray_toList] at hr1
          rw [hr1]
          rfl
        · cases h
      · cases h
    · cases h
  · cases h

theorem vr_len {n : Nat} (h : n ≤ lim) : VR C ρ H w (lenI n) (goInt n) :=
  vr_int (by simp [IntKind.min, IntKind.signed, IntKind.bits]) (by simp only [lim] at h; simp [IntKind.max, IntKind.signed, IntKind.bits]; omega)

theorem lenAV_sound {next : Nat} (hm : MRel C ρ H next w) {t : TypeId} {a r : AV} {v : Value} {ts : Array TypeId} {ty : TypeId} (ht : ts[0]? = some t) (h : (lenAV P t a).Leaf r) (ha : VR C ρ H w a v) :
    ∃ v', (Builtin.len_ ts ty #[v]).run P w = .ok v' w ∧ VR C ρ H w r v' := by
  unfold lenAV at h
  split at h
  · rename_i hu
    split at h
    · cases h
      obtain ⟨e, hl⟩ := str_value ha
      subst e
      exact ⟨_, by simp [Builtin.len_, ht, run_underlying hu]; rfl, vr_len hl⟩
    · cases h
  · rename_i e hu
    split at h
    · rename_i u l
      cases h
      obtain ⟨a', cap, e1, h4, h5, h6⟩ := ha.datum.scalar rfl
      injection e1 with e1 _
      subst e1
      exact ⟨_, by simp [Builtin.len_, ht, run_underlying hu], vr_len h5⟩
    · cases h
      cases ha with
      | own hk hl hc hmx hb hs ha =>
        obtain ⟨_, _, _, _, hlim, _⟩ := hm.ownCells hk hl
        exact ⟨_, by simp [Builtin.len_, ht, run_underlying hu], vr_len hlim⟩
    · cases h
      cases ha with
      | sv hk hn => exact ⟨_, by simp [Builtin.len_, ht, run_underlying hu], vr_len hn⟩
    · cases h
      cases ha
      exact ⟨_, by simp [Builtin.len_, ht, run_underlying hu], vr_len (Nat.zero_le _)⟩
    · cases h
  · rename_i n e hu
    split at h
    · rename_i hn
      cases h
      exact ⟨_, by simp [Builtin.len_, ht, run_underlying hu], vr_len (Nat.le_of_ble_eq_true hn)⟩
    · cases h
  · cases h

theorem capAV_sound {next : Nat} (hm : MRel C ρ H next w) {t : TypeId} {a r : AV} {v : Value} {ts : Array TypeId} {ty : TypeId} (ht : ts[0]? = some t) (h : (capAV P t a).Leaf r) (ha : VR C ρ H w a v) :
    ∃ v', (Builtin.cap_ ts ty #[v]).run P w = .ok v' w ∧ VR C ρ H w r v' := by
  unfold capAV at h
  split at h
  · rename_i e hu
    split at h
    · cases h
      cases ha with
      | ox hk hl hmx hb hs ha =>
        obtain ⟨_, _, _, _, hlim, _⟩ := hm.ownCells hk hl
        exact ⟨_, by simp [Builtin.cap_, ht, run_underlying hu], vr_len hlim⟩
    · cases h
      cases ha
      exact ⟨_, by simp [Builtin.cap_, ht, run_underlying hu], vr_len (Nat.zero_le _)⟩
    · cases h
  · cases h

theorem pickI_range {lo hi : Int} {least : Bool} {x y : Int} (h0 : lo ≤ x) (h1 : x ≤ hi) (h2 : lo ≤ y) (h3 : y ≤ hi) : lo ≤ pickI least x y ∧ pickI least x y ≤ hi := by
  cases least <;> simp only [pickI] <;> split <;> exact ⟨by assumption, by assumption⟩

theorem foldMM_sound {least : Bool} {k : IntKind} : ∀ (l : List AV) (x : Int) (vs : List Value) (r : AV), (foldMM least k x l).Leaf r → k.min ≤ x → x ≤ k.max → VRs C ρ H w l vs →
    ∃ v, (vs.foldlM (if least then Builtin.min2 else Builtin.max2) (.int k x)).run P w = .ok v w ∧ VR C ρ H w r v
  | [], x, vs, r, h, h0, h1, hv => by cases hv; cases h; exact ⟨_, rfl, vr_int h0 h1⟩
  | .d (.int j) y :: l, x, vs, r, h, h0, h1, hv => by
    cases hv with
    | cons hy hvs =>
      simp only [foldMM] at h
      split at h
      · rename_i e
        subst e
        obtain ⟨e1, hy'⟩ := int_value hy
        subst e1
        have hb := pickI_range (least := least) h0 h1 hy'.1 hy'.2
        obtain ⟨v, hv1, hv2⟩ := foldMM_sound l _ _ r h hb.1 hb.2 hvs
        refine ⟨v, ?_, hv2⟩
        rw [List.foldlM_cons]
        cases least
        · simp only [Sem.run_bind, Builtin.max2, Sem.run_pure, Result.andThen_ok, Bool.false_eq_true, if_false] at hv1 ⊢
          exact hv1
        · simp only [Sem.run_bind, Builtin.min2, Sem.run_pure, Result.andThen_ok, if_true] at hv1 ⊢
          exact hv1
      · cases h
  | .d .bool _ :: _, _, _, _, h, _, _, _ | .d .str _ :: _, _, _, _, h, _, _, _ | .d .unit _ :: _, _, _, _, h, _, _, _ | .d (.pair _ _) _ :: _, _, _, _, h, _, _, _ | .d (.arr _ _) _ :: _, _, _, _, h, _, _, _ | .d (.sl _) _ :: _, _, _, _, h, _, _, _
  | .ptr _ _ :: _, _, _, _, h, _, _, _ | .eptr _ _ :: _, _, _, _, h, _, _, _ | .dptr _ _ :: _, _, _, _, h, _, _, _ | .own _ _ _ :: _, _, _, _, h, _, _, _ | .ox _ _ _ :: _, _, _, _, h, _, _, _ | .mp _ :: _, _, _, _, h, _, _, _ | .sv _ _ :: _, _, _, _, h, _, _, _ | .nsl :: _, _, _, _, h, _, _, _ | .fn _ _ _ :: _, _, _, _, h, _, _, _
  | .ag _ :: _, _, _, _, h, _, _, _ | .tup _ :: _, _, _, _, h, _, _, _ | .und :: _, _, _, _, h, _, _, _ | .no :: _, _, _, _, h, _, _, _ => by cases h

theorem mmAV_sound {least : Bool} {l : List AV} {vs : Array Value} {r : AV} {ts : Array TypeId} {ty : TypeId} (h : (mmAV least l).Leaf r) (hv : VRs C ρ H w l vs.toList) :
    ∃ v, ((if least then Builtin.min_ else Builtin.max_) ts ty vs).run P w = .ok v w ∧ VR C ρ H w r v := by
  unfold mmAV at h
  split at h
  · rename_i k x rest
    cases hvs : vs.toList with
    | nil => rw [hvs] at hv; cases hv
    | cons v0 vs0 =>
      rw [hvs] at hv
      cases hv with
      | cons hx hr =>
        obtain ⟨e, hb⟩ := int_value hx
        subst e
        obtain ⟨v, h1, h2⟩ := foldMM_sound (P := P) rest x vs0 r h hb.1 hb.2 hr
        refine ⟨v, ?_, h2⟩
        cases least
        · simpa [Builtin.max_, hvs] using h1
        · simpa [Builtin.min_, hvs] using h1
  · cases h
end

/-- Are two data one? Where '==' may be asked of them. -/
def eqD : (t : Ty) → t.T → t.T → Bool
  | .int _, x, y => eqI x y
  | .bool, x, y => eqB x y
  | .str, x, y => eqS x y
  | .unit, _, _ => true
  | .pair t u, x, y => match eqD t x.1 y.1 with
    | true => eqD u x.2 y.2
    | false => false
  | .arr _ t, x, y => eqL (eqD t) x y
  | .sl _, _, _ => false
where
  eqI (x y : Int) : Bool := x == y
  eqB (x y : Bool) : Bool := x == y
  eqS (x y : List UInt8) : Bool := x == y
  eqL {α : Type} (f : α → α → Bool) : List α → List α → Bool
    | [], [] => true
    | x :: xs, y :: ys => match f x y with
      | true => eqL f xs ys
      | false => false
    | _, _ => false

/-- May a type's data be held against one another by '=='? -/
def okEq (P : Program) : Nat → TypeId → Ty → Bool
  | 0, _, _ => false
  | n + 1, t, v => match P.underlying t with
    | some (.int _) => match v with | .int _ => true | _ => false
    | some .bool => match v with | .bool => true | _ => false
    | some .string => match v with | .str => true | _ => false
    | some (.array m e) => match v with
      | .arr m' u => Nat.beq m m' && isTy P e u && okEq P n e u
      | _ => false
    | some (.struct fs) => !(P.stoodInHeld t) && okFs (okEq P n) fs.toList 0 v
    | _ => false
where okFs (f : TypeId → Ty → Bool) : List Field → Nat → Ty → Bool
  | [], _, v => match v with | .unit => true | _ => false
  | x :: r, off, v => match v with
    | .pair t u => Nat.beq x.offset off && x.name != "_" && isTy P x.type t && f x.type t && okFs f r (off + t.size) u
    | _ => false

/-- '==' and '!=' between structs and arrays. -/
def eqAgg (P : Program) (op : BinOp) (xt : TypeId) (t : Ty) (x : t.T) (u : Ty) (y : u.T) : T AV :=
  match okEq P 20 xt t && !(P.eqGuardType P.depth xt) && t.agg with
  | true => match u.as t y with
    | some y' => match op with
      | .eql => .ok (.d .bool (eqD t x y'))
      | .neq => .ok (.d .bool (!(eqD t x y')))
      | _ => .bad
    | none => .bad
  | false => .bad

/-- Two pointers: are they one? -/
def samePtr (a b : AV) : Option Bool :=
  match a, b with
  | .nilp, .nilp => some true
  | .ptr _ _, .nilp => some false
  | .nilp, .ptr _ _ => some false
  | .ptr k i, .ptr k' i' => match Nat.beq k k' && Nat.beq i i' with
    | true => some true
    | false => none
  | _, _ => none

def eqRes (op : BinOp) (r : Bool) : T AV :=
  match op with
  | .eql => .ok (.d .bool r)
  | .neq => .ok (.d .bool (!r))
  | _ => .bad

def isConst : Operand → Bool
  | .const _ => true
  | _ => false

/-- A slice of data that has elements is not nil. -/
def eqNil (P : Program) (op : BinOp) (xt : TypeId) : (t : Ty) → t.T → T AV
  | .sl u, l => match P.underlying xt with
    | some (.slice _) => .need (0 < List.length (α := u.T) l) (eqRes op false)
    | _ => .bad
  | _, _ => .bad

/-- '==' and '!=' between pointers, and between nil interface values. -/
def eqOther (P : Program) (op : BinOp) (xt : TypeId) (a b : AV) : T AV :=
  match P.underlying xt with
  | some (.pointer e) => match P.info? e with
    | some _ => match samePtr a b with
      | some r => eqRes op r
      | none => .bad
    | none => .bad
  | some (.interface _) => match a, b with
    | .nili, .nili => eqRes op true
    | .nni, .nili => eqRes op false
    | .ifc _ _ _, .nili => eqRes op false
    | _, _ => .bad
  | some (.slice _) => match a, b with
    | .nsl, .nsl => eqRes op true
    | .own _ _ n, .nsl => .need (0 < n) (eqRes op false)
    | .sv _ _, .nsl => eqRes op false
    | _, _ => .bad
  | _ => .bad

def bytesI (l : List UInt8) : List Int := l.map fun b => (b.toNat : Int)
def strOf (l : List Int) : List UInt8 := l.map fun n => UInt8.ofNat n.toNat

def isBytes (P : Program) (t : TypeId) : Bool :=
  match P.underlying t with
  | some (.slice e) => match P.underlying e with
    | some (.int .u8) => true
    | _ => false
  | _ => false

/-- '[]byte' to 'string'. -/
def convStr (P : Program) (H : Heap) (s d : TypeId) (a : AV) : T AV :=
  match isBytes P s, P.underlying d with
  | true, some .string => match toDL H (.sl (.int .u8)) a with
    | some (l : List Int) => .ok (.d .str (strOf l))
    | none => .bad
  | _, _ => .bad

/-- Pointers to unsafe.Pointer, and back. -/
def convPtr (P : Program) (H : Heap) (s d : TypeId) (k off : Nat) : T AV :=
  match H.find k with
  | some (.vars e cells) => match P.underlying s, P.underlying d with
    | some (.pointer t), some .unsafePointer => match P.info? t with
      | some j => match !(Nat.beq j.size 0) && Nat.blt off cells.length with
        | true => .ok (.ptr k off)
        | false => .bad
      | none => .bad
    | some .unsafePointer, some (.pointer u) => match P.info? u with
      | some _ => match liesAt P P.depth e (cells.length / P.cellsOf e) off u 1 with
        | true => .ok (.ptr k off)
        | false => .bad
      | none => .bad
    | _, _ => .bad
  | _ => .bad

def convH (P : Program) (H : Heap) (s d : TypeId) (a : AV) : T AV :=
  match a with
  | .ptr k off => convPtr P H s d k off
  | .own k off len => convStr P H s d (.own k off len)
  | .nsl => convStr P H s d .nsl
  | .d (.sl t) l => convStr P H s d (.d (.sl t) l)
  | a => convAV P s d a

/-- unsafe.SliceData of a slice with elements. -/
def sliceData (a : AV) : T AV :=
  match a with
  | .nsl => .ok .nilp
  | .own k off len => .need (1 ≤ len) (.ok (.eptr k off))
  | _ => .bad

/-- A datum becomes an interface value. -/
def mkIface (P : Program) (k : TypeId) (a : AV) : T AV :=
  match P.underlying k with
  | some (.interface _) => .bad
  | some _ => match a with
    | .d t x => .ok (.ifc k t x)
    | _ => .bad
  | none => .bad

def zeroC (P : Program) (t : TypeId) : Option AV :=
  match P.info? t with
  | some i => match i.zero with
    | some z => some (constAg z)
    | none => none
  | none => none

def assertNo (P : Program) (u : TypeId) (ok : Bool) : T AV :=
  match ok with
  | true => match zeroC P u with
    | some z => .ok (.tup [z, .d .bool false])
    | none => .bad
  | false => .bad

/-- A type assertion for a type that is no interface. -/
def tyAssert (P : Program) (u : TypeId) (ok : Bool) (a : AV) : T AV :=
  match P.underlying u with
  | some (.interface _) => .bad
  | some _ => match a with
    | .ifc k t x => match Nat.beq k u with
      | true => match ok with
        | true => .ok (.tup [.d t x, .d .bool true])
        | false => .ok (.d t x)
      | false => assertNo P u ok
    | .nili => assertNo P u ok
    | _ => .bad
  | none => .bad

/-- What a map has at a key. -/
def findE : List (Int × AV) → Int → Option AV
  | [], _ => none
  | (k, v) :: r, n => match eqD.eqI n k with
    | true => some v
    | false => findE r n

def okAV (ok b : Bool) (v : AV) : AV :=
  match ok with
  | true => .tup [v, .d .bool b]
  | false => v

/-- A look into a map. -/
def lookAV (P : Program) (H : Heap) (t : TypeId) (m i : AV) (ok : Bool) : T AV :=
  match P.underlying t with
  | some (.map kt et) => match P.underlying kt with
    | some (.int k) => match m, i with
      | .mp K, .d (.int k') n => match H.find K with
        | some (.dic k'' l) => match decide (k' = k) && decide (k'' = k) with
          | true => match findE l n with
            | some v => .ok (okAV ok true v)
            | none => match zeroC P et with
              | some z => .ok (okAV ok false z)
              | none => .bad
          | false => .bad
        | _ => .bad
      | _, _ => .bad
    | _ => .bad
  | _ => .bad

/-- All operations that leave memory alone. -/
def evP (P : Program) (H : Heap) (arg : Operand → AV) (o : Oper) : T AV :=
  match o.op with
  | .move x => .ok (arg x)
  | .assign x => .ok (arg x)
  | .pick c a b => match arg c with
    | .d .bool x => pickAV x (arg a) (arg b)
    | _ => .bad
  | .nilCheck x => match arg x with
    | .ptr k i => .ok (.ptr k i)
    | .eptr k i => .ok (.eptr k i)
    | .efp k i f => .ok (.efp k i f)
    | .dptr t y => .ok (.dptr t y)
    | .fn f a b => .ok (.fn f a b)
    | _ => .bad
  | .binOp op xt x y _ => match (arg x).soft with
    | .d t a => match (arg y).soft with
      | .d u b => match t.agg with
        | true => eqAgg P op xt t a u b
        | false => match eqType P t xt with
          | true => binD op t a u b
          | false => .bad
      | .nsl => eqNil P op xt t a
      | _ => .bad
    | .nili => match isConst x || isConst y with
      | true => eqOther P op xt .nili (arg y).soft
      | false => .bad
    | a => eqOther P op xt a (arg y).soft
  | .unOp op _ x => unAV op (arg x)
  | .convert s d x => convH P H s d (arg x).soft
  | .makeFunc (.func f) first caps => .ok (.fn f (first.toList.map arg) (caps.toList.map arg))
  | .fieldAddr s x f => fAddrH P H s (arg x) f
  | .field s x f => fieldAV P s (arg x) f
  | .indexAddr t x i => iAddrAV P H t (arg x).soft (arg i)
  | .index t x i => indexAV P t (arg x) (arg i)
  | .lookup t x i ok => lookAV P H t (arg x) (arg i) ok
  | .slice t x lo hi mx => match (arg x).soft with
    | .own k off len => sliceOwn P H t k off len (lo.map arg) (hi.map arg) (mx.map arg)
    | .ptr k off => sliceArr P t k off (lo.map arg) (hi.map arg) (mx.map arg)
    | a => match mx.map arg with
      | some mx => sliceMx P t a (lo.map arg) (hi.map arg) mx
      | none => sliceAV P t a (lo.map arg) (hi.map arg) none
  | .extract t i => match arg t with
    | .tup l => T.ofO l[i]?
    | _ => .bad
  | .build t ps => buildAV P t (ps.toList.map fun x => (x.1, arg x.2))
  | .makeInterface k x => mkIface P k (arg x)
  | .typeAssert x _ u ok => tyAssert P u ok (arg x)
  | .call { callee := .builtin .len, args, argTypes } => match args.toList with
    | [x] => match argTypes[0]? with
      | some t => lenAV P t (arg x).soft
      | none => .bad
    | _ => .bad
  | .call { callee := .builtin .cap, args, argTypes } => match args.toList with
    | [x] => match argTypes[0]? with
      | some t => capAV P t (arg x)
      | none => .bad
    | _ => .bad
  | .call { callee := .builtin .unsafeSliceData, args, .. } => match args.toList with
    | [x] => sliceData (arg x).soft
    | _ => .bad
  | .call { callee := .builtin .min, args, .. } => mmAV true (args.toList.map arg)
  | .call { callee := .builtin .max, args, .. } => mmAV false (args.toList.map arg)
  | _ => .bad

section
variable {C : Ctx} {ρ : Nat → Nat} {H : Heap} {w : World} {P : Program}

theorem str_beq (x y : List UInt8) : ((⟨⟨x⟩⟩ : ByteArray) == ⟨⟨y⟩⟩) = (x == y) := by
  show ((⟨x⟩ : Array UInt8) == ⟨y⟩) = _
  simp

theorem eqI_spec (ok : Nat → Prop) (d : Nat) (t : TypeId) : ∀ (n : Nat) (v : Ty), okEq P n t v = true → ∀ (x y : v.T) (vx vy : Value), RdV ok w v x vx → RdV ok w v y vy → (Op.equalIn (d + n) t vx vy).run P w = .ok (eqD v x y) w := by
  intro n
  induction n generalizing t with
  | zero => intro v h; cases h
  | succ n ih =>
    intro v h x y vx vy hx hy
    unfold okEq at h
    split at h
    · rename_i k hu
      cases v with
      | int k' =>
        obtain ⟨cs, ⟨rfl, _⟩, hv⟩ := hx
        obtain ⟨ds, ⟨rfl, _⟩, hv'⟩ := hy
        simp only [vOf, Ty.agg, Bool.false_eq_true, if_false, List.cons.injEq, and_true] at hv hv'
        subst hv; subst hv'
        show (Op.equalIn (d + n + 1) t _ _).run P w = _
        simp [Op.equalIn, run_underlying hu, eqD, eqD.eqI]
      | _ => cases h
    · rename_i hu
      cases v with
      | bool =>
        obtain ⟨cs, e1, hv⟩ := hx
        obtain ⟨ds, e2, hv'⟩ := hy
        rw [show cs = _ from e1] at hv
        rw [show ds = _ from e2] at hv'
        simp only [vOf, Ty.agg, Bool.false_eq_true, if_false, List.cons.injEq, and_true] at hv hv'
        subst hv; subst hv'
        show (Op.equalIn (d + n + 1) t _ _).run P w = _
        simp [Op.equalIn, run_underlying hu, eqD, eqD.eqB]
      | _ => cases h
    · rename_i hu
      cases v with
      | str =>
        obtain ⟨cs, ⟨rfl, _⟩, hv⟩ := hx
        obtain ⟨ds, ⟨rfl, _⟩, hv'⟩ := hy
        simp only [vOf, Ty.agg, Bool.false_eq_true, if_false, List.cons.injEq, and_true] at hv hv'
        subst hv; subst hv'
        show (Op.equalIn (d + n + 1) t _ _).run P w = _
        simp only [Op.equalIn, run_underlying hu, Sem.run_bind, Result.andThen_ok, Sem.run_pure, eqD, eqD.eqS]
        congr 1
        exact str_beq _ _
      | _ => cases h
    · rename_i m e hu
      cases v with
      | arr m' u =>
        simp only [Bool.and_eq_true] at h
        obtain ⟨⟨h1, h2⟩, h3⟩ := h
        have h1 := beq_true h1
        subst h1
        obtain ⟨cs, ⟨hl, hr⟩, hv⟩ := hx
        obtain ⟨ds, ⟨hl', hr'⟩, hv'⟩ := hy
        simp only [vOf, Ty.agg, if_true] at hv hv'
        subst hv; subst hv'
        obtain ⟨ha, hsz⟩ := isTy_sound h2
        obtain ⟨i, hi, hin⟩ : ∃ i, P.info? e = some i ∧ i.size = u.size := by
          unfold sizeAt at hsz
          cases hq : P.info? e with
          | none => rw [hq] at hsz; cases hsz
          | some i => rw [hq] at hsz; exact ⟨i, rfl, by simpa using hsz⟩
        have hc : P.cellsOf e = u.size := by simp [Program.cellsOf, hi, hin]
        show (Op.equalIn (d + n + 1) t _ _).run P w = _
        rw [run_equalIn_array w (d + n) _ _ hu hi, hc]
        have key : ∀ (k j : Nat) (x' y' : List u.T), x'.length = k → y'.length = k → RdL (Rd ok w u) x' (cs.drop (j * u.size)) → RdL (Rd ok w u) y' (ds.drop (j * u.size)) → (Op.eqItems (d + n) e u.size ⟨cs⟩ ⟨ds⟩ (List.range' j k)).run P w = .ok (eqD.eqL (eqD u) x' y') w := by
          intro k
          induction k with
          | zero =>
            intro j x' y' hx' hy' _ _
            rw [List.eq_nil_of_length_eq_zero hx', List.eq_nil_of_length_eq_zero hy']
            simp [Op.eqItems, eqD.eqL]
          | succ k ihk =>
            intro j x' y' hx' hy' hrx hry
            match x', y' with
            | x0 :: xs, y0 :: ys =>
              obtain ⟨c1, c2, e1, r1, r2⟩ := hrx
              obtain ⟨d1, d2, e2, s1, s2⟩ := hry
              have hlc := Rd.length _ _ _ r1
              have hld := Rd.length _ _ _ s1
              have hcs : j * u.size + u.size ≤ cs.length ∨ u.size = 0 := by
                by_cases h0 : u.size = 0
                · exact Or.inr h0
                · left
                  have := congrArg List.length e1
                  simp at this; omega
              have hds : j * u.size + u.size ≤ ds.length ∨ u.size = 0 := by
                by_cases h0 : u.size = 0
                · exact Or.inr h0
                · left
                  have := congrArg List.length e2
                  simp at this; omega
              have t1 : (cs.drop (j * u.size)).take u.size = c1 := by rw [e1, ← hlc]; simp
              have t2 : (ds.drop (j * u.size)).take u.size = d1 := by rw [e2, ← hld]; simp
              have n1 : cs.drop ((j + 1) * u.size) = c2 := by rw [Nat.succ_mul, ← List.drop_drop, e1, ← hlc]; simp
              have n2 : ds.drop ((j + 1) * u.size) = d2 := by rw [Nat.succ_mul, ← List.drop_drop, e2, ← hld]; simp
              obtain ⟨v1, p1, q1⟩ := part_dataZ (P := P) (ok := ok) (w := w) (cs := cs) (o := j * u.size) h2 hcs (by rw [t1]; exact r1)
              obtain ⟨v2, p2, q2⟩ := part_dataZ (P := P) (ok := ok) (w := w) (cs := ds) (o := j * u.size) h2 hds (by rw [t2]; exact s1)
              have hq := ih e u h3 x0 y0 v1 v2 q1 q2
              have hrec := ihk (j + 1) xs ys (by simpa using hx') (by simpa using hy') (by rw [n1]; exact r2) (by rw [n2]; exact s2)
              rw [List.range'_succ]
              simp only [Op.eqItems, Sem.run_bind, p1, p2, hq, Result.andThen_ok, eqD.eqL]
              cases hb : eqD u x0 y0 with
              | true => simpa using hrec
              | false => simp
        rw [List.range_eq_range']
        exact key m 0 x y hl hl' (by simpa using hr) (by simpa using hr')
      | _ => cases h
    · rename_i fs hu
      simp only [Bool.and_eq_true, Bool.not_eq_true'] at h
      obtain ⟨hst, hfs⟩ := h
      have hfo : P.fieldsOf t = fs := by simp [Program.fieldsOf, hu]
      have hag : v.agg = true := by
        cases v with
        | unit => rfl
        | pair _ _ => rfl
        | _ => cases hfl : fs.toList <;> rw [hfl] at hfs <;> cases hfs
      obtain ⟨cs, hr, hv⟩ := hx
      obtain ⟨ds, hr', hv'⟩ := hy
      unfold vOf at hv hv'
      rw [if_pos hag] at hv hv'
      subst hv; subst hv'
      show (Op.equalIn (d + n + 1) t _ _).run P w = _
      rw [run_equalIn_struct w (d + n) t _ _ (by rw [hfo]; exact hu) hst, hfo]
      have key : ∀ (l : List Field) (off : Nat) (u : Ty) (x' y' : u.T), okEq.okFs P (okEq P n) l off u = true → Rd ok w u x' (cs.drop off) → Rd ok w u y' (ds.drop off) → (Op.eqFields (d + n) ⟨cs⟩ ⟨ds⟩ l).run P w = .ok (eqD u x' y') w := by
        intro l
        induction l with
        | nil =>
          intro off u x' y' hu' _ _
          cases u with
          | unit => simp [Op.eqFields, eqD]
          | _ => cases hu'
        | cons f r ihl =>
          intro off u x' y' hu' hrx hry
          cases u with
          | pair t1 u1 =>
            simp only [okEq.okFs, Bool.and_eq_true, bne_iff_ne, ne_eq] at hu'
            obtain ⟨⟨⟨⟨h1, h2⟩, h3⟩, h4⟩, h5⟩ := hu'
            have h1 := beq_true h1
            obtain ⟨c1, c2, e1, r1, r2⟩ := hrx
            obtain ⟨d1, d2, e2, s1, s2⟩ := hry
            have hlc := Rd.length _ _ _ r1
            have hld := Rd.length _ _ _ s1
            have t1' : (cs.drop off).take t1.size = c1 := by rw [e1, ← hlc]; simp
            have t2' : (ds.drop off).take t1.size = d1 := by rw [e2, ← hld]; simp
            have n1 : cs.drop (off + t1.size) = c2 := by rw [← List.drop_drop, e1, ← hlc]; simp
            have n2 : ds.drop (off + t1.size) = d2 := by rw [← List.drop_drop, e2, ← hld]; simp
            have hcs : off + t1.size ≤ cs.length ∨ t1.size = 0 := by
              by_cases h0 : t1.size = 0
              · exact Or.inr h0
              · left
                have := congrArg List.length e1
                simp at this; omega
            have hds : off + t1.size ≤ ds.length ∨ t1.size = 0 := by
              by_cases h0 : t1.size = 0
              · exact Or.inr h0
              · left
                have := congrArg List.length e2
                simp at this; omega
            obtain ⟨v1, p1, q1⟩ := part_dataZ (P := P) (ok := ok) (w := w) (cs := cs) (o := off) h3 hcs (by rw [t1']; exact r1)
            obtain ⟨v2, p2, q2⟩ := part_dataZ (P := P) (ok := ok) (w := w) (cs := ds) (o := off) h3 hds (by rw [t2']; exact s1)
            have hq := ih f.type t1 h4 x'.1 y'.1 v1 v2 q1 q2
            have hrec := ihl (off + t1.size) u1 x'.2 y'.2 h5 (by rw [n1]; exact r2) (by rw [n2]; exact s2)
            rw [← h1] at p1 p2
            simp only [Op.eqFields, h2, ne_eq, not_false_eq_true, if_true, Sem.run_bind, p1, p2, hq, Result.andThen_ok, eqD]
            cases hb : eqD t1 x'.1 y'.1 with
            | true => simpa using hrec
            | false => simp
          | _ => cases hu'
      exact key fs.toList 0 v x y hfs (by simpa using hr) (by simpa using hr')
    · cases h

theorem eqAgg_sound {op : BinOp} {xt : TypeId} {t u : Ty} {x : t.T} {y : u.T} {r : AV} {vx vy : Value} (a b : Operand) (h : (eqAgg P op xt t x u y).Leaf r) (hx : VR C ρ H w (.d t x) vx) (hy : VR C ρ H w (.d u y) vy) :
    (eqGuard op xt a b vx vy).run P w = .ok () w ∧ ∃ v, (binOp op xt vx vy).run P w = .ok v w ∧ VR C ρ H w r v := by
  unfold eqAgg at h
  split at h
  · rename_i hc
    simp only [Bool.and_eq_true, Bool.not_eq_true'] at hc
    obtain ⟨⟨h1, h2⟩, h3⟩ := hc
    split at h
    · rename_i y' hy'
      have hdx := hx.datum
      have hdy := VR.as hy hy'
      have heq : (Op.equal xt vx vy).run P w = .ok (eqD t x y') w := eqI_spec (P := P) (w := w) _ 9980 xt 20 t h1 x y' vx vy hdx hdy
      obtain ⟨cs, _, hv⟩ := hdx
      obtain ⟨ds, _, hv'⟩ := hdy
      unfold vOf at hv hv'
      rw [if_pos h3] at hv hv'
      subst hv; subst hv'
      have hg : (eqGuard op xt a b (.agg ⟨cs⟩) (.agg ⟨ds⟩)).run P w = .ok () w := by
        cases op <;> simp [eqGuard, h2]
      refine ⟨hg, ?_⟩
      cases op <;> first | (cases h; done) | skip
      · cases h; exact ⟨.bool (eqD t x y'), by simp [binOp, heq], vr_bool⟩
      · cases h; exact ⟨.bool (!(eqD t x y')), by simp [binOp, heq], vr_bool⟩
    · cases h
  · cases h

theorem eqRes_sound {op : BinOp} {xt : TypeId} {b : Bool} {r : AV} {vx vy : Value} (h : (eqRes op b).Leaf r) (heq : (Op.equal xt vx vy).run P w = .ok b w)
    (hn : (binOp .eql xt vx vy) = (do pure (.bool (← Op.equal xt vx vy))) ∧ (binOp .neq xt vx vy) = (do pure (.bool (!(← Op.equal xt vx vy))))) : ∃ v, (binOp op xt vx vy).run P w = .ok v w ∧ VR C ρ H w r v := by
  cases op <;> first | (cases h; done) | skip
  · cases h; exact ⟨.bool b, by rw [hn.1]; simp [heq], vr_bool⟩
  · cases h; exact ⟨.bool (!b), by rw [hn.2]; simp [heq], vr_bool⟩

theorem eq_nil_ptr {xt e : TypeId} (hu : P.underlying xt = some (.pointer e)) (q : Option Addr) : (Op.equal xt (.pointer none) (.pointer q)).run P w = .ok q.isNone w := by
  have h : ∀ d, (Op.equalIn (d + 1) xt (.pointer none) (.pointer q)).run P w = .ok q.isNone w := fun d => by simp [Op.equalIn, run_underlying hu]
  exact h 9999
theorem eq_ptr_nil {xt e : TypeId} (hu : P.underlying xt = some (.pointer e)) (a : Addr) : (Op.equal xt (.pointer (some a)) (.pointer none)).run P w = .ok false w := by
  have h : ∀ d, (Op.equalIn (d + 1) xt (.pointer (some a)) (.pointer none)).run P w = .ok false w := fun d => by simp [Op.equalIn, run_underlying hu]
  exact h 9999
theorem eq_ptr_same {xt e : TypeId} {i : TypeInfo} (hu : P.underlying xt = some (.pointer e)) (hi : P.info? e = some i) (a : Addr) : (Op.equal xt (.pointer (some a)) (.pointer (some a))).run P w = .ok true w := by
  have h : ∀ d, (Op.equalIn (d + 1) xt (.pointer (some a)) (.pointer (some a))).run P w = .ok true w := fun d => by simp [Op.equalIn, run_underlying hu, sizeOf, typeInfo, hi, run_sameAddr_same]
  exact h 9999
theorem eq_nil_if {xt : TypeId} {ms : Array (String × TypeId)} (hu : P.underlying xt = some (.interface ms)) : (Op.equal xt .nilIface .nilIface).run P w = .ok true w := by
  have h : ∀ d, (Op.equalIn (d + 1) xt .nilIface .nilIface).run P w = .ok true w := fun d => by simp [Op.equalIn, run_underlying hu]
  exact h 9999

theorem eq_if_nil {xt : TypeId} {ms : Array (String × TypeId)} (hu : P.underlying xt = some (.interface ms)) (u : TypeId) (p : Value) : (Op.equal xt (.iface u p) .nilIface).run P w = .ok false w := by
  have h : ∀ d, (Op.equalIn (d + 1) xt (.iface u p) .nilIface).run P w = .ok false w := fun d => by simp [Op.equalIn, run_underlying hu]
  exact h 9999

theorem eq_sl_nil {xt e : TypeId} (hu : P.underlying xt = some (.slice e)) (a : Addr) (n c : Nat) : (Op.equal xt (.slice (some a) n c) (.slice none 0 0)).run P w = .ok false w := by
  have h : ∀ d, (Op.equalIn (d + 1) xt (.slice (some a) n c) (.slice none 0 0)).run P w = .ok false w := fun d => by simp [Op.equalIn, run_underlying hu]
  exact h 9999
theorem eq_nil_nil {xt e : TypeId} (hu : P.underlying xt = some (.slice e)) : (Op.equal xt (.slice none 0 0) (.slice none 0 0)).run P w = .ok true w := by
  have h : ∀ d, (Op.equalIn (d + 1) xt (.slice none 0 0) (.slice none 0 0)).run P w = .ok true w := fun d => by simp [Op.equalIn, run_underlying hu]
  exact h 9999

theorem eqNil_sound {op : BinOp} {xt : TypeId} {t : Ty} {x : t.T} {r : AV} {vx vy : Value} (ox oy : Operand) (h : (eqNil P op xt t x).Leaf r) (hx : VR C ρ H w (.d t x) vx) (hy : VR C ρ H w .nsl vy) :
    (eqGuard op xt ox oy vx vy).run P w = .ok () w ∧ ∃ v, (binOp op xt vx vy).run P w = .ok v w ∧ VR C ρ H w r v := by
  cases t <;> first | (cases h; done) | skip
  rename_i u
  simp only [eqNil] at h
  split at h
  · rename_i e hu
    cases h with
    | need hp h =>
      obtain ⟨a', cap, e1, h4, h5, h6⟩ := hx.datum.scalar rfl
      injection e1 with e1 _
      subst e1
      have hne : x ≠ [] := fun e => by subst e; exact absurd hp (by simp)
      obtain ⟨b, o, c, e', fr, ha', _⟩ := h6.resolve_left hne
      subst ha'
      cases hy
      exact ⟨by cases op <;> simp [eqGuard], eqRes_sound h (eq_sl_nil hu _ _ _) ⟨rfl, rfl⟩⟩
  · cases h

theorem eqOther_sound {op : BinOp} {xt : TypeId} {a b r : AV} {vx vy : Value} (ox oy : Operand) (hco : isConst ox = true ∨ isConst oy = true ∨ a ≠ .nili) (h : (eqOther P op xt a b).Leaf r) (hx : VR C ρ H w a vx) (hy : VR C ρ H w b vy) :
    (eqGuard op xt ox oy vx vy).run P w = .ok () w ∧ ∃ v, (binOp op xt vx vy).run P w = .ok v w ∧ VR C ρ H w r v := by
  unfold eqOther at h
  split at h
  · rename_i e hu
    split at h
    · rename_i i hi
      split at h
      · rename_i c hc
        unfold samePtr at hc
        have fin : ∀ (p q : Option Addr), vx = .pointer p → vy = .pointer q → (Op.equal xt (.pointer p) (.pointer q)).run P w = .ok c w → (eqGuard op xt ox oy vx vy).run P w = .ok () w ∧ ∃ v, (binOp op xt vx vy).run P w = .ok v w ∧ VR C ρ H w r v := by
          intro p q e1 e2 heq
          subst e1; subst e2
          refine ⟨by cases op <;> simp [eqGuard], eqRes_sound h heq ⟨rfl, rfl⟩⟩
        split at hc
        · injection hc with hc; subst hc; cases hx; cases hy
          exact fin none none rfl rfl (eq_nil_ptr hu none)
        · injection hc with hc; subst hc; cases hx; cases hy
          exact fin _ none rfl rfl (eq_ptr_nil hu _)
        · injection hc with hc; subst hc; cases hx; cases hy
          exact fin none _ rfl rfl (eq_nil_ptr hu (some _))
        · split at hc
          · rename_i hb
            injection hc with hc; subst hc
            simp only [Bool.and_eq_true] at hb
            have e1 := beq_true hb.1
            have e2 := beq_true hb.2
            subst e1; subst e2
            cases hx; cases hy
            exact fin _ _ rfl rfl (eq_ptr_same hu hi _)
          · cases hc
        · cases hc
      · cases h
    · cases h
  · rename_i ms hu
    split at h
    · cases hx; cases hy
      refine ⟨?_, eqRes_sound h (eq_nil_if hu) ⟨rfl, rfl⟩⟩
      rcases hco with hco | hco | hco
      · cases ox <;> first | (cases hco; done) | (cases op <;> simp [eqGuard])
      · cases oy <;> first | (cases hco; done) | (cases op <;> simp [eqGuard])
      · exact absurd rfl hco
    · cases hx; cases hy
      exact ⟨by cases op <;> simp [eqGuard], eqRes_sound h (eq_if_nil hu _ _) ⟨rfl, rfl⟩⟩
    · cases hx; cases hy
      exact ⟨by cases op <;> simp [eqGuard], eqRes_sound h (eq_if_nil hu _ _) ⟨rfl, rfl⟩⟩
    · cases h
  · rename_i e hu
    split at h
    · cases hx; cases hy
      exact ⟨by cases op <;> simp [eqGuard], eqRes_sound h (eq_nil_nil hu) ⟨rfl, rfl⟩⟩
    · cases h with
      | need hp h =>
        cases hy
        cases hx with
        | own hk hl hc hmx hb hs ha =>
          have ha' := ha.resolve_right (fun h => by omega)
          subst ha'
          exact ⟨by cases op <;> simp [eqGuard], eqRes_sound h (eq_sl_nil hu _ _ _) ⟨rfl, rfl⟩⟩
    · cases hx; cases hy
      exact ⟨by cases op <;> simp [eqGuard], eqRes_sound h (eq_sl_nil hu _ _ _) ⟨rfl, rfl⟩⟩
    · cases h
  · cases h

theorem strOf_fold : ∀ (ns : List Int) (l : List UInt8), (ns.foldl (fun r n => r.push (UInt8.ofNat n.toNat)) (⟨⟨l⟩⟩ : ByteArray)) = ⟨⟨l ++ strOf ns⟩⟩
  | [], l => by simp [strOf]
  | n :: ns, l => by
    rw [List.foldl_cons, show (⟨⟨l⟩⟩ : ByteArray).push (UInt8.ofNat n.toNat) = ⟨⟨l ++ [UInt8.ofNat n.toNat]⟩⟩ by simp [ByteArray.push], strOf_fold ns]
    simp [strOf]

theorem rdl_u8 {ok : Nat → Prop} : ∀ (l : List Int) (cs : List Value), RdL (Rd ok w (.int .u8)) l cs → cs = l.map (Value.int .u8)
  | [], cs, h => h
  | x :: xs, cs, ⟨c1, c2, e, ⟨h1, _⟩, h2⟩ => by rw [e, h1, rdl_u8 xs c2 h2]; rfl

/-- A slice of bytes, read. -/
theorem rd_bytes {ok : Nat → Prop} {l : List Int} {v : Value} (h : RdV ok w (.sl (.int .u8)) l v) :
    ∃ a cap, v = .slice a l.length cap ∧ l.length ≤ cap ∧ l.length ≤ lim ∧ (l = [] ∨ ∃ b o, a = some ⟨b, o, none⟩ ∧ ∀ j y, (l.map (Value.int .u8))[j]? = some y → w.cell? ((⟨b, o, none⟩ : Addr).add j) = some y) := by
  obtain ⟨cs, ⟨ad, cap, e1, h1, h2, h3⟩, hv⟩ := h
  have hv' : cs = [v] := hv
  rw [e1] at hv'
  injection hv' with hv' _
  refine ⟨ad, cap, hv'.symm, h1, h2, ?_⟩
  rcases h3 with h3 | ⟨b, o, c, e', fr, hab, _, hblk, hsz, hr⟩
  · exact Or.inl h3
  · refine Or.inr ⟨b, o, hab, fun j y hj => ?_⟩
    have hcs := rdl_u8 _ _ hr
    have hjl : j < l.length := by have := (List.getElem?_eq_some_iff.1 hj).1; simpa using this
    have hsz' : o + l.length * 1 ≤ c.size := hsz
    have hcs' : (c.toList.drop o).take (l.length * 1) = l.map (Value.int .u8) := hcs
    rw [← hcs', List.getElem?_take, if_pos (by omega), List.getElem?_drop, Array.getElem?_toList] at hj
    rw [add_mk]
    simp [World.cell?, hblk, hj]

theorem bytes_conv {s d e : TypeId} (hs : P.underlying s = some (.slice e)) (he : P.underlying e = some (.int .u8)) (hd : P.underlying d = some .string) {ok : Nat → Prop} {l : List Int} {v : Value} (h : RdV ok w (.sl (.int .u8)) l v) :
    (convert s d v).run P w = .ok (.string ⟨⟨strOf l⟩⟩) w ∧ l.length ≤ lim := by
  obtain ⟨a, cap, rfl, _, h2, h3⟩ := rd_bytes h
  refine ⟨?_, h2⟩
  rw [run_convert_bytes_string w s d e _ _ _ hs he hd]
  have hfold := strOf_fold l []
  have hemp : (ByteArray.empty) = (⟨⟨[]⟩⟩ : ByteArray) := rfl
  rcases h3 with rfl | ⟨b, o, rfl, hc⟩
  · cases a with
    | none => simp [Conv.bytesToString, strOf]; rfl
    | some ad => rw [run_bytesToString (P := P) w ad _ cap [] (by simpa using run_loadCells_list (P := P) w ad [] (by intro j v hj; cases hj)), hemp, hfold]; rfl
  · rw [run_bytesToString w _ _ _ l (by simpa using run_loadCells_list (P := P) w ⟨b, o, none⟩ (l.map (Value.int .u8)) hc), hemp, hfold]
    rfl

theorem convStr_sound {H0 : Heap} (hsub : ∀ x ∈ H0, x ∈ H) {next : Nat} (hm : MRel C ρ H next w) {s d : TypeId} {a r : AV} {v : Value} (h : (convStr P H0 s d a).Leaf r) (ha : VR C ρ H w a v) :
    ∃ v', (convert s d v).run P w = .ok v' w ∧ VR C ρ H w r v' := by
  unfold convStr at h
  split at h
  · rename_i hb hd
    unfold isBytes at hb
    split at hb
    · rename_i e hs
      split at hb
      · rename_i he
        split at h
        · rename_i l hl
          cases h
          obtain ⟨h1, h2⟩ := bytes_conv (P := P) hs he hd (toDL_sound hsub hm hl ha)
          exact ⟨_, h1, vr_str (by unfold strOf; rw [List.length_map]; exact h2)⟩
        · cases h
      · cases hb
    · cases hb
  · cases h

theorem convPtr_sound {H0 : Heap} (hsub : ∀ x ∈ H0, x ∈ H) {next : Nat} (hm : MRel C ρ H next w) {s d : TypeId} {k off : Nat} {r : AV} {v : Value} (h : (convPtr P H0 s d k off).Leaf r) (ha : VR C ρ H w (.ptr k off) v) :
    ∃ v', (convert s d v).run P w = .ok v' w ∧ VR C ρ H w r v' := by
  unfold convPtr at h
  split at h
  · rename_i e cells hf
    obtain ⟨c, h1, h2, h3⟩ := hm.mem k _ (hsub _ (Heap.find_mem hf))
    have hl : cells.length = c.size := by rw [h2.length]; simp
    have hsh : w.shape? (ρ k) = some (e, c.size) := by simp [World.shape?, h1]
    have ha' := ha
    cases ha with
    | ptr hk =>
      split at h
      · rename_i t hs hd
        split at h
        · rename_i j hj
          split at h
          · rename_i hc
            cases h
            simp only [Bool.and_eq_true, Bool.not_eq_true'] at hc
            exact ⟨_, Lib.run_to_unsafe w ⟨ρ k, off, none⟩ hs hd hj (fun e0 => by have := beq_false hc.1; exact this e0) hsh (by have := Nat.le_of_ble_eq_true hc.2; show off < c.size; omega), ha'⟩
          · cases h
        · cases h
      · rename_i u hs hd
        split at h
        · rename_i j hj
          split at h
          · rename_i hc
            cases h
            exact ⟨_, Lib.run_from_unsafe w ⟨ρ k, off, none⟩ hs hd hj hsh (by rw [← hl]; exact hc), ha'⟩
          · cases h
        · cases h
      · cases h
  · cases h

theorem convH_sound {H0 : Heap} (hsub : ∀ x ∈ H0, x ∈ H) {next : Nat} (hm : MRel C ρ H next w) {s d : TypeId} {a r : AV} {v : Value} (h : (convH P H0 s d a).Leaf r) (ha : VR C ρ H w a v) :
    ∃ v', (convert s d v).run P w = .ok v' w ∧ VR C ρ H w r v' := by
  unfold convH at h
  split at h
  · exact convPtr_sound hsub hm h ha
  · exact convStr_sound hsub hm h ha
  · exact convStr_sound hsub hm h ha
  · exact convStr_sound hsub hm h ha
  · exact convAV_sound h ha

theorem sliceData_sound {a r : AV} {v : Value} {ts : Array TypeId} {ty : TypeId} (h : (sliceData a).Leaf r) (ha : VR C ρ H w a v) :
    ∃ v', (Builtin.unsafeSliceData_ ts ty #[v]).run P w = .ok v' w ∧ VR C ρ H w r v' := by
  unfold sliceData at h
  split at h
  · cases h; cases ha; exact ⟨_, Lib.run_unsafeSliceData_nil w ts ty 0 0, .nilp⟩
  · cases h with
    | need hp h =>
      cases h
      cases ha with
      | own hk hl hc hmx hb hs hor =>
        have ha' := hor.resolve_right (fun h => by omega)
        subst ha'
        exact ⟨_, Lib.run_unsafeSliceData_row w ts ty _ _ _ (by omega), .eptr hk (by omega)⟩
  · cases h

theorem VRs.ofMap {arg : Operand → AV} {val : Operand → Value} (hv : ∀ x, VR C ρ H w (arg x) (val x)) : ∀ l : List Operand, VRs C ρ H w (l.map arg) (l.map val)
  | [] => .nil
  | x :: l => .cons (hv x) (VRs.ofMap hv l)

theorem OVR.ofMap {arg : Operand → AV} {val : Operand → Value} (hv : ∀ x, VR C ρ H w (arg x) (val x)) (o : Option Operand) : OVR C ρ H w (o.map arg) (o.map val) := by
  cases o with
  | none => trivial
  | some x => exact hv x

theorem Parts.ofMap {arg : Operand → AV} {val : Operand → Value} (hv : ∀ x, VR C ρ H w (arg x) (val x)) : ∀ l : List (Nat × Operand), Parts C ρ H w (l.map fun x => (x.1, arg x.2)) (l.map fun x => (x.1, val x.2))
  | [] => .nil
  | x :: l => .cons (hv x.2) (Parts.ofMap hv l)

theorem mkIface_sound {k : TypeId} {a r : AV} {v : Value} (h : (mkIface P k a).Leaf r) (ha : VR C ρ H w a v) : ∃ v', (Instr.makeInterface k v).run P w = .ok v' w ∧ VR C ρ H w r v' := by
  unfold mkIface at h
  split at h
  · cases h
  · rename_i ty hne hu
    split at h
    · cases h
      cases ha with
      | d hr =>
        refine ⟨.iface k v, ?_, .ifc hr⟩
        simp only [Instr.makeInterface, Sem.run_bind, run_underlying hu, Result.andThen_ok]
        cases ty <;> first | rfl | exact absurd hu (hne _)
    · cases h
  · cases h

theorem zeroC_sound {t : TypeId} {z : AV} (h : zeroC P t = some z) : ∃ v, (zeroValue t).run P w = .ok v w ∧ VR C ρ H w z v := by
  unfold zeroC at h
  split at h
  · rename_i i hi
    split at h
    · rename_i z hz
      injection h with h; subst h
      exact ⟨z, by simp [zeroValue, typeInfo, hi, hz], constAg_sound _⟩
    · cases h
  · cases h

theorem assertNo_sound {u : TypeId} {ok : Bool} {r : AV} (h : (assertNo P u ok).Leaf r) : ok = true ∧ ∃ z, (zeroValue u).run P w = .ok z w ∧ VR C ρ H w r (.tuple #[z, .bool false]) := by
  unfold assertNo at h
  split at h
  · split at h
    · rename_i z hz
      cases h
      obtain ⟨v, h1, h2⟩ := zeroC_sound (C := C) (ρ := ρ) (H := H) (w := w) hz
      exact ⟨rfl, v, h1, .tup (.cons h2 (.cons vr_bool .nil))⟩
    · cases h
  · cases h

theorem tyAssert_sound {xt u : TypeId} {ok : Bool} {a r : AV} {v : Value} (h : (tyAssert P u ok a).Leaf r) (ha : VR C ρ H w a v) : ∃ v', (Instr.typeAssert v xt u ok).run P w = .ok v' w ∧ VR C ρ H w r v' := by
  unfold tyAssert at h
  split at h
  · cases h
  · rename_i ty hne hu
    split at h
    · rename_i k t x
      cases ha with
      | @ifc _ _ _ v hr =>
        split at h
        · rename_i hb
          have hb := beq_true hb
          subst hb
          split at h
          · cases h
            refine ⟨.tuple #[v, .bool true], ?_, .tup (.cons (.d hr) (.cons vr_bool .nil))⟩
            simp only [Instr.typeAssert, Sem.run_bind, run_underlying hu, Result.andThen_ok]
            cases ty <;> first | (exact absurd hu (hne _)) | simp
          · cases h
            refine ⟨v, ?_, .d hr⟩
            simp only [Instr.typeAssert, Sem.run_bind, run_underlying hu, Result.andThen_ok]
            cases ty <;> first | (exact absurd hu (hne _)) | simp
        · rename_i hb
          have hb : ¬ k = u := fun e => by subst e; rw [Nat.beq_refl] at hb; cases hb
          obtain ⟨rfl, z, h1, h2⟩ := assertNo_sound (C := C) (ρ := ρ) (H := H) (w := w) h
          refine ⟨_, ?_, h2⟩
          simp only [Instr.typeAssert, Sem.run_bind, run_underlying hu, Result.andThen_ok]
          cases ty <;> first | (exact absurd hu (hne _)) | simp [hb, h1]
    · cases ha
      obtain ⟨rfl, z, h1, h2⟩ := assertNo_sound (C := C) (ρ := ρ) (H := H) (w := w) h
      refine ⟨_, ?_, h2⟩
      simp only [Instr.typeAssert, Sem.run_bind, run_underlying hu, Result.andThen_ok]
      cases ty <;> first | (exact absurd hu (hne _)) | simp [h1]
    · cases h
  · cases h

theorem dic_find {R : AV → Value → Prop} {k : IntKind} {n : Int} : ∀ {l : List (Int × AV)} {es : List MapEntry} (i : Nat), MapR R k l es →
    (∃ v j u, findE l n = some v ∧ Instr.findNow (.int k) (.int k n) es i = some (some (j, u)) ∧ R v u) ∨ findE l n = none ∧ Instr.findNow (.int k) (.int k n) es i = some none
  | [], [], _, _ => Or.inr ⟨rfl, rfl⟩
  | x :: l, e :: es, i, ⟨h1, h2, h3⟩ => by
    have ih := dic_find (n := n) (i + 1) h3
    have hs : Instr.sameNow (.int k) (.int k n) e.key = some (n == x.1) := by rw [h1]; simp [Instr.sameNow]
    simp only [findE, Instr.findNow, hs]
    show (∃ v j u, (match n == x.1 with | true => some x.2 | false => findE l n) = some v ∧ _ ∧ _) ∨ _
    cases hb : n == x.1 with
    | true => exact Or.inl ⟨_, _, _, rfl, rfl, h2⟩
    | false =>
      rcases ih with ⟨v, j, u, g1, g2, g3⟩ | ⟨g1, g2⟩
      · exact Or.inl ⟨v, j, u, g1, g2, g3⟩
      · refine Or.inr ⟨?_, g2⟩
        show (match n == x.1 with | true => some x.2 | false => findE l n) = none
        rw [hb]
        exact g1
  | [], _ :: _, _, h => h.elim
  | _ :: _, [], _, h => h.elim

theorem okAV_sound {ok b : Bool} {v : AV} {u : Value} (h : VR C ρ H w v u) : VR C ρ H w (okAV ok b v) (if ok then .tuple #[u, .bool b] else u) := by
  cases ok
  · exact h
  · exact .tup (.cons h (.cons vr_bool .nil))

theorem lookAV_sound {H0 : Heap} (hsub : ∀ x ∈ H0, x ∈ H) {next : Nat} (hm : MRel C ρ H next w) {t : TypeId} {m i r : AV} {ok : Bool} {vm vi : Value} (h : (lookAV P H0 t m i ok).Leaf r) (hvm : VR C ρ H w m vm) (hvi : VR C ρ H w i vi) :
    ∃ v, (Instr.lookup t vm vi ok).run P w = .ok v w ∧ VR C ρ H w r v := by
  unfold lookAV at h
  split at h
  case h_2 => cases h
  rename_i kt et hu
  split at h
  case h_2 => cases h
  rename_i k hk
  split at h
  case h_2 => cases h
  rename_i K k' n
  split at h
  case h_2 => cases h
  rename_i k'' l hf
  split at h
  case h_2 => cases h
  rename_i hc
  rw [Bool.and_eq_true] at hc
  have e1 := of_decide_eq_true hc.1
  have e2 := of_decide_eq_true hc.2
  subst e1; subst e2
  cases hvm with
  | mp hkk =>
    obtain ⟨es, c, hb, hR⟩ := hm.mem _ _ (hsub _ (Heap.find_mem hf))
    cases hvi with
    | d hvi =>
      obtain ⟨cs, ⟨rfl, _⟩, hv'⟩ := hvi
      have hv' : [_] = [vi] := hv'
      injection hv' with hv' _
      subst hv'
      have hkey : MapKept.IsKey (.int k'') (.int k'' n) := rfl
      rcases dic_find (n := n) 0 hR with ⟨v, j, u, g1, g2, g3⟩ | ⟨g1, g2⟩
      · rw [g1] at h
        cases h
        exact ⟨_, by simp [Instr.lookup, run_underlying hu, MapKept.run_getObj_map hb, MapKept.run_checkKey hk hkey, MapKept.run_findKey hk g2], okAV_sound g3⟩
      · rw [g1] at h
        simp only at h
        split at h
        · rename_i z hz
          cases h
          obtain ⟨u, q1, q2⟩ := zeroC_sound (C := C) (ρ := ρ) (H := H) (w := w) hz
          exact ⟨_, by simp [Instr.lookup, run_underlying hu, MapKept.run_getObj_map hb, MapKept.run_checkKey hk hkey, MapKept.run_findKey hk g2, q1], okAV_sound q2⟩
        · cases h

theorem evP_sound {H0 : Heap} (hsub : ∀ x ∈ H0, x ∈ H) {next : Nat} (hm : MRel C ρ H next w) {arg : Operand → AV} {val : Operand → Value} {o : Oper} {r : AV} (h : (evP P H0 arg o).Leaf r)
    (hv : ∀ x, VR C ρ H w (arg x) (val x)) : ∃ v, (execOp val o).run P w = .ok (.value v) w ∧ VR C ρ H w r v := by
  unfold evP at h
  split at h
  · rename_i x ho; cases h; exact ⟨val x, by simp [execOp, ho], hv x⟩
  · rename_i x ho; cases h; exact ⟨val x, by simp [execOp, ho], hv x⟩
  · rename_i c a b ho
    split at h
    · rename_i x hx
      have := hv c
      rw [hx] at this
      have e := bool_value this
      exact ⟨_, by simp [execOp, ho, e, asBool]; rfl, pickAV_sound h (hv a) (hv b)⟩
    · cases h
  · rename_i x ho
    have hx := hv x
    have key : ∀ v, v = val x → ((∃ ad, v = Value.pointer (some ad)) ∨ ∃ f a b, v = Value.func (.func f) a b) → ∃ v, (execOp val o).run P w = .ok (.value v) w ∧ VR C ρ H w (arg x) v := by
      rintro v e (⟨ad, e'⟩ | ⟨f, a, b, e'⟩)
      · exact ⟨v, by simp [execOp, ho, ← e, e'], e ▸ hx⟩
      · exact ⟨v, by simp [execOp, ho, ← e, e'], e ▸ hx⟩
    generalize hvx : val x = v at hx
    split at h <;> rename_i hr
    · cases h; rw [← hr]; refine key v hvx.symm ?_; rw [hr] at hx; cases hx; exact Or.inl ⟨_, rfl⟩
    · cases h; rw [← hr]; refine key v hvx.symm ?_; rw [hr] at hx; cases hx; exact Or.inl ⟨_, rfl⟩
    · cases h; rw [← hr]; refine key v hvx.symm ?_; rw [hr] at hx; cases hx; exact Or.inl ⟨_, rfl⟩
    · cases h; rw [← hr]; refine key v hvx.symm ?_; rw [hr] at hx; cases hx; exact Or.inl ⟨_, rfl⟩
    · cases h; rw [← hr]; refine key v hvx.symm ?_; rw [hr] at hx; cases hx; exact Or.inr ⟨_, _, _, rfl⟩
    · cases h
  · rename_i op xt x y yt ho
    have hx := (hv x).soft
    have hy := (hv y).soft
    split at h
    · rename_i t a ha
      rw [ha] at hx
      split at h
      · rename_i u b hb
        rw [hb] at hy
        split at h
        · obtain ⟨h0, v, h1, h2⟩ := eqAgg_sound (P := P) x y h hx hy
          exact ⟨v, by simp [execOp, ho, h0, h1], h2⟩
        · split at h
          · rename_i he
            obtain ⟨hag, v, h1, h2⟩ := binD_sound (P := P) h he hx hy
            exact ⟨v, by simp [execOp, ho, eqGuard_scalar (P := P) (op := op) (xt := xt) (vy := val y) x y hag hx, h1], h2⟩
          · cases h
      · rename_i hb
        rw [hb] at hy
        obtain ⟨h0, v, h1, h2⟩ := eqNil_sound (P := P) x y h hx hy
        exact ⟨v, by simp [execOp, ho, h0, h1], h2⟩
      · cases h
    · rename_i ha
      rw [ha] at hx
      split at h
      · rename_i hc
        obtain ⟨h0, v, h1, h2⟩ := eqOther_sound (P := P) x y (by
          rw [Bool.or_eq_true] at hc
          rcases hc with hc | hc
          · exact Or.inl hc
          · exact Or.inr (Or.inl hc)) h hx hy
        exact ⟨v, by simp [execOp, ho, h0, h1], h2⟩
      · cases h
    · rename_i hn1 hn2
      obtain ⟨h0, v, h1, h2⟩ := eqOther_sound (P := P) x y (Or.inr (Or.inr (fun e => hn2 e))) h hx hy
      exact ⟨v, by simp [execOp, ho, h0, h1], h2⟩
  · rename_i op t x ho
    obtain ⟨v, h1, h2⟩ := unAV_sound (P := P) h (hv x)
    exact ⟨v, by simp [execOp, ho, h1], h2⟩
  · rename_i s d x ho
    obtain ⟨v, h1, h2⟩ := convH_sound hsub hm h (hv x).soft
    exact ⟨v, by simp [execOp, ho, h1], h2⟩
  · rename_i f first caps ho
    cases h
    refine ⟨.func (.func f) (first.map val) (caps.map val), by simp [execOp, ho, Instr.makeFunc], ?_⟩
    have e1 : first.map val = ⟨first.toList.map val⟩ := by apply Array.ext'; simp
    have e2 : caps.map val = ⟨caps.toList.map val⟩ := by apply Array.ext'; simp
    rw [e1, e2]
    exact .fn (VRs.ofMap hv _) (VRs.ofMap hv _)
  · rename_i s x f ho
    obtain ⟨v, h1, h2⟩ := fAddrH_sound hsub hm h (hv x)
    exact ⟨v, by simp [execOp, ho, h1], h2⟩
  · rename_i s x f ho
    obtain ⟨v, h1, h2⟩ := fieldAV_sound h (hv x)
    exact ⟨v, by simp [execOp, ho, h1], h2⟩
  · rename_i t x i ho
    obtain ⟨v, h1, h2⟩ := iAddrAV_sound hsub hm h (hv x).soft (hv i)
    exact ⟨v, by simp [execOp, ho, h1], h2⟩
  · rename_i t x i ho
    obtain ⟨v, h1, h2⟩ := indexAV_sound h (hv x) (hv i)
    exact ⟨v, by simp [execOp, ho, h1], h2⟩
  · rename_i t x i ok ho
    obtain ⟨v, h1, h2⟩ := lookAV_sound hsub hm h (hv x) (hv i)
    exact ⟨v, by simp [execOp, ho, h1], h2⟩
  · rename_i t x lo hi mx ho
    have hx := (hv x).soft
    split at h
    · rename_i k off len ha
      rw [ha] at hx
      obtain ⟨v, h1, h2⟩ := sliceOwn_sound hsub hm h hx (OVR.ofMap hv hi) (OVR.ofMap hv lo) (OVR.ofMap hv mx)
      exact ⟨v, by simp [execOp, ho, h1], h2⟩
    · rename_i k off ha
      rw [ha] at hx
      obtain ⟨v, h1, h2⟩ := sliceArr_sound h hx (OVR.ofMap hv hi) (OVR.ofMap hv lo) (OVR.ofMap hv mx)
      exact ⟨v, by simp [execOp, ho, h1], h2⟩
    · cases mx with
      | some mx' =>
        simp only [Option.map_some] at h
        obtain ⟨v, h1, h2⟩ := sliceMx_sound h hx (OVR.ofMap hv hi) (OVR.ofMap hv lo) (hv mx')
        exact ⟨v, by simp [execOp, ho, h1], h2⟩
      | none =>
        simp only [Option.map_none] at h
        obtain ⟨v, h1, h2⟩ := sliceAV_sound (vmx := none) h hx (OVR.ofMap hv hi) (OVR.ofMap hv lo) trivial
        exact ⟨v, by simp [execOp, ho, h1], h2⟩
  · rename_i t i ho
    have ht := hv t
    generalize hvt : val t = v at ht
    split at h
    · rename_i l ha
      rw [ha] at ht
      have h := T.Leaf.ofO h
      cases ht with
      | tup hl =>
        obtain ⟨u, hu1, hu2⟩ := hl.get h
        exact ⟨u, by simp [execOp, ho, hvt, Instr.extract, hu1], hu2⟩
    · cases h
  · rename_i t ps ho
    obtain ⟨v, h1, h2⟩ := buildAV_sound (vps := ps.map fun x => (x.1, val x.2)) h (by simpa using Parts.ofMap hv ps.toList)
    exact ⟨v, by simp [execOp, ho, h1], h2⟩
  · rename_i k x ho
    obtain ⟨v, h1, h2⟩ := mkIface_sound h (hv x)
    exact ⟨v, by simp [execOp, ho, h1], h2⟩
  · rename_i x xt u ok ho
    obtain ⟨v, h1, h2⟩ := tyAssert_sound (xt := xt) h (hv x)
    exact ⟨v, by simp [execOp, ho, h1], h2⟩
  · rename_i args ts ho
    split at h
    · rename_i x hx
      split at h
      · rename_i t ht
        obtain ⟨v, h1, h2⟩ := lenAV_sound hm (ty := o.type) ht h (hv x).soft
        have e : args.map val = #[val x] := by apply Array.ext'; simp [hx]
        exact ⟨v, by simp [execOp, ho, resolve, invoke, builtin, e, h1], h2⟩
      · cases h
    · cases h
  · rename_i args ts ho
    split at h
    · rename_i x hx
      split at h
      · rename_i t ht
        obtain ⟨v, h1, h2⟩ := capAV_sound hm (ty := o.type) ht h (hv x)
        have e : args.map val = #[val x] := by apply Array.ext'; simp [hx]
        exact ⟨v, by simp [execOp, ho, resolve, invoke, builtin, e, h1], h2⟩
      · cases h
    · cases h
  · rename_i args ts ho
    split at h
    · rename_i x hx
      obtain ⟨v, h1, h2⟩ := sliceData_sound (P := P) (ts := ts) (ty := o.type) h (hv x).soft
      have e : args.map val = #[val x] := by apply Array.ext'; simp [hx]
      exact ⟨v, by simp [execOp, ho, resolve, invoke, builtin, e, h1], h2⟩
    · cases h
  · rename_i args ts ho
    obtain ⟨v, h1, h2⟩ := mmAV_sound (P := P) (vs := args.map val) (ts := ts) (ty := o.type) h (by simpa using VRs.ofMap hv args.toList)
    exact ⟨v, by simp only [if_true] at h1; simp [execOp, ho, resolve, invoke, builtin, h1], h2⟩
  · rename_i args ts ho
    obtain ⟨v, h1, h2⟩ := mmAV_sound (P := P) (vs := args.map val) (ts := ts) (ty := o.type) h (by simpa using VRs.ofMap hv args.toList)
    exact ⟨v, by simp only [Bool.false_eq_true, if_false] at h1; simp [execOp, ho, resolve, invoke, builtin, h1], h2⟩
  · cases h
end
end Go.Vg
