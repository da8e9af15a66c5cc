/-
  The engine, parts J K L M. Own work; no condition.
-/
import Derived.Test.YtbfajgbedclfeaaGreatDoorEA
import Derived.Lib.Builder
import Derived.Lib.UnsafeStr
import Derived.Laws.BytesString
import Derived.DeepKeys
import Derived.MapKept
import Derived.Laws.OwnMore
import Derived.Laws.IdiomStrings
import Derived.Laws.Append
namespace Go.Vg
open Go Go.RowKit

def placeS (P : Program) (fs : Array Field) (i : Nat) : Option (Nat × Nat) :=
  match fs[i]? with
  | some f => match sizeAt P f.type with
    | some n => some (f.offset, n)
    | none => none
  | none => none

def allSizes (P : Program) : List Field → Bool
  | [] => true
  | f :: r => match sizeAt P f.type with
    | some _ => allSizes P r
    | none => false

def zeroAVs (P : Program) (t : TypeId) : Option (List AV) :=
  match P.info? t with
  | some i => match i.zero with
    | some z => match allOne z.cells.toList with
      | true => some (constAVs z.cells.toList)
      | false => none
    | none => none
  | none => none

def buildAV (P : Program) (t : TypeId) (ps : List (Nat × AV)) : T AV :=
  match zeroAVs P t with
  | some zs => match P.underlying t with
    | some (.struct fs) => match allSizes P fs.toList with
      | true => match fillAV (placeS P fs) zs ps with
        | some cells => .ok (aggAV P t cells)
        | none => .bad
      | false => .bad
    | some (.array _ e) => match sizeAt P e with
      | some n => match fillAV (fun i => some (i * n, n)) zs ps with
        | some cells => .ok (aggAV P t cells)
        | none => .bad
      | none => .bad
    | _ => .bad
  | none => .bad

def lenI (n : Nat) : AV := .d (.int .i64) (n : Int)

def lenAV (P : Program) (t : TypeId) (a : AV) : T AV :=
  match P.underlying t with
  | some .string => match a with
    | .d .str l => .ok (lenI l.length)
    | _ => .bad
  | some (.slice _) => match a with
    | .d (.sl _) l => .ok (lenI l.length)
    | .own _ _ n => .ok (lenI n)
    | .sv _ _ n _ => .ok (lenI n)
    | .nsl => .ok (lenI 0)
    | _ => .bad
  | some (.array n _) => match Nat.ble n lim with
    | true => .ok (lenI n)
    | false => .bad
  | _ => .bad

def capAV (P : Program) (t : TypeId) (a : AV) : T AV :=
  match P.underlying t with
  | some (.slice _) => match a with
    | .ox _ _ n => .ok (lenI n)
    | .nsl => .ok (lenI 0)
    | _ => .bad
  | _ => .bad

def pickI (least : Bool) (x y : Int) : Int :=
  match least with
  | true => if y < x then y else x
  | false => if y > x then y else x

def foldMM (least : Bool) (k : IntKind) : Int → List AV → T AV
  | x, [] => .ok (.d (.int k) x)
  | x, .d (.int j) y :: r => if j = k then foldMM least k (pickI least x y) r else .bad
  | _, _ :: _ => .bad

def mmAV (least : Bool) (l : List AV) : T AV :=
  match l with
  | .d (.int k) x :: r => foldMM least k x r
  | _ => .bad

section
variable {C : Ctx} {ρ : Nat → Nat} {H : Heap} {w : World} {P : Program}

theorem zeroAVs_sound {t : TypeId} {zs : List AV} (h : zeroAVs P t = some zs) : ∃ z, (zeroValue t).run P w = .ok z w ∧ VRs C ρ H w zs z.cells.toList ∧ ∀ v ∈ z.cells.toList, v.oneCell' = true := by
  unfold zeroAVs at h
  split at h
  · rename_i i hi
    split at h
    · rename_i z hz
      split at h
      · rename_i ho
        injection h with h; subst h
        exact ⟨z, by simp [zeroValue, typeInfo, hi, hz], constAVs_sound _, allOne_sound ho⟩
      · cases h
    · cases h
  · cases h

theorem mapM_sizes : ∀ (l : List Field), allSizes P l = true → ∃ ps : List (Nat × Nat), (l.mapM (fun f => do pure (f.offset, ← sizeOf f.type)) : Sem (List (Nat × Nat))).run P w = .ok ps w ∧
    ∀ i : Nat, ps[i]? = (match l[i]? with | some f => (match sizeAt P f.type with | some n => some (f.offset, n) | none => none) | none => none)
  | [], _ => ⟨[], rfl, by simp⟩
  | f :: r, h => by
    simp only [allSizes] at h
    split at h
    · rename_i n hs
      obtain ⟨ps, h1, h2⟩ := mapM_sizes r h
      refine ⟨(f.offset, n) :: ps, ?_, ?_⟩
      · simp only [List.mapM_cons, Sem.run_bind, sizeAt_run hs, Result.andThen_ok, Sem.run_pure, h1]
      · intro i
        cases i with
        | zero => simp [hs]
        | succ i => simpa using h2 i
    · cases h

theorem buildAV_sound {t : TypeId} {ps : List (Nat × AV)} {vps : Array (Nat × Value)} {r : AV} (h : (buildAV P t ps).Leaf r) (hp : Parts C ρ H w ps vps.toList) :
    ∃ v, (Instr.build t vps).run P w = .ok v w ∧ VR C ρ H w r v := by
  unfold buildAV at h
  split at h
  · rename_i zs hz
    obtain ⟨z, hz1, hz2, hz3⟩ := zeroAVs_sound (C := C) (ρ := ρ) (H := H) (w := w) hz
    split at h
    · rename_i fs hu
      split at h
      · rename_i ha
        split at h
        · rename_i cells hf
          cases h
          obtain ⟨pl, hpl1, hpl2⟩ := mapM_sizes (w := w) fs.toList ha
          have hpl : (fun i : Nat => (pl.toArray : Array (Nat × Nat))[i]?) = placeS P fs := by
            funext i
            unfold placeS
            have := hpl2 i
            rw [Array.getElem?_toList] at this
            simpa using this
          obtain ⟨rs, hr1, hr2, hr3⟩ := fillAV_sound _ _ _ _ _ hf hz2 hz3 hp
          rw [← hpl] at hr1
          refine ⟨.agg ⟨rs⟩, ?_, aggAV_sound hr2 hr3⟩
          have hm : (fs.mapM (fun f => do pure (f.offset, ← sizeOf f.type)) : Sem (Array (Nat × Nat))).run P w = .ok pl.toArray w := by
            rw [Array.mapM_eq_mapM_toList]
            simp only [Sem.run_map]
            rw [hpl1]
            rfl
          simp only [Instr.build, Sem.run_bind, hz1, Result.andThen_ok, run_underlying hu, hm]
          simp only [Array.toArray_toList] at hr1
          rw [hr1]
          rfl
        · cases h
      · cases h
    · rename_i m e hu
      split at h
      · rename_i n hs
        split at h
        · rename_i cells hf
          cases h
          obtain ⟨rs, hr1, hr2, hr3⟩ := fillAV_sound _ _ _ _ _ hf hz2 hz3 hp
          refine ⟨.agg ⟨rs⟩, ?_, aggAV_sound hr2 hr3⟩
          simp only [Instr.build, Sem.run_bind, hz1, Result.andThen_ok, run_underlying hu, sizeAt_run hs]
          simp only [Array.toArray_toList] at hr1
          rw [hr1]
          rfl
        · cases h
      · cases h
    · cases h
  · cases h

theorem vr_len {n : Nat} (h : n ≤ lim) : VR C ρ H w (lenI n) (goInt n) :=
  vr_int (by simp [IntKind.min, IntKind.signed, IntKind.bits]) (by simp only [lim] at h; simp [IntKind.max, IntKind.signed, IntKind.bits]; omega)

theorem lenAV_sound {next : Nat} (hm : MRel C ρ H next w) {t : TypeId} {a r : AV} {v : Value} {ts : Array TypeId} {ty : TypeId} (ht : ts[0]? = some t) (h : (lenAV P t a).Leaf r) (ha : VR C ρ H w a v) :
    ∃ v', (Builtin.len_ ts ty #[v]).run P w = .ok v' w ∧ VR C ρ H w r v' := by
  unfold lenAV at h
  split at h
  · rename_i hu
    split at h
    · cases h
      obtain ⟨e, hl⟩ := str_value ha
      subst e
      exact ⟨_, by simp [Builtin.len_, ht, run_underlying hu]; rfl, vr_len hl⟩
    · cases h
  · rename_i e hu
    split at h
    · rename_i u l
      cases h
      obtain ⟨a', cap, e1, h4, h5, h6⟩ := ha.datum.scalar rfl
      injection e1 with e1 _
      subst e1
      exact ⟨_, by simp [Builtin.len_, ht, run_underlying hu], vr_len h5⟩
    · cases h
      cases ha with
      | own hk hl hc hmx hb hs ha =>
        obtain ⟨_, _, _, _, hlim, _⟩ := hm.ownCells hk hl
        exact ⟨_, by simp [Builtin.len_, ht, run_underlying hu], vr_len hlim⟩
    · cases h
      cases ha with
      | sv hk hn _ => exact ⟨_, by simp [Builtin.len_, ht, run_underlying hu], vr_len hn⟩
    · cases h
      cases ha
      exact ⟨_, by simp [Builtin.len_, ht, run_underlying hu], vr_len (Nat.zero_le _)⟩
    · cases h
  · rename_i n e hu
    split at h
    · rename_i hn
      cases h
      exact ⟨_, by simp [Builtin.len_, ht, run_underlying hu], vr_len (Nat.le_of_ble_eq_true hn)⟩
    · cases h
  · cases h

theorem capAV_sound {next : Nat} (hm : MRel C ρ H next w) {t : TypeId} {a r : AV} {v : Value} {ts : Array TypeId} {ty : TypeId} (ht : ts[0]? = some t) (h : (capAV P t a).Leaf r) (ha : VR C ρ H w a v) :
    ∃ v', (Builtin.cap_ ts ty #[v]).run P w = .ok v' w ∧ VR C ρ H w r v' := by
  unfold capAV at h
  split at h
  · rename_i e hu
    split at h
    · cases h
      cases ha with
      | ox hk hl hmx hb hs ha =>
        obtain ⟨_, _, _, _, hlim, _⟩ := hm.ownCells hk hl
        exact ⟨_, by simp [Builtin.cap_, ht, run_underlying hu], vr_len hlim⟩
    · cases h
      cases ha
      exact ⟨_, by simp [Builtin.cap_, ht, run_underlying hu], vr_len (Nat.zero_le _)⟩
    · cases h
  · cases h

theorem pickI_range {lo hi : Int} {least : Bool} {x y : Int} (h0 : lo ≤ x) (h1 : x ≤ hi) (h2 : lo ≤ y) (h3 : y ≤ hi) : lo ≤ pickI least x y ∧ pickI least x y ≤ hi := by
  cases least <;> simp only [pickI] <;> split <;> exact ⟨by assumption, by assumption⟩

theorem foldMM_sound {least : Bool} {k : IntKind} : ∀ (l : List AV) (x : Int) (vs : List Value) (r : AV), (foldMM least k x l).Leaf r → k.min ≤ x → x ≤ k.max → VRs C ρ H w l vs →
    ∃ v, (vs.foldlM (if least then Builtin.min2 else Builtin.max2) (.int k x)).run P w = .ok v w ∧ VR C ρ H w r v
  | [], x, vs, r, h, h0, h1, hv => by cases hv; cases h; exact ⟨_, rfl, vr_int h0 h1⟩
  | .d (.int j) y :: l, x, vs, r, h, h0, h1, hv => by
    cases hv with
    | cons hy hvs =>
      simp only [foldMM] at h
      split at h
      · rename_i e
        subst e
        obtain ⟨e1, hy'⟩ := int_value hy
        subst e1
        have hb := pickI_range (least := least) h0 h1 hy'.1 hy'.2
        obtain ⟨v, hv1, hv2⟩ := foldMM_sound l _ _ r h hb.1 hb.2 hvs
        refine ⟨v, ?_, hv2⟩
        rw [List.foldlM_cons]
        cases least
        · simp only [Sem.run_bind, Builtin.max2, Sem.run_pure, Result.andThen_ok, Bool.false_eq_true, if_false] at hv1 ⊢
          exact hv1
        · simp only [Sem.run_bind, Builtin.min2, Sem.run_pure, Result.andThen_ok, if_true] at hv1 ⊢
          exact hv1
      · cases h
  | .d .bool _ :: _, _, _, _, h, _, _, _ | .d .str _ :: _, _, _, _, h, _, _, _ | .d .unit _ :: _, _, _, _, h, _, _, _ | .d (.pair _ _) _ :: _, _, _, _, h, _, _, _ | .d (.arr _ _) _ :: _, _, _, _, h, _, _, _ | .d (.sl _) _ :: _, _, _, _, h, _, _, _
  | .ptr _ _ :: _, _, _, _, h, _, _, _ | .eptr _ _ :: _, _, _, _, h, _, _, _ | .dptr _ _ :: _, _, _, _, h, _, _, _ | .own _ _ _ :: _, _, _, _, h, _, _, _ | .ox _ _ _ :: _, _, _, _, h, _, _, _ | .mp _ :: _, _, _, _, h, _, _, _ | .sv _ _ _ _ :: _, _, _, _, h, _, _, _ | .nsl :: _, _, _, _, h, _, _, _ | .fn _ _ _ :: _, _, _, _, h, _, _, _
  | .ag _ :: _, _, _, _, h, _, _, _ | .tup _ :: _, _, _, _, h, _, _, _ | .und :: _, _, _, _, h, _, _, _ | .no :: _, _, _, _, h, _, _, _ => by cases h

theorem mmAV_sound {least : Bool} {l : List AV} {vs : Array Value} {r : AV} {ts : Array TypeId} {ty : TypeId} (h : (mmAV least l).Leaf r) (hv : VRs C ρ H w l vs.toList) :
    ∃ v, ((if least then Builtin.min_ else Builtin.max_) ts ty vs).run P w = .ok v w ∧ VR C ρ H w r v := by
  unfold mmAV at h
  split at h
  · rename_i k x rest
    cases hvs : vs.toList with
    | nil => rw [hvs] at hv; cases hv
    | cons v0 vs0 =>
      rw [hvs] at hv
      cases hv with
      | cons hx hr =>
        obtain ⟨e, hb⟩ := int_value hx
        subst e
        obtain ⟨v, h1, h2⟩ := foldMM_sound (P := P) rest x vs0 r h hb.1 hb.2 hr
        refine ⟨v, ?_, h2⟩
        cases least
        · simpa [Builtin.max_, hvs] using h1
        · simpa [Builtin.min_, hvs] using h1
  · cases h
end

/-- Are two data one? Where '==' may be asked of them. -/
def eqD : (t : Ty) → t.T → t.T → Bool
  | .int _, x, y => eqI x y
  | .bool, x, y => eqB x y
  | .str, x, y => eqS x y
  | .unit, _, _ => true
  | .pair t u, x, y => match eqD t x.1 y.1 with
    | true => eqD u x.2 y.2
    | false => false
  | .arr _ t, x, y => eqL (eqD t) x y
  | .sl _, _, _ => false
where
  eqI (x y : Int) : Bool := x == y
  eqB (x y : Bool) : Bool := x == y
  eqS (x y : List UInt8) : Bool := x == y
  eqL {α : Type} (f : α → α → Bool) : List α → List α → Bool
    | [], [] => true
    | x :: xs, y :: ys => match f x y with
      | true => eqL f xs ys
      | false => false
    | _, _ => false

/-- May a type's data be held against one another by '=='? -/
def okEq (P : Program) : Nat → TypeId → Ty → Bool
  | 0, _, _ => false
  | n + 1, t, v => match P.underlying t with
    | some (.int _) => match v with | .int _ => true | _ => false
    | some .bool => match v with | .bool => true | _ => false
    | some .string => match v with | .str => true | _ => false
    | some (.array m e) => match v with
      | .arr m' u => Nat.beq m m' && isTy P e u && okEq P n e u
      | _ => false
    | some (.struct fs) => !(P.stoodInHeld t) && okFs (okEq P n) fs.toList 0 v
    | _ => false
where okFs (f : TypeId → Ty → Bool) : List Field → Nat → Ty → Bool
  | [], _, v => match v with | .unit => true | _ => false
  | x :: r, off, v => match v with
    | .pair t u => Nat.beq x.offset off && x.name != "_" && isTy P x.type t && f x.type t && okFs f r (off + t.size) u
    | _ => false

/-- '==' and '!=' between structs and arrays. -/
def eqAgg (P : Program) (op : BinOp) (xt : TypeId) (t : Ty) (x : t.T) (u : Ty) (y : u.T) : T AV :=
  match okEq P 20 xt t && !(P.eqGuardType P.depth xt) && t.agg with
  | true => match u.as t y with
    | some y' => match op with
      | .eql => .ok (.d .bool (eqD t x y'))
      | .neq => .ok (.d .bool (!(eqD t x y')))
      | _ => .bad
    | none => .bad
  | false => .bad

/-- Two pointers: are they one? -/
def samePtr (a b : AV) : Option Bool :=
  match a, b with
  | .nilp, .nilp => some true
  | .ptr _ _, .nilp => some false
  | .nilp, .ptr _ _ => some false
  | .ptr k i, .ptr k' i' => match Nat.beq k k' && Nat.beq i i' with
    | true => some true
    | false => none
  | _, _ => none

def eqRes (op : BinOp) (r : Bool) : T AV :=
  match op with
  | .eql => .ok (.d .bool r)
  | .neq => .ok (.d .bool (!r))
  | _ => .bad

def isConst : Operand → Bool
  | .const _ => true
  | _ => false

/-- A slice of data that has elements is not nil. -/
def eqNil (P : Program) (op : BinOp) (xt : TypeId) : (t : Ty) → t.T → T AV
  | .sl u, l => match P.underlying xt with
    | some (.slice _) => .need (0 < List.length (α := u.T) l) (eqRes op false)
    | _ => .bad
  | _, _ => .bad

/-- '==' and '!=' between pointers, and between nil interface values. -/
def eqOther (P : Program) (op : BinOp) (xt : TypeId) (a b : AV) : T AV :=
  match P.underlying xt with
  | some (.pointer e) => match P.info? e with
    | some _ => match samePtr a b with
      | some r => eqRes op r
      | none => .bad
    | none => .bad
  | some (.interface _) => match a, b with
    | .nili, .nili => eqRes op true
    | .nni, .nili => eqRes op false
    | .ifc _ _ _, .nili => eqRes op false
    | _, _ => .bad
  | some (.slice _) => match a, b with
    | .nsl, .nsl => eqRes op true
    | .own _ _ n, .nsl => .need (0 < n) (eqRes op false)
    | .sv _ _ _ _, .nsl => eqRes op false
    | _, _ => .bad
  | _ => .bad

def bytesI (l : List UInt8) : List Int := l.map fun b => (b.toNat : Int)
def strOf (l : List Int) : List UInt8 := l.map fun n => UInt8.ofNat n.toNat

def isBytes (P : Program) (t : TypeId) : Bool :=
  match P.underlying t with
  | some (.slice e) => match P.underlying e with
    | some (.int .u8) => true
    | _ => false
  | _ => false

/-- '[]byte' to 'string'. -/
def convStr (P : Program) (H : Heap) (s d : TypeId) (a : AV) : T AV :=
  match isBytes P s, P.underlying d with
  | true, some .string => match toDL H (.sl (.int .u8)) a with
    | some (l : List Int) => .ok (.d .str (strOf l))
    | none => .bad
  | _, _ => .bad

/-- Pointers to unsafe.Pointer, and back. -/
def convPtr (P : Program) (H : Heap) (s d : TypeId) (k off : Nat) : T AV :=
  match H.find k with
  | some (.vars e cells) => match P.underlying s, P.underlying d with
    | some (.pointer t), some .unsafePointer => match P.info? t with
      | some j => match !(Nat.beq j.size 0) && Nat.blt off cells.length with
        | true => .ok (.ptr k off)
        | false => .bad
      | none => .bad
    | some .unsafePointer, some (.pointer u) => match P.info? u with
      | some _ => match liesAt P P.depth e (cells.length / P.cellsOf e) off u 1 with
        | true => .ok (.ptr k off)
        | false => .bad
      | none => .bad
    | _, _ => .bad
  | _ => .bad

def convH (P : Program) (H : Heap) (s d : TypeId) (a : AV) : T AV :=
  match a with
  | .ptr k off => convPtr P H s d k off
  | .own k off len => convStr P H s d (.own k off len)
  | .nsl => convStr P H s d .nsl
  | .d (.sl t) l => convStr P H s d (.d (.sl t) l)
  | a => convAV P s d a

/-- unsafe.SliceData of a slice with elements. -/
def sliceData (a : AV) : T AV :=
  match a with
  | .nsl => .ok .nilp
  | .own k off len => .need (1 ≤ len) (.ok (.eptr k off))
  | _ => .bad

/-- The address of the first elements of one of the call's own rows, as that of an array. -/
def arrPtr (P : Program) (arr : TypeId) (a : AV) : T AV :=
  match a with
  | .own k off len => match P.underlying arr with
    | some (.array n _) => .need (1 ≤ len ∧ n ≤ len) (.ok (.eptr k off))
    | _ => .bad
  | _ => .bad

/-- A datum becomes an interface value. -/
def mkIface (P : Program) (k : TypeId) (a : AV) : T AV :=
  match P.underlying k with
  | some (.interface _) => .bad
  | some _ => match a with
    | .d t x => .ok (.ifc k t x)
    | _ => .bad
  | none => .bad

def zeroC (P : Program) (t : TypeId) : Option AV :=
  match P.info? t with
  | some i => match i.zero with
    | some z => some (constAg z)
    | none => none
  | none => none

def assertNo (P : Program) (u : TypeId) (ok : Bool) : T AV :=
  match ok with
  | true => match zeroC P u with
    | some z => .ok (.tup [z, .d .bool false])
    | none => .bad
  | false => .bad

/-- A type assertion for a type that is no interface. -/
def tyAssert (P : Program) (u : TypeId) (ok : Bool) (a : AV) : T AV :=
  match P.underlying u with
  | some (.interface _) => .bad
  | some _ => match a with
    | .ifc k t x => match Nat.beq k u with
      | true => match ok with
        | true => .ok (.tup [.d t x, .d .bool true])
        | false => .ok (.d t x)
      | false => assertNo P u ok
    | .nili => assertNo P u ok
    | _ => .bad
  | none => .bad

/-- The same key? -/
def eqK : DK → DK → Bool
  | .i a, .i b => eqD.eqI a b
  | .s a, .s b => eqD .str a b
  | .p a b, .p a' b' => eqD.eqI a a' && eqD.eqI b b'
  | _, _ => false
theorem eqK_eq : ∀ {a b : DK}, eqK a b = true → a = b
  | .i _, .i _, h => congrArg DK.i (eq_of_beq h)
  | .s _, .s _, h => congrArg DK.s (eq_of_beq h)
  | .p _ _, .p _ _, h => by
    have h := Bool.and_eq_true_iff.1 h
    rw [show _ = _ from eq_of_beq h.1, show _ = _ from eq_of_beq h.2]
  | .i _, .s _, h | .i _, .p _ _, h | .s _, .i _, h | .s _, .p _ _, h | .p _ _, .i _, h | .p _ _, .s _, h => by cases h
/-- A value as a key. -/
def dkOf : KK → AV → Option DK
  | .int k, .d (.int k') n => match decide (k' = k) with
    | true => some (.i n)
    | false => none
  | .str, .d .str l => some (.s l)
  | .two _ k, .d (.arr _ (.int k')) l => match decide (k' = k), l with
    | true, [a, b] => some (.p a b)
    | _, _ => none
  | .two _ k, .ag [.d (.int k1) a, .d (.int k2) b] => match decide (k1 = k), decide (k2 = k) with
    | true, true => some (.p a b)
    | _, _ => none
  | _, _ => none

def findE : List (DK × AV) → DK → Option AV
  | [], _ => none
  | (k, v) :: r, n => match eqK n k with
    | true => some v
    | false => findE r n

def okAV (ok b : Bool) (v : AV) : AV :=
  match ok with
  | true => .tup [v, .d .bool b]
  | false => v

/-- A look into a map. -/
def lookAV (P : Program) (H : Heap) (t : TypeId) (m i : AV) (ok : Bool) : T AV :=
  match P.underlying t with
  | some (.map kt et) => match kkAt P kt with
    | some k => match m, dkOf k i with
      | .mp K, some n => match H.find K with
        | some (.dic k'' l) => match decide (k'' = k) with
          | true => match findE l n with
            | some v => .ok (okAV ok true v)
            | none => match zeroC P et with
              | some z => .ok (okAV ok false z)
              | none => .bad
          | false => .bad
        | _ => .bad
      | _, _ => .bad
    | none => .bad
  | _ => .bad

/-- All operations that leave memory alone. -/
def evP (P : Program) (H : Heap) (arg : Operand → AV) (o : Oper) : T AV :=
  match o.op with
  | .move x => .ok (arg x)
  | .assign x => .ok (arg x)
  | .pick c a b => match arg c with
    | .d .bool x => pickAV x (arg a) (arg b)
    | _ => .bad
  | .nilCheck x => match arg x with
    | .ptr k i => .ok (.ptr k i)
    | .eptr k i => .ok (.eptr k i)
    | .efp k i f => .ok (.efp k i f)
    | .dptr t y => .ok (.dptr t y)
    | .fn f a b => .ok (.fn f a b)
    | _ => .bad
  | .binOp op xt x y _ => match (arg x).soft with
    | .d t a => match (arg y).soft with
      | .d u b => match t.agg with
        | true => eqAgg P op xt t a u b
        | false => match eqType P t xt with
          | true => binD op t a u b
          | false => .bad
      | .nsl => eqNil P op xt t a
      | _ => .bad
    | .nili => match isConst x || isConst y with
      | true => eqOther P op xt .nili (arg y).soft
      | false => .bad
    | a => eqOther P op xt a (arg y).soft
  | .unOp op _ x => unAV op (arg x)
  | .convert s d x => convH P H s d (arg x).soft
  | .makeFunc (.func f) first caps => .ok (.fn f (first.toList.map arg) (caps.toList.map arg))
  | .fieldAddr s x f => fAddrH P H s (arg x) f
  | .field s x f => fieldAV P s (arg x) f
  | .indexAddr t x i => iAddrAV P H t (arg x).soft (arg i)
  | .index t x i => indexAV P t (arg x) (arg i)
  | .lookup t x i ok => lookAV P H t (arg x) (arg i) ok
  | .slice t x lo hi mx => match oxOf (arg x) (hi.map arg) (mx.map arg) with
    | some (k, off, len) => sliceOx P H t k off len (lo.map arg)
    | none => match (arg x).soft with
      | .own k off len => sliceOwn P H t k off len (lo.map arg) (hi.map arg) (mx.map arg)
      | .ptr k off => sliceArr P t k off (lo.map arg) (hi.map arg) (mx.map arg)
      | a => match mx.map arg with
        | some mx => sliceMx P t a (lo.map arg) (hi.map arg) mx
        | none => sliceAV P t a (lo.map arg) (hi.map arg) none
  | .extract t i => match arg t with
    | .tup l => T.ofO l[i]?
    | _ => .bad
  | .build t ps => buildAV P t (ps.toList.map fun x => (x.1, arg x.2))
  | .makeInterface k x => mkIface P k (arg x)
  | .typeAssert x _ u ok => tyAssert P u ok (arg x)
  | .sliceToArrayPointer t x => arrPtr P t (arg x).soft
  | .call { callee := .builtin .len, args, argTypes } => match args.toList with
    | [x] => match argTypes[0]? with
      | some t => lenAV P t (arg x).soft
      | none => .bad
    | _ => .bad
  | .call { callee := .builtin .cap, args, argTypes } => match args.toList with
    | [x] => match argTypes[0]? with
      | some t => capAV P t (arg x)
      | none => .bad
    | _ => .bad
  | .call { callee := .builtin .unsafeSliceData, args, .. } => match args.toList with
    | [x] => sliceData (arg x).soft
    | _ => .bad
  | .call { callee := .builtin .min, args, .. } => mmAV true (args.toList.map arg)
  | .call { callee := .builtin .max, args, .. } => mmAV false (args.toList.map arg)
  | _ => .bad

section
variable {C : Ctx} {ρ : Nat → Nat} {H : Heap} {w : World} {P : Program}

theorem str_beq (x y : List UInt8) : ((⟨⟨x⟩⟩ : ByteArray) == ⟨⟨y⟩⟩) = (x == y) := by
  show ((⟨x⟩ : Array UInt8) == ⟨y⟩) = _
  simp

theorem eqI_spec (ok : Nat → Prop) (d : Nat) (t : TypeId) : ∀ (n : Nat) (v : Ty), okEq P n t v = true → ∀ (x y : v.T) (vx vy : Value), RdV ok w v x vx → RdV ok w v y vy → (Op.equalIn (d + n) t vx vy).run P w = .ok (eqD v x y) w := by
  intro n
  induction n generalizing t with
  | zero => intro v h; cases h
  | succ n ih =>
    intro v h x y vx vy hx hy
    unfold okEq at h
    split at h
    · rename_i k hu
      cases v with
      | int k' =>
        obtain ⟨cs, ⟨rfl, _⟩, hv⟩ := hx
        obtain ⟨ds, ⟨rfl, _⟩, hv'⟩ := hy
        simp only [vOf, Ty.agg, Bool.false_eq_true, if_false, List.cons.injEq, and_true] at hv hv'
        subst hv; subst hv'
        show (Op.equalIn (d + n + 1) t _ _).run P w = _
        simp [Op.equalIn, run_underlying hu, eqD, eqD.eqI]
      | _ => cases h
    · rename_i hu
      cases v with
      | bool =>
        obtain ⟨cs, e1, hv⟩ := hx
        obtain ⟨ds, e2, hv'⟩ := hy
        rw [show cs = _ from e1] at hv
        rw [show ds = _ from e2] at hv'
        simp only [vOf, Ty.agg, Bool.false_eq_true, if_false, List.cons.injEq, and_true] at hv hv'
        subst hv; subst hv'
        show (Op.equalIn (d + n + 1) t _ _).run P w = _
        simp [Op.equalIn, run_underlying hu, eqD, eqD.eqB]
      | _ => cases h
    · rename_i hu
      cases v with
      | str =>
        obtain ⟨cs, ⟨rfl, _⟩, hv⟩ := hx
        obtain ⟨ds, ⟨rfl, _⟩, hv'⟩ := hy
        simp only [vOf, Ty.agg, Bool.false_eq_true, if_false, List.cons.injEq, and_true] at hv hv'
        subst hv; subst hv'
        show (Op.equalIn (d + n + 1) t _ _).run P w = _
        simp only [Op.equalIn, run_underlying hu, Sem.run_bind, Result.andThen_ok, Sem.run_pure, eqD, eqD.eqS]
        congr 1
        exact str_beq _ _
      | _ => cases h
    · rename_i m e hu
      cases v with
      | arr m' u =>
        simp only [Bool.and_eq_true] at h
        obtain ⟨⟨h1, h2⟩, h3⟩ := h
        have h1 := beq_true h1
        subst h1
        obtain ⟨cs, ⟨hl, hr⟩, hv⟩ := hx
        obtain ⟨ds, ⟨hl', hr'⟩, hv'⟩ := hy
        simp only [vOf, Ty.agg, if_true] at hv hv'
        subst hv; subst hv'
        obtain ⟨ha, hsz⟩ := isTy_sound h2
        obtain ⟨i, hi, hin⟩ : ∃ i, P.info? e = some i ∧ i.size = u.size := by
          unfold sizeAt at hsz
          cases hq : P.info? e with
          | none => rw [hq] at hsz; cases hsz
          | some i => rw [hq] at hsz; exact ⟨i, rfl, by simpa using hsz⟩
        have hc : P.cellsOf e = u.size := by simp [Program.cellsOf, hi, hin]
        show (Op.equalIn (d + n + 1) t _ _).run P w = _
        rw [run_equalIn_array w (d + n) _ _ hu hi, hc]
        have key : ∀ (k j : Nat) (x' y' : List u.T), x'.length = k → y'.length = k → RdL (Rd ok w u) x' (cs.drop (j * u.size)) → RdL (Rd ok w u) y' (ds.drop (j * u.size)) → (Op.eqItems (d + n) e u.size ⟨cs⟩ ⟨ds⟩ (List.range' j k)).run P w = .ok (eqD.eqL (eqD u) x' y') w := by
          intro k
          induction k with
          | zero =>
            intro j x' y' hx' hy' _ _
            rw [List.eq_nil_of_length_eq_zero hx', List.eq_nil_of_length_eq_zero hy']
            simp [Op.eqItems, eqD.eqL]
          | succ k ihk =>
            intro j x' y' hx' hy' hrx hry
            match x', y' with
            | x0 :: xs, y0 :: ys =>
              obtain ⟨c1, c2, e1, r1, r2⟩ := hrx
              obtain ⟨d1, d2, e2, s1, s2⟩ := hry
              have hlc := Rd.length _ _ _ r1
              have hld := Rd.length _ _ _ s1
              have hcs : j * u.size + u.size ≤ cs.length ∨ u.size = 0 := by
                by_cases h0 : u.size = 0
                · exact Or.inr h0
                · left
                  have := congrArg List.length e1
                  simp at this; omega
              have hds : j * u.size + u.size ≤ ds.length ∨ u.size = 0 := by
                by_cases h0 : u.size = 0
                · exact Or.inr h0
                · left
                  have := congrArg List.length e2
                  simp at this; omega
              have t1 : (cs.drop (j * u.size)).take u.size = c1 := by rw [e1, ← hlc]; simp
              have t2 : (ds.drop (j * u.size)).take u.size = d1 := by rw [e2, ← hld]; simp
              have n1 : cs.drop ((j + 1) * u.size) = c2 := by rw [Nat.succ_mul, ← List.drop_drop, e1, ← hlc]; simp
              have n2 : ds.drop ((j + 1) * u.size) = d2 := by rw [Nat.succ_mul, ← List.drop_drop, e2, ← hld]; simp
              obtain ⟨v1, p1, q1⟩ := part_dataZ (P := P) (ok := ok) (w := w) (cs := cs) (o := j * u.size) h2 hcs (by rw [t1]; exact r1)
              obtain ⟨v2, p2, q2⟩ := part_dataZ (P := P) (ok := ok) (w := w) (cs := ds) (o := j * u.size) h2 hds (by rw [t2]; exact s1)
              have hq := ih e u h3 x0 y0 v1 v2 q1 q2
              have hrec := ihk (j + 1) xs ys (by simpa using hx') (by simpa using hy') (by rw [n1]; exact r2) (by rw [n2]; exact s2)
              rw [List.range'_succ]
              simp only [Op.eqItems, Sem.run_bind, p1, p2, hq, Result.andThen_ok, eqD.eqL]
              cases hb : eqD u x0 y0 with
              | true => simpa using hrec
              | false => simp
        rw [List.range_eq_range']
        exact key m 0 x y hl hl' (by simpa using hr) (by simpa using hr')
      | _ => cases h
    · rename_i fs hu
      simp only [Bool.and_eq_true, Bool.not_eq_true'] at h
      obtain ⟨hst, hfs⟩ := h
      have hfo : P.fieldsOf t = fs := by simp [Program.fieldsOf, hu]
      have hag : v.agg = true := by
        cases v with
        | unit => rfl
        | pair _ _ => rfl
        | _ => cases hfl : fs.toList <;> rw [hfl] at hfs <;> cases hfs
      obtain ⟨cs, hr, hv⟩ := hx
      obtain ⟨ds, hr', hv'⟩ := hy
      unfold vOf at hv hv'
      rw [if_pos hag] at hv hv'
      subst hv; subst hv'
      show (Op.equalIn (d + n + 1) t _ _).run P w = _
      rw [run_equalIn_struct w (d + n) t _ _ (by rw [hfo]; exact hu) hst, hfo]
      have key : ∀ (l : List Field) (off : Nat) (u : Ty) (x' y' : u.T), okEq.okFs P (okEq P n) l off u = true → Rd ok w u x' (cs.drop off) → Rd ok w u y' (ds.drop off) → (Op.eqFields (d + n) ⟨cs⟩ ⟨ds⟩ l).run P w = .ok (eqD u x' y') w := by
        intro l
        induction l with
        | nil =>
          intro off u x' y' hu' _ _
          cases u with
          | unit => simp [Op.eqFields, eqD]
          | _ => cases hu'
        | cons f r ihl =>
          intro off u x' y' hu' hrx hry
          cases u with
          | pair t1 u1 =>
            simp only [okEq.okFs, Bool.and_eq_true, bne_iff_ne, ne_eq] at hu'
            obtain ⟨⟨⟨⟨h1, h2⟩, h3⟩, h4⟩, h5⟩ := hu'
            have h1 := beq_true h1
            obtain ⟨c1, c2, e1, r1, r2⟩ := hrx
            obtain ⟨d1, d2, e2, s1, s2⟩ := hry
            have hlc := Rd.length _ _ _ r1
            have hld := Rd.length _ _ _ s1
            have t1' : (cs.drop off).take t1.size = c1 := by rw [e1, ← hlc]; simp
            have t2' : (ds.drop off).take t1.size = d1 := by rw [e2, ← hld]; simp
            have n1 : cs.drop (off + t1.size) = c2 := by rw [← List.drop_drop, e1, ← hlc]; simp
            have n2 : ds.drop (off + t1.size) = d2 := by rw [← List.drop_drop, e2, ← hld]; simp
            have hcs : off + t1.size ≤ cs.length ∨ t1.size = 0 := by
              by_cases h0 : t1.size = 0
              · exact Or.inr h0
              · left
                have := congrArg List.length e1
                simp at this; omega
            have hds : off + t1.size ≤ ds.length ∨ t1.size = 0 := by
              by_cases h0 : t1.size = 0
              · exact Or.inr h0
              · left
                have := congrArg List.length e2
                simp at this; omega
            obtain ⟨v1, p1, q1⟩ := part_dataZ (P := P) (ok := ok) (w := w) (cs := cs) (o := off) h3 hcs (by rw [t1']; exact r1)
            obtain ⟨v2, p2, q2⟩ := part_dataZ (P := P) (ok := ok) (w := w) (cs := ds) (o := off) h3 hds (by rw [t2']; exact s1)
            have hq := ih f.type t1 h4 x'.1 y'.1 v1 v2 q1 q2
            have hrec := ihl (off + t1.size) u1 x'.2 y'.2 h5 (by rw [n1]; exact r2) (by rw [n2]; exact s2)
            rw [← h1] at p1 p2
            simp only [Op.eqFields, h2, ne_eq, not_false_eq_true, if_true, Sem.run_bind, p1, p2, hq, Result.andThen_ok, eqD]
            cases hb : eqD t1 x'.1 y'.1 with
            | true => simpa using hrec
            | false => simp
          | _ => cases hu'
      exact key fs.toList 0 v x y hfs (by simpa using hr) (by simpa using hr')
    · cases h

theorem eqAgg_sound {op : BinOp} {xt : TypeId} {t u : Ty} {x : t.T} {y : u.T} {r : AV} {vx vy : Value} (a b : Operand) (h : (eqAgg P op xt t x u y).Leaf r) (hx : VR C ρ H w (.d t x) vx) (hy : VR C ρ H w (.d u y) vy) :
    (eqGuard op xt a b vx vy).run P w = .ok () w ∧ ∃ v, (binOp op xt vx vy).run P w = .ok v w ∧ VR C ρ H w r v := by
  unfold eqAgg at h
  split at h
  · rename_i hc
    simp only [Bool.and_eq_true, Bool.not_eq_true'] at hc
    obtain ⟨⟨h1, h2⟩, h3⟩ := hc
    split at h
    · rename_i y' hy'
      have hdx := hx.datum
      have hdy := VR.as hy hy'
      have heq : (Op.equal xt vx vy).run P w = .ok (eqD t x y') w := eqI_spec (P := P) (w := w) _ 9980 xt 20 t h1 x y' vx vy hdx hdy
      obtain ⟨cs, _, hv⟩ := hdx
      obtain ⟨ds, _, hv'⟩ := hdy
      unfold vOf at hv hv'
      rw [if_pos h3] at hv hv'
      subst hv; subst hv'
      have hg : (eqGuard op xt a b (.agg ⟨cs⟩) (.agg ⟨ds⟩)).run P w = .ok () w := by
        cases op <;> simp [eqGuard, h2]
      refine ⟨hg, ?_⟩
      cases op <;> first | (cases h; done) | skip
      · cases h; exact ⟨.bool (eqD t x y'), by simp [binOp, heq], vr_bool⟩
      · cases h; exact ⟨.bool (!(eqD t x y')), by simp [binOp, heq], vr_bool⟩
    · cases h
  · cases h

theorem eqRes_sound {op : BinOp} {xt : TypeId} {b : Bool} {r : AV} {vx vy : Value} (h : (eqRes op b).Leaf r) (heq : (Op.equal xt vx vy).run P w = .ok b w)
    (hn : (binOp .eql xt vx vy) = (do pure (.bool (← Op.equal xt vx vy))) ∧ (binOp .neq xt vx vy) = (do pure (.bool (!(← Op.equal xt vx vy))))) : ∃ v, (binOp op xt vx vy).run P w = .ok v w ∧ VR C ρ H w r v := by
  cases op <;> first | (cases h; done) | skip
  · cases h; exact ⟨.bool b, by rw [hn.1]; simp [heq], vr_bool⟩
  · cases h; exact ⟨.bool (!b), by rw [hn.2]; simp [heq], vr_bool⟩

theorem eq_nil_ptr {xt e : TypeId} (hu : P.underlying xt = some (.pointer e)) (q : Option Addr) : (Op.equal xt (.pointer none) (.pointer q)).run P w = .ok q.isNone w := by
  have h : ∀ d, (Op.equalIn (d + 1) xt (.pointer none) (.pointer q)).run P w = .ok q.isNone w := fun d => by simp [Op.equalIn, run_underlying hu]
  exact h 9999
theorem eq_ptr_nil {xt e : TypeId} (hu : P.underlying xt = some (.pointer e)) (a : Addr) : (Op.equal xt (.pointer (some a)) (.pointer none)).run P w = .ok false w := by
  have h : ∀ d, (Op.equalIn (d + 1) xt (.pointer (some a)) (.pointer none)).run P w = .ok false w := fun d => by simp [Op.equalIn, run_underlying hu]
  exact h 9999
theorem eq_ptr_same {xt e : TypeId} {i : TypeInfo} (hu : P.underlying xt = some (.pointer e)) (hi : P.info? e = some i) (a : Addr) : (Op.equal xt (.pointer (some a)) (.pointer (some a))).run P w = .ok true w := by
  have h : ∀ d, (Op.equalIn (d + 1) xt (.pointer (some a)) (.pointer (some a))).run P w = .ok true w := fun d => by simp [Op.equalIn, run_underlying hu, sizeOf, typeInfo, hi, run_sameAddr_same]
  exact h 9999
theorem eq_nil_if {xt : TypeId} {ms : Array (String × TypeId)} (hu : P.underlying xt = some (.interface ms)) : (Op.equal xt .nilIface .nilIface).run P w = .ok true w := by
  have h : ∀ d, (Op.equalIn (d + 1) xt .nilIface .nilIface).run P w = .ok true w := fun d => by simp [Op.equalIn, run_underlying hu]
  exact h 9999

theorem eq_if_nil {xt : TypeId} {ms : Array (String × TypeId)} (hu : P.underlying xt = some (.interface ms)) (u : TypeId) (p : Value) : (Op.equal xt (.iface u p) .nilIface).run P w = .ok false w := by
  have h : ∀ d, (Op.equalIn (d + 1) xt (.iface u p) .nilIface).run P w = .ok false w := fun d => by simp [Op.equalIn, run_underlying hu]
  exact h 9999

theorem eq_sl_nil {xt e : TypeId} (hu : P.underlying xt = some (.slice e)) (a : Addr) (n c : Nat) : (Op.equal xt (.slice (some a) n c) (.slice none 0 0)).run P w = .ok false w := by
  have h : ∀ d, (Op.equalIn (d + 1) xt (.slice (some a) n c) (.slice none 0 0)).run P w = .ok false w := fun d => by simp [Op.equalIn, run_underlying hu]
  exact h 9999
theorem eq_nil_nil {xt e : TypeId} (hu : P.underlying xt = some (.slice e)) : (Op.equal xt (.slice none 0 0) (.slice none 0 0)).run P w = .ok true w := by
  have h : ∀ d, (Op.equalIn (d + 1) xt (.slice none 0 0) (.slice none 0 0)).run P w = .ok true w := fun d => by simp [Op.equalIn, run_underlying hu]
  exact h 9999

theorem eqNil_sound {op : BinOp} {xt : TypeId} {t : Ty} {x : t.T} {r : AV} {vx vy : Value} (ox oy : Operand) (h : (eqNil P op xt t x).Leaf r) (hx : VR C ρ H w (.d t x) vx) (hy : VR C ρ H w .nsl vy) :
    (eqGuard op xt ox oy vx vy).run P w = .ok () w ∧ ∃ v, (binOp op xt vx vy).run P w = .ok v w ∧ VR C ρ H w r v := by
  cases t <;> first | (cases h; done) | skip
  rename_i u
  simp only [eqNil] at h
  split at h
  · rename_i e hu
    cases h with
    | need hp h =>
      obtain ⟨a', cap, e1, h4, h5, h6⟩ := hx.datum.scalar rfl
      injection e1 with e1 _
      subst e1
      have hne : x ≠ [] := fun e => by subst e; exact absurd hp (by simp)
      obtain ⟨b, o, c, e', fr, ha', _⟩ := h6.resolve_left hne
      subst ha'
      cases hy
      exact ⟨by cases op <;> simp [eqGuard], eqRes_sound h (eq_sl_nil hu _ _ _) ⟨rfl, rfl⟩⟩
  · cases h

theorem eqOther_sound {op : BinOp} {xt : TypeId} {a b r : AV} {vx vy : Value} (ox oy : Operand) (hco : isConst ox = true ∨ isConst oy = true ∨ a ≠ .nili) (h : (eqOther P op xt a b).Leaf r) (hx : VR C ρ H w a vx) (hy : VR C ρ H w b vy) :
    (eqGuard op xt ox oy vx vy).run P w = .ok () w ∧ ∃ v, (binOp op xt vx vy).run P w = .ok v w ∧ VR C ρ H w r v := by
  unfold eqOther at h
  split at h
  · rename_i e hu
    split at h
    · rename_i i hi
      split at h
      · rename_i c hc
        unfold samePtr at hc
        have fin : ∀ (p q : Option Addr), vx = .pointer p → vy = .pointer q → (Op.equal xt (.pointer p) (.pointer q)).run P w = .ok c w → (eqGuard op xt ox oy vx vy).run P w = .ok () w ∧ ∃ v, (binOp op xt vx vy).run P w = .ok v w ∧ VR C ρ H w r v := by
          intro p q e1 e2 heq
          subst e1; subst e2
          refine ⟨by cases op <;> simp [eqGuard], eqRes_sound h heq ⟨rfl, rfl⟩⟩
        split at hc
        · injection hc with hc; subst hc; cases hx; cases hy
          exact fin none none rfl rfl (eq_nil_ptr hu none)
        · injection hc with hc; subst hc; cases hx; cases hy
          exact fin _ none rfl rfl (eq_ptr_nil hu _)
        · injection hc with hc; subst hc; cases hx; cases hy
          exact fin none _ rfl rfl (eq_nil_ptr hu (some _))
        · split at hc
          · rename_i hb
            injection hc with hc; subst hc
            simp only [Bool.and_eq_true] at hb
            have e1 := beq_true hb.1
            have e2 := beq_true hb.2
            subst e1; subst e2
            cases hx; cases hy
            exact fin _ _ rfl rfl (eq_ptr_same hu hi _)
          · cases hc
        · cases hc
      · cases h
    · cases h
  · rename_i ms hu
    split at h
    · cases hx; cases hy
      refine ⟨?_, eqRes_sound h (eq_nil_if hu) ⟨rfl, rfl⟩⟩
      rcases hco with hco | hco | hco
      · cases ox <;> first | (cases hco; done) | (cases op <;> simp [eqGuard])
      · cases oy <;> first | (cases hco; done) | (cases op <;> simp [eqGuard])
      · exact absurd rfl hco
    · cases hx; cases hy
      exact ⟨by cases op <;> simp [eqGuard], eqRes_sound h (eq_if_nil hu _ _) ⟨rfl, rfl⟩⟩
    · cases hx; cases hy
      exact ⟨by cases op <;> simp [eqGuard], eqRes_sound h (eq_if_nil hu _ _) ⟨rfl, rfl⟩⟩
    · cases h
  · rename_i e hu
    split at h
    · cases hx; cases hy
      exact ⟨by cases op <;> simp [eqGuard], eqRes_sound h (eq_nil_nil hu) ⟨rfl, rfl⟩⟩
    · cases h with
      | need hp h =>
        cases hy
        cases hx with
        | own hk hl hc hmx hb hs ha =>
          have ha' := ha.resolve_right (fun h => by omega)
          subst ha'
          exact ⟨by cases op <;> simp [eqGuard], eqRes_sound h (eq_sl_nil hu _ _ _) ⟨rfl, rfl⟩⟩
    · cases hx; cases hy
      exact ⟨by cases op <;> simp [eqGuard], eqRes_sound h (eq_sl_nil hu _ _ _) ⟨rfl, rfl⟩⟩
    · cases h
  · cases h

theorem strOf_fold : ∀ (ns : List Int) (l : List UInt8), (ns.foldl (fun r n => r.push (UInt8.ofNat n.toNat)) (⟨⟨l⟩⟩ : ByteArray)) = ⟨⟨l ++ strOf ns⟩⟩
  | [], l => by simp [strOf]
  | n :: ns, l => by
    rw [List.foldl_cons, show (⟨⟨l⟩⟩ : ByteArray).push (UInt8.ofNat n.toNat) = ⟨⟨l ++ [UInt8.ofNat n.toNat]⟩⟩ by simp [ByteArray.push], strOf_fold ns]
    simp [strOf]

theorem rdl_u8 {ok : Nat → Prop} : ∀ (l : List Int) (cs : List Value), RdL (Rd ok w (.int .u8)) l cs → cs = l.map (Value.int .u8)
  | [], cs, h => h
  | x :: xs, cs, ⟨c1, c2, e, ⟨h1, _⟩, h2⟩ => by rw [e, h1, rdl_u8 xs c2 h2]; rfl

/-- A slice of bytes, read. -/
theorem rd_bytes {ok : Nat → Prop} {l : List Int} {v : Value} (h : RdV ok w (.sl (.int .u8)) l v) :
    ∃ a cap, v = .slice a l.length cap ∧ l.length ≤ cap ∧ l.length ≤ lim ∧ (l = [] ∨ ∃ b o, a = some ⟨b, o, none⟩ ∧ ∀ j y, (l.map (Value.int .u8))[j]? = some y → w.cell? ((⟨b, o, none⟩ : Addr).add j) = some y) := by
  obtain ⟨cs, ⟨ad, cap, e1, h1, h2, h3⟩, hv⟩ := h
  have hv' : cs = [v] := hv
  rw [e1] at hv'
  injection hv' with hv' _
  refine ⟨ad, cap, hv'.symm, h1, h2, ?_⟩
  rcases h3 with h3 | ⟨b, o, c, e', fr, hab, _, hblk, hsz, hr⟩
  · exact Or.inl h3
  · refine Or.inr ⟨b, o, hab, fun j y hj => ?_⟩
    have hcs := rdl_u8 _ _ hr
    have hjl : j < l.length := by have := (List.getElem?_eq_some_iff.1 hj).1; simpa using this
    have hsz' : o + l.length * 1 ≤ c.size := hsz
    have hcs' : (c.toList.drop o).take (l.length * 1) = l.map (Value.int .u8) := hcs
    rw [← hcs', List.getElem?_take, if_pos (by omega), List.getElem?_drop, Array.getElem?_toList] at hj
    rw [add_mk]
    simp [World.cell?, hblk, hj]

theorem bytes_conv {s d e : TypeId} (hs : P.underlying s = some (.slice e)) (he : P.underlying e = some (.int .u8)) (hd : P.underlying d = some .string) {ok : Nat → Prop} {l : List Int} {v : Value} (h : RdV ok w (.sl (.int .u8)) l v) :
    (convert s d v).run P w = .ok (.string ⟨⟨strOf l⟩⟩) w ∧ l.length ≤ lim := by
  obtain ⟨a, cap, rfl, _, h2, h3⟩ := rd_bytes h
  refine ⟨?_, h2⟩
  rw [run_convert_bytes_string w s d e _ _ _ hs he hd]
  have hfold := strOf_fold l []
  have hemp : (ByteArray.empty) = (⟨⟨[]⟩⟩ : ByteArray) := rfl
  rcases h3 with rfl | ⟨b, o, rfl, hc⟩
  · cases a with
    | none => simp [Conv.bytesToString, strOf]; rfl
    | some ad => rw [run_bytesToString (P := P) w ad _ cap [] (by simpa using run_loadCells_list (P := P) w ad [] (by intro j v hj; cases hj)), hemp, hfold]; rfl
  · rw [run_bytesToString w _ _ _ l (by simpa using run_loadCells_list (P := P) w ⟨b, o, none⟩ (l.map (Value.int .u8)) hc), hemp, hfold]
    rfl

theorem convStr_sound {H0 : Heap} (hsub : ∀ x ∈ H0, x ∈ H) {next : Nat} (hm : MRel C ρ H next w) {s d : TypeId} {a r : AV} {v : Value} (h : (convStr P H0 s d a).Leaf r) (ha : VR C ρ H w a v) :
    ∃ v', (convert s d v).run P w = .ok v' w ∧ VR C ρ H w r v' := by
  unfold convStr at h
  split at h
  · rename_i hb hd
    unfold isBytes at hb
    split at hb
    · rename_i e hs
      split at hb
      · rename_i he
        split at h
        · rename_i l hl
          cases h
          obtain ⟨h1, h2⟩ := bytes_conv (P := P) hs he hd (toDL_sound hsub hm hl ha)
          exact ⟨_, h1, vr_str (by unfold strOf; rw [List.length_map]; exact h2)⟩
        · cases h
      · cases hb
    · cases hb
  · cases h

theorem convPtr_sound {H0 : Heap} (hsub : ∀ x ∈ H0, x ∈ H) {next : Nat} (hm : MRel C ρ H next w) {s d : TypeId} {k off : Nat} {r : AV} {v : Value} (h : (convPtr P H0 s d k off).Leaf r) (ha : VR C ρ H w (.ptr k off) v) :
    ∃ v', (convert s d v).run P w = .ok v' w ∧ VR C ρ H w r v' := by
  unfold convPtr at h
  split at h
  · rename_i e cells hf
    obtain ⟨c, h1, h2, h3⟩ := hm.mem k _ (hsub _ (Heap.find_mem hf))
    have hl : cells.length = c.size := by rw [h2.length]; simp
    have hsh : w.shape? (ρ k) = some (e, c.size) := by simp [World.shape?, h1]
    have ha' := ha
    cases ha with
    | ptr hk =>
      split at h
      · rename_i t hs hd
        split at h
        · rename_i j hj
          split at h
          · rename_i hc
            cases h
            simp only [Bool.and_eq_true, Bool.not_eq_true'] at hc
            exact ⟨_, Lib.run_to_unsafe w ⟨ρ k, off, none⟩ hs hd hj (fun e0 => by have := beq_false hc.1; exact this e0) hsh (by have := Nat.le_of_ble_eq_true hc.2; show off < c.size; omega), ha'⟩
          · cases h
        · cases h
      · rename_i u hs hd
        split at h
        · rename_i j hj
          split at h
          · rename_i hc
            cases h
            exact ⟨_, Lib.run_from_unsafe w ⟨ρ k, off, none⟩ hs hd hj hsh (by rw [← hl]; exact hc), ha'⟩
          · cases h
        · cases h
      · cases h
  · cases h

theorem convH_sound {H0 : Heap} (hsub : ∀ x ∈ H0, x ∈ H) {next : Nat} (hm : MRel C ρ H next w) {s d : TypeId} {a r : AV} {v : Value} (h : (convH P H0 s d a).Leaf r) (ha : VR C ρ H w a v) :
    ∃ v', (convert s d v).run P w = .ok v' w ∧ VR C ρ H w r v' := by
  unfold convH at h
  split at h
  · exact convPtr_sound hsub hm h ha
  · exact convStr_sound hsub hm h ha
  · exact convStr_sound hsub hm h ha
  · exact convStr_sound hsub hm h ha
  · exact convAV_sound h ha

theorem sliceData_sound {a r : AV} {v : Value} {ts : Array TypeId} {ty : TypeId} (h : (sliceData a).Leaf r) (ha : VR C ρ H w a v) :
    ∃ v', (Builtin.unsafeSliceData_ ts ty #[v]).run P w = .ok v' w ∧ VR C ρ H w r v' := by
  unfold sliceData at h
  split at h
  · cases h; cases ha; exact ⟨_, Lib.run_unsafeSliceData_nil w ts ty 0 0, .nilp⟩
  · cases h with
    | need hp h =>
      cases h
      cases ha with
      | own hk hl hc hmx hb hs hor =>
        have ha' := hor.resolve_right (fun h => by omega)
        subst ha'
        exact ⟨_, Lib.run_unsafeSliceData_row w ts ty _ _ _ (by omega), .eptr hk (by omega)⟩
  · cases h

theorem arrPtr_sound {t : TypeId} {a r : AV} {v : Value} (h : (arrPtr P t a).Leaf r) (ha : VR C ρ H w a v) : ∃ v', (Instr.arrayAt t v).run P w = .ok v' w ∧ VR C ρ H w r v' := by
  unfold arrPtr at h
  split at h
  · rename_i k off len
    split at h
    · rename_i n e hu
      cases h with
      | need hp h =>
        cases h
        obtain ⟨hp1, hp2⟩ := hp
        cases ha with
        | own hk hl hc hmx hb hs hor =>
          have ha' := hor.resolve_right (fun h => by omega)
          subst ha'
          refine ⟨_, ?_, .eptr hk (by omega)⟩
          simp [Instr.arrayAt, run_underlying hu, show ¬ len < n by omega]
    · cases h
  · cases h

theorem VRs.ofMap {arg : Operand → AV} {val : Operand → Value} (hv : ∀ x, VR C ρ H w (arg x) (val x)) : ∀ l : List Operand, VRs C ρ H w (l.map arg) (l.map val)
  | [] => .nil
  | x :: l => .cons (hv x) (VRs.ofMap hv l)

theorem OVR.ofMap {arg : Operand → AV} {val : Operand → Value} (hv : ∀ x, VR C ρ H w (arg x) (val x)) (o : Option Operand) : OVR C ρ H w (o.map arg) (o.map val) := by
  cases o with
  | none => trivial
  | some x => exact hv x

theorem Parts.ofMap {arg : Operand → AV} {val : Operand → Value} (hv : ∀ x, VR C ρ H w (arg x) (val x)) : ∀ l : List (Nat × Operand), Parts C ρ H w (l.map fun x => (x.1, arg x.2)) (l.map fun x => (x.1, val x.2))
  | [] => .nil
  | x :: l => .cons (hv x.2) (Parts.ofMap hv l)

theorem mkIface_sound {k : TypeId} {a r : AV} {v : Value} (h : (mkIface P k a).Leaf r) (ha : VR C ρ H w a v) : ∃ v', (Instr.makeInterface k v).run P w = .ok v' w ∧ VR C ρ H w r v' := by
  unfold mkIface at h
  split at h
  · cases h
  · rename_i ty hne hu
    split at h
    · cases h
      cases ha with
      | d hr =>
        refine ⟨.iface k v, ?_, .ifc hr⟩
        simp only [Instr.makeInterface, Sem.run_bind, run_underlying hu, Result.andThen_ok]
        cases ty <;> first | rfl | exact absurd hu (hne _)
    · cases h
  · cases h

theorem zeroC_sound {t : TypeId} {z : AV} (h : zeroC P t = some z) : ∃ v, (zeroValue t).run P w = .ok v w ∧ VR C ρ H w z v := by
  unfold zeroC at h
  split at h
  · rename_i i hi
    split at h
    · rename_i z hz
      injection h with h; subst h
      exact ⟨z, by simp [zeroValue, typeInfo, hi, hz], constAg_sound _⟩
    · cases h
  · cases h

theorem assertNo_sound {u : TypeId} {ok : Bool} {r : AV} (h : (assertNo P u ok).Leaf r) : ok = true ∧ ∃ z, (zeroValue u).run P w = .ok z w ∧ VR C ρ H w r (.tuple #[z, .bool false]) := by
  unfold assertNo at h
  split at h
  · split at h
    · rename_i z hz
      cases h
      obtain ⟨v, h1, h2⟩ := zeroC_sound (C := C) (ρ := ρ) (H := H) (w := w) hz
      exact ⟨rfl, v, h1, .tup (.cons h2 (.cons vr_bool .nil))⟩
    · cases h
  · cases h

theorem tyAssert_sound {xt u : TypeId} {ok : Bool} {a r : AV} {v : Value} (h : (tyAssert P u ok a).Leaf r) (ha : VR C ρ H w a v) : ∃ v', (Instr.typeAssert v xt u ok).run P w = .ok v' w ∧ VR C ρ H w r v' := by
  unfold tyAssert at h
  split at h
  · cases h
  · rename_i ty hne hu
    split at h
    · rename_i k t x
      cases ha with
      | @ifc _ _ _ v hr =>
        split at h
        · rename_i hb
          have hb := beq_true hb
          subst hb
          split at h
          · cases h
            refine ⟨.tuple #[v, .bool true], ?_, .tup (.cons (.d hr) (.cons vr_bool .nil))⟩
            simp only [Instr.typeAssert, Sem.run_bind, run_underlying hu, Result.andThen_ok]
            cases ty <;> first | (exact absurd hu (hne _)) | simp
          · cases h
            refine ⟨v, ?_, .d hr⟩
            simp only [Instr.typeAssert, Sem.run_bind, run_underlying hu, Result.andThen_ok]
            cases ty <;> first | (exact absurd hu (hne _)) | simp
        · rename_i hb
          have hb : ¬ k = u := fun e => by subst e; rw [Nat.beq_refl] at hb; cases hb
          obtain ⟨rfl, z, h1, h2⟩ := assertNo_sound (C := C) (ρ := ρ) (H := H) (w := w) h
          refine ⟨_, ?_, h2⟩
          simp only [Instr.typeAssert, Sem.run_bind, run_underlying hu, Result.andThen_ok]
          cases ty <;> first | (exact absurd hu (hne _)) | simp [hb, h1]
    · cases ha
      obtain ⟨rfl, z, h1, h2⟩ := assertNo_sound (C := C) (ρ := ρ) (H := H) (w := w) h
      refine ⟨_, ?_, h2⟩
      simp only [Instr.typeAssert, Sem.run_bind, run_underlying hu, Result.andThen_ok]
      cases ty <;> first | (exact absurd hu (hne _)) | simp [h1]
    · cases h
  · cases h

theorem kk_two {kt e : TypeId} {q : IntKind} (h : kkAt P kt = some (.two e q)) : WideMaps.ArrKey P kt e 2 ∧ P.underlying e = some (.int q) ∧ ∃ m, P.types.size = m + 1 := by
  unfold kkAt at h
  split at h
  · cases h
  · cases h
  · rename_i n e' hu
    split at h
    · rename_i k he
      split at h
      · rename_i hc
        cases h
        simp only [Bool.and_eq_true] at hc
        have h2 := Nat.eq_of_beq_eq_true hc.1.1
        subst h2
        refine ⟨⟨hu, ?_, Nat.eq_of_beq_eq_true hc.1.2, Nat.eq_of_beq_eq_true hc.2.1⟩, he, P.types.size - 1, ?_⟩
        · simp [Program.plainKey, he]
        · have := Nat.le_of_ble_eq_true hc.2.2
          omega
      · cases h
    · cases h
  · cases h
theorem kk_bind {kt : TypeId} {k : KK} (h : kkAt P kt = some k) : P.underlying kt = some k.td := by
  cases k with
  | two e q => exact (kk_two h).1.hu
  | int k =>
    unfold kkAt at h
    split at h
    · rename_i hu; cases h; exact hu
    · cases h
    · split at h
      · split at h <;> cases h
      · cases h
    · cases h
  | str =>
    unfold kkAt at h
    split at h
    · cases h
    · rename_i hu; exact hu
    · split at h
      · split at h <;> cases h
      · cases h
    · cases h
theorem dkOf_sound {k : KK} {i : AV} {n : DK} {v : Value} (h : dkOf k i = some n) (hv : VR C ρ H w i v) : KeyR k n v := by
  unfold dkOf at h
  split at h
  · rename_i k1 k2 x
    split at h
    · rename_i hd
      cases h
      have e := of_decide_eq_true hd
      subst e
      exact ⟨rfl, (int_value hv).1⟩
    · cases h
  · cases h
    exact ⟨rfl, (str_value hv).1⟩
  · split at h
    · rename_i hd
      cases h
      have e := of_decide_eq_true hd
      subst e
      obtain ⟨cs, hr, hcs⟩ := hv.datum
      obtain ⟨_, hr⟩ := hr
      obtain ⟨c1, c2, rfl, ⟨rfl, r1, r2⟩, c3, c4, rfl, ⟨rfl, r3, r4⟩, rfl⟩ := hr
      refine ⟨by simp [KK.has, r1, r2, r3, r4], ?_⟩
      simpa [vOf, Ty.agg, KK.val] using hcs
    · cases h
  · rename_i q k1 a k2 b
    split at h
    · rename_i h1 h2
      cases h
      have e1 := of_decide_eq_true h1
      have e2 := of_decide_eq_true h2
      subst e1; subst e2
      cases hv with
      | ag hh _ =>
        cases hh with
        | cons g1 g2 => cases g2 with
          | cons g2 g3 =>
            cases g3
            obtain ⟨rfl, r1, r2⟩ := int_value g1
            obtain ⟨rfl, r3, r4⟩ := int_value g2
            exact ⟨by simp [KK.has, r1, r2, r3, r4], rfl⟩
    · cases h
  · cases h
theorem isKey_of : ∀ {k : KK} {n : DK} {v : Value}, KeyR k n v → (∀ e q, k ≠ .two e q) → MapKept.IsKey k.td v
  | .int _, .i _, _, ⟨_, rfl⟩, _ => rfl
  | .str, .s _, _, ⟨_, rfl⟩, _ => trivial
  | .int _, .s _, _, ⟨h, _⟩, _ | .int _, .p _ _, _, ⟨h, _⟩, _ => by cases h
  | .str, .i _, _, ⟨h, _⟩, _ | .str, .p _ _, _, ⟨h, _⟩, _ => by cases h
  | .two e q, _, _, _, h => absurd rfl (h e q)
theorem same_key : ∀ {k : KK} {n m : DK} {v u : Value}, KeyR k n v → KeyR k m u → (∀ e q, k ≠ .two e q) → Instr.sameNow k.td v u = some (eqK n m)
  | .int k, .i a, .i b, _, _, ⟨_, rfl⟩, ⟨_, rfl⟩, _ => by simp [Instr.sameNow, KK.td, KK.val, eqK, eqD.eqI]
  | .str, .s a, .s b, _, _, ⟨_, rfl⟩, ⟨_, rfl⟩, _ => congrArg some (str_beq a b)
  | .int _, .s _, _, _, _, ⟨h, _⟩, _, _ | .int _, .p _ _, _, _, _, ⟨h, _⟩, _, _ => by cases h
  | .str, .i _, _, _, _, ⟨h, _⟩, _, _ | .str, .p _ _, _, _, _, ⟨h, _⟩, _, _ => by cases h
  | .int _, .i _, .s _, _, _, _, ⟨h, _⟩, _ | .int _, .i _, .p _ _, _, _, _, ⟨h, _⟩, _ => by cases h
  | .str, .s _, .i _, _, _, _, ⟨h, _⟩, _ | .str, .s _, .p _ _, _, _, _, ⟨h, _⟩, _ => by cases h
  | .two e q, _, _, _, _, _, _, h => absurd rfl (h e q)
/-- What the model knows of a pair as a key. -/
theorem two_key {kt e : TypeId} {q : IntKind} (hk : kkAt P kt = some (.two e q)) {n : DK} {v : Value} (h : KeyR (.two e q) n v) : ∃ l, keyOf P kt v = some l := by
  obtain ⟨A, he, hs⟩ := kk_two hk
  obtain ⟨h1, rfl⟩ := h
  cases n with
  | i _ => cases h1
  | s _ => cases h1
  | p a b =>
    simp only [KK.has, Bool.and_eq_true, decide_eq_true_eq] at h1
    exact ⟨_, WideMaps.keyOf_pair A he hs (by simp [Lit.wf]; omega) (by simp [Lit.wf]; omega)⟩
theorem two_same {kt e : TypeId} {q : IntKind} (hk : kkAt P kt = some (.two e q)) {n m : DK} {v u : Value} (h : KeyR (.two e q) n v) (h' : KeyR (.two e q) m u) (w : World) : (Op.equal kt v u).run P w = .ok (eqK n m) w := by
  obtain ⟨A, _, _⟩ := kk_two hk
  obtain ⟨lx, h1⟩ := two_key hk h
  obtain ⟨ly, h2⟩ := two_key hk h'
  obtain ⟨r, hr, hi⟩ := run_equal_deep w (m := 2) (by omega) (A.at 0) A.wide h1 h2
  have : r = eqK n m := by
    have hl : lx = ly ↔ v = u := ⟨fun hl => A.law.inj h1 (hl ▸ h2), fun hl => by subst hl; rw [h1] at h2; injection h2⟩
    have hv : v = u ↔ eqK n m = true := by
      obtain ⟨g1, rfl⟩ := h
      obtain ⟨g2, rfl⟩ := h'
      cases n <;> cases m <;> first | cases g1; done | cases g2; done | skip
      simp [KK.val, eqK, eqD.eqI]
    cases r <;> cases hb : eqK n m <;> simp_all
  rw [hr, this]

/-- Where a key is found. -/
def Fnd (P : Program) (w : World) (kt : TypeId) (k : KK) (kv : Value) (es : List MapEntry) (i : Nat) (r : Option (Nat × Value)) : Prop := match k with
  | .two _ _ => (Instr.findAsking kt kv es i).run P w = .ok r w
  | k => Instr.findNow k.td kv es i = some r
theorem fnd_nil {kt : TypeId} {k : KK} {kv : Value} {i : Nat} : Fnd P w kt k kv [] i none := by
  cases k <;> simp [Fnd, Instr.findAsking, Instr.findNow]
theorem fnd_hit {kt : TypeId} {k : KK} (hk : kkAt P kt = some k) {n m : DK} {kv : Value} {e : MapEntry} {es : List MapEntry} (h : KeyR k n kv) (h' : KeyR k m e.key) (hb : eqK n m = true) {i : Nat} : Fnd P w kt k kv (e :: es) i (some (i, e.val)) := by
  cases k with
  | two e' q => simp [Fnd, Instr.findAsking, two_same hk h h' w, hb]
  | int q => simp [Fnd, Instr.findNow, same_key h h' (fun _ _ => by simp), hb]
  | str => simp [Fnd, Instr.findNow, same_key h h' (fun _ _ => by simp), hb]
theorem fnd_miss {kt : TypeId} {k : KK} (hk : kkAt P kt = some k) {n m : DK} {kv : Value} {e : MapEntry} {es : List MapEntry} (h : KeyR k n kv) (h' : KeyR k m e.key) (hb : eqK n m = false) {i : Nat} {r : Option (Nat × Value)} (hr : Fnd P w kt k kv es (i + 1) r) : Fnd P w kt k kv (e :: es) i r := by
  cases k with
  | two e' q =>
    have hr : (Instr.findAsking kt kv es (i + 1)).run P w = .ok r w := hr
    simp [Fnd, Instr.findAsking, two_same hk h h' w, hb, hr]
  | int q =>
    have hr : Instr.findNow (KK.int q).td kv es (i + 1) = some r := hr
    simp [Fnd, Instr.findNow, same_key h h' (fun _ _ => by simp), hb, hr]
  | str =>
    have hr : Instr.findNow KK.str.td kv es (i + 1) = some r := hr
    simp [Fnd, Instr.findNow, same_key h h' (fun _ _ => by simp), hb, hr]
theorem fnd_run {kt : TypeId} {k : KK} (hk : kkAt P kt = some k) {kv : Value} {es : List MapEntry} {r : Option (Nat × Value)} (hr : Fnd P w kt k kv es 0 r) : (Instr.findKey kt kv es).run P w = .ok r w := by
  cases k with
  | two e q =>
    rw [run_findKey_eq w (kk_two hk).1.wide]
    exact hr
  | int q => exact MapKept.run_findKey (kk_bind hk) hr
  | str => exact MapKept.run_findKey (kk_bind hk) hr
theorem key_check {kt : TypeId} {k : KK} (hk : kkAt P kt = some k) {n : DK} {kv : Value} (h : KeyR k n kv) (em : Bool) : (Instr.checkKey em 10000 kt kv).run P w = .ok () w := by
  cases k with
  | two e q =>
    obtain ⟨l, hl⟩ := two_key hk h
    exact (kk_two hk).1.law.check w em hl
  | int q => exact MapKept.run_checkKey (kk_bind hk) (isKey_of h (fun _ _ => by simp)) em 9999
  | str => exact MapKept.run_checkKey (kk_bind hk) (isKey_of h (fun _ _ => by simp)) em 9999
theorem key_stays {kt : TypeId} {k : KK} (hk : kkAt P kt = some k) {n : DK} {kv : Value} (h : KeyR k n kv) : (Instr.keyThatStays kv kv).run P w = .ok kv w := by
  cases k with
  | two e q =>
    obtain ⟨l, hl⟩ := two_key hk h
    exact (kk_two hk).1.law.stays w hl
  | int q => exact MapKept.run_keyThatStays (isKey_of h (fun _ _ => by simp))
  | str => exact MapKept.run_keyThatStays (isKey_of h (fun _ _ => by simp))

theorem dic_find {R : AV → Value → Prop} {kt : TypeId} {k : KK} (hkk : kkAt P kt = some k) {n : DK} {kv : Value} (hk : KeyR k n kv) : ∀ {l : List (DK × AV)} {es : List MapEntry} (i : Nat), MapR R k l es →
    (∃ v j u, findE l n = some v ∧ Fnd P w kt k kv es i (some (j, u)) ∧ R v u) ∨ findE l n = none ∧ Fnd P w kt k kv es i none
  | [], [], _, _ => Or.inr ⟨rfl, fnd_nil⟩
  | x :: l, e :: es, i, ⟨h1, h2, h3⟩ => by
    have ih := dic_find hkk hk (i + 1) h3
    simp only [findE]
    show (∃ v j u, (match eqK n x.1 with | true => some x.2 | false => findE l n) = some v ∧ _ ∧ _) ∨ _
    cases hb : eqK n x.1 with
    | true => exact Or.inl ⟨_, _, _, rfl, fnd_hit hkk hk h1 hb, h2⟩
    | false =>
      rcases ih with ⟨v, j, u, g1, g2, g3⟩ | ⟨g1, g2⟩
      · exact Or.inl ⟨v, j, u, g1, fnd_miss hkk hk h1 hb g2, g3⟩
      · exact Or.inr ⟨g1, fnd_miss hkk hk h1 hb g2⟩
  | [], _ :: _, _, h => h.elim
  | _ :: _, [], _, h => h.elim

theorem okAV_sound {ok b : Bool} {v : AV} {u : Value} (h : VR C ρ H w v u) : VR C ρ H w (okAV ok b v) (if ok then .tuple #[u, .bool b] else u) := by
  cases ok
  · exact h
  · exact .tup (.cons h (.cons vr_bool .nil))

theorem lookAV_sound {H0 : Heap} (hsub : ∀ x ∈ H0, x ∈ H) {next : Nat} (hm : MRel C ρ H next w) {t : TypeId} {m i r : AV} {ok : Bool} {vm vi : Value} (h : (lookAV P H0 t m i ok).Leaf r) (hvm : VR C ρ H w m vm) (hvi : VR C ρ H w i vi) :
    ∃ v, (Instr.lookup t vm vi ok).run P w = .ok v w ∧ VR C ρ H w r v := by
  unfold lookAV at h
  split at h
  case h_2 => cases h
  rename_i kt et hu
  split at h
  case h_2 => cases h
  rename_i k hk
  split at h
  case h_2 => cases h
  rename_i K n hn
  split at h
  case h_2 => cases h
  rename_i k'' l hf
  split at h
  case h_2 => cases h
  rename_i hc
  have e2 := of_decide_eq_true hc
  subst e2
  cases hvm with
  | mp hkk =>
    obtain ⟨es, c, hb, hR⟩ := hm.mem _ _ (hsub _ (Heap.find_mem hf))
    have hkr := dkOf_sound hn hvi
    rcases dic_find (w := w) hk hkr 0 hR with ⟨v, j, u, g1, g2, g3⟩ | ⟨g1, g2⟩
    · rw [g1] at h
      cases h
      exact ⟨_, by simp [Instr.lookup, run_underlying hu, MapKept.run_getObj_map hb, key_check hk hkr, fnd_run hk g2], okAV_sound g3⟩
    · rw [g1] at h
      simp only at h
      split at h
      · rename_i z hz
        cases h
        obtain ⟨u, q1, q2⟩ := zeroC_sound (C := C) (ρ := ρ) (H := H) (w := w) hz
        exact ⟨_, by simp [Instr.lookup, run_underlying hu, MapKept.run_getObj_map hb, key_check hk hkr, fnd_run hk g2, q1], okAV_sound q2⟩
      · cases h

theorem evP_sound {H0 : Heap} (hsub : ∀ x ∈ H0, x ∈ H) {next : Nat} (hm : MRel C ρ H next w) {arg : Operand → AV} {val : Operand → Value} {o : Oper} {r : AV} (h : (evP P H0 arg o).Leaf r)
    (hv : ∀ x, VR C ρ H w (arg x) (val x)) : ∃ v, (execOp val o).run P w = .ok (.value v) w ∧ VR C ρ H w r v := by
  unfold evP at h
  split at h
  · rename_i x ho; cases h; exact ⟨val x, by simp [execOp, ho], hv x⟩
  · rename_i x ho; cases h; exact ⟨val x, by simp [execOp, ho], hv x⟩
  · rename_i c a b ho
    split at h
    · rename_i x hx
      have := hv c
      rw [hx] at this
      have e := bool_value this
      exact ⟨_, by simp [execOp, ho, e, asBool]; rfl, pickAV_sound h (hv a) (hv b)⟩
    · cases h
  · rename_i x ho
    have hx := hv x
    have key : ∀ v, v = val x → ((∃ ad, v = Value.pointer (some ad)) ∨ ∃ f a b, v = Value.func (.func f) a b) → ∃ v, (execOp val o).run P w = .ok (.value v) w ∧ VR C ρ H w (arg x) v := by
      rintro v e (⟨ad, e'⟩ | ⟨f, a, b, e'⟩)
      · exact ⟨v, by simp [execOp, ho, ← e, e'], e ▸ hx⟩
      · exact ⟨v, by simp [execOp, ho, ← e, e'], e ▸ hx⟩
    generalize hvx : val x = v at hx
    split at h <;> rename_i hr
    · cases h; rw [← hr]; refine key v hvx.symm ?_; rw [hr] at hx; cases hx; exact Or.inl ⟨_, rfl⟩
    · cases h; rw [← hr]; refine key v hvx.symm ?_; rw [hr] at hx; cases hx; exact Or.inl ⟨_, rfl⟩
    · cases h; rw [← hr]; refine key v hvx.symm ?_; rw [hr] at hx; cases hx; exact Or.inl ⟨_, rfl⟩
    · cases h; rw [← hr]; refine key v hvx.symm ?_; rw [hr] at hx; cases hx; exact Or.inl ⟨_, rfl⟩
    · cases h; rw [← hr]; refine key v hvx.symm ?_; rw [hr] at hx; cases hx; exact Or.inr ⟨_, _, _, rfl⟩
    · cases h
  · rename_i op xt x y yt ho
    have hx := (hv x).soft
    have hy := (hv y).soft
    split at h
    · rename_i t a ha
      rw [ha] at hx
      split at h
      · rename_i u b hb
        rw [hb] at hy
        split at h
        · obtain ⟨h0, v, h1, h2⟩ := eqAgg_sound (P := P) x y h hx hy
          exact ⟨v, by simp [execOp, ho, h0, h1], h2⟩
        · split at h
          · rename_i he
            obtain ⟨hag, v, h1, h2⟩ := binD_sound (P := P) h he hx hy
            exact ⟨v, by simp [execOp, ho, eqGuard_scalar (P := P) (op := op) (xt := xt) (vy := val y) x y hag hx, h1], h2⟩
          · cases h
      · rename_i hb
        rw [hb] at hy
        obtain ⟨h0, v, h1, h2⟩ := eqNil_sound (P := P) x y h hx hy
        exact ⟨v, by simp [execOp, ho, h0, h1], h2⟩
      · cases h
    · rename_i ha
      rw [ha] at hx
      split at h
      · rename_i hc
        obtain ⟨h0, v, h1, h2⟩ := eqOther_sound (P := P) x y (by
          rw [Bool.or_eq_true] at hc
          rcases hc with hc | hc
          · exact Or.inl hc
          · exact Or.inr (Or.inl hc)) h hx hy
        exact ⟨v, by simp [execOp, ho, h0, h1], h2⟩
      · cases h
    · rename_i hn1 hn2
      obtain ⟨h0, v, h1, h2⟩ := eqOther_sound (P := P) x y (Or.inr (Or.inr (fun e => hn2 e))) h hx hy
      exact ⟨v, by simp [execOp, ho, h0, h1], h2⟩
  · rename_i op t x ho
    obtain ⟨v, h1, h2⟩ := unAV_sound (P := P) h (hv x)
    exact ⟨v, by simp [execOp, ho, h1], h2⟩
  · rename_i s d x ho
    obtain ⟨v, h1, h2⟩ := convH_sound hsub hm h (hv x).soft
    exact ⟨v, by simp [execOp, ho, h1], h2⟩
  · rename_i f first caps ho
    cases h
    refine ⟨.func (.func f) (first.map val) (caps.map val), by simp [execOp, ho, Instr.makeFunc], ?_⟩
    have e1 : first.map val = ⟨first.toList.map val⟩ := by apply Array.ext'; simp
    have e2 : caps.map val = ⟨caps.toList.map val⟩ := by apply Array.ext'; simp
    rw [e1, e2]
    exact .fn (VRs.ofMap hv _) (VRs.ofMap hv _)
  · rename_i s x f ho
    obtain ⟨v, h1, h2⟩ := fAddrH_sound hsub hm h (hv x)
    exact ⟨v, by simp [execOp, ho, h1], h2⟩
  · rename_i s x f ho
    obtain ⟨v, h1, h2⟩ := fieldAV_sound h (hv x)
    exact ⟨v, by simp [execOp, ho, h1], h2⟩
  · rename_i t x i ho
    obtain ⟨v, h1, h2⟩ := iAddrAV_sound hsub hm h (hv x).soft (hv i)
    exact ⟨v, by simp [execOp, ho, h1], h2⟩
  · rename_i t x i ho
    obtain ⟨v, h1, h2⟩ := indexAV_sound h (hv x) (hv i)
    exact ⟨v, by simp [execOp, ho, h1], h2⟩
  · rename_i t x i ok ho
    obtain ⟨v, h1, h2⟩ := lookAV_sound hsub hm h (hv x) (hv i)
    exact ⟨v, by simp [execOp, ho, h1], h2⟩
  · rename_i t x lo hi mx ho
    split at h
    · rename_i k off len hox
      have hxx := hv x
      cases hi with
      | some _ => cases hax : arg x <;> rw [hax] at hox <;> cases hox
      | none => cases mx with
        | some _ => cases hax : arg x <;> rw [hax] at hox <;> cases hox
        | none =>
          cases hax : arg x <;> rw [hax] at hox <;> first | cases hox; done | skip
          injection hox with hox
          injection hox with e1 hox
          injection hox with e2 e3
          subst e1; subst e2; subst e3
          rw [hax] at hxx
          obtain ⟨v, h1, h2⟩ := sliceOx_sound hsub hm h hxx (OVR.ofMap hv lo)
          exact ⟨v, by simp [execOp, ho, h1], h2⟩
    · have hx := (hv x).soft
      split at h
      · rename_i k off len ha
        rw [ha] at hx
        obtain ⟨v, h1, h2⟩ := sliceOwn_sound hsub hm h hx (OVR.ofMap hv hi) (OVR.ofMap hv lo) (OVR.ofMap hv mx)
        exact ⟨v, by simp [execOp, ho, h1], h2⟩
      · rename_i k off ha
        rw [ha] at hx
        obtain ⟨v, h1, h2⟩ := sliceArr_sound h hx (OVR.ofMap hv hi) (OVR.ofMap hv lo) (OVR.ofMap hv mx)
        exact ⟨v, by simp [execOp, ho, h1], h2⟩
      · cases mx with
        | some mx' =>
          simp only [Option.map_some] at h
          obtain ⟨v, h1, h2⟩ := sliceMx_sound h hx (OVR.ofMap hv hi) (OVR.ofMap hv lo) (hv mx')
          exact ⟨v, by simp [execOp, ho, h1], h2⟩
        | none =>
          simp only [Option.map_none] at h
          obtain ⟨v, h1, h2⟩ := sliceAV_sound (vmx := none) h hx (OVR.ofMap hv hi) (OVR.ofMap hv lo) trivial
          exact ⟨v, by simp [execOp, ho, h1], h2⟩
  · rename_i t i ho
    have ht := hv t
    generalize hvt : val t = v at ht
    split at h
    · rename_i l ha
      rw [ha] at ht
      have h := T.Leaf.ofO h
      cases ht with
      | tup hl =>
        obtain ⟨u, hu1, hu2⟩ := hl.get h
        exact ⟨u, by simp [execOp, ho, hvt, Instr.extract, hu1], hu2⟩
    · cases h
  · rename_i t ps ho
    obtain ⟨v, h1, h2⟩ := buildAV_sound (vps := ps.map fun x => (x.1, val x.2)) h (by simpa using Parts.ofMap hv ps.toList)
    exact ⟨v, by simp [execOp, ho, h1], h2⟩
  · rename_i k x ho
    obtain ⟨v, h1, h2⟩ := mkIface_sound h (hv x)
    exact ⟨v, by simp [execOp, ho, h1], h2⟩
  · rename_i x xt u ok ho
    obtain ⟨v, h1, h2⟩ := tyAssert_sound (xt := xt) h (hv x)
    exact ⟨v, by simp [execOp, ho, h1], h2⟩
  · rename_i t x ho
    obtain ⟨v, h1, h2⟩ := arrPtr_sound h (hv x).soft
    exact ⟨v, by simp [execOp, ho, h1], h2⟩
  · rename_i args ts ho
    split at h
    · rename_i x hx
      split at h
      · rename_i t ht
        obtain ⟨v, h1, h2⟩ := lenAV_sound hm (ty := o.type) ht h (hv x).soft
        have e : args.map val = #[val x] := by apply Array.ext'; simp [hx]
        exact ⟨v, by simp [execOp, ho, resolve, invoke, builtin, e, h1], h2⟩
      · cases h
    · cases h
  · rename_i args ts ho
    split at h
    · rename_i x hx
      split at h
      · rename_i t ht
        obtain ⟨v, h1, h2⟩ := capAV_sound hm (ty := o.type) ht h (hv x)
        have e : args.map val = #[val x] := by apply Array.ext'; simp [hx]
        exact ⟨v, by simp [execOp, ho, resolve, invoke, builtin, e, h1], h2⟩
      · cases h
    · cases h
  · rename_i args ts ho
    split at h
    · rename_i x hx
      obtain ⟨v, h1, h2⟩ := sliceData_sound (P := P) (ts := ts) (ty := o.type) h (hv x).soft
      have e : args.map val = #[val x] := by apply Array.ext'; simp [hx]
      exact ⟨v, by simp [execOp, ho, resolve, invoke, builtin, e, h1], h2⟩
    · cases h
  · rename_i args ts ho
    obtain ⟨v, h1, h2⟩ := mmAV_sound (P := P) (vs := args.map val) (ts := ts) (ty := o.type) h (by simpa using VRs.ofMap hv args.toList)
    exact ⟨v, by simp only [if_true] at h1; simp [execOp, ho, resolve, invoke, builtin, h1], h2⟩
  · rename_i args ts ho
    obtain ⟨v, h1, h2⟩ := mmAV_sound (P := P) (vs := args.map val) (ts := ts) (ty := o.type) h (by simpa using VRs.ofMap hv args.toList)
    exact ⟨v, by simp only [Bool.false_eq_true, if_false] at h1; simp [execOp, ho, resolve, invoke, builtin, h1], h2⟩
  · cases h
end
end Go.Vg

namespace Go.Vg
open Go Go.RowKit

/-- A contract: plain data in, plain data out. Both types end in 'unit'. -/
structure Con where
  args : Ty
  res : Ty
  pre : args.T → Prop
  fn : args.T → res.T
  dec : ∀ x, Decidable (pre x) := by exact fun _ => Classical.propDecidable _
  /-- Is the second of two results an error, told by whether it is not nil? -/
  err : Bool := false

/-- Values that hold data, one by one. -/
def RdVs (ok : Nat → Prop) (w : World) : (t : Ty) → t.T → List Value → Prop
  | .unit, _, vs => vs = []
  | .pair t u, x, vs => ∃ v us, vs = v :: us ∧ RdV ok w t x.1 v ∧ RdVs ok w u x.2 us
  | _, _, _ => False

/-- The values of a call's results; e: the last of two is an error. -/
def RdR (e : Bool) (ok : Nat → Prop) (w : World) (t : Ty) (y : t.T) (vs : List Value) : Prop :=
  match e with
  | false => RdVs ok w t y vs
  | true => match t, y with
    | .pair u (.pair .bool .unit), y => ∃ v v2, vs = [v, v2] ∧ RdV ok w u y.1 v ∧ (match (y.2.1 : Bool) with | true => ∃ t p, v2 = .iface t p | false => v2 = .nilIface)
    | _, _ => False

def resV (vs : List Value) : Value :=
  match vs with
  | [v] => v
  | vs => .tuple ⟨vs⟩

def okNew (ok : Nat → Prop) (w w' : World) (b : Nat) : Prop := ok b ∨ w.heap.size ≤ b ∧ b < w'.heap.size

/-- The model enters this function where it is called. -/
def enters (P : Program) (f : FuncId) : Bool :=
  match P.funcs[f]? with
  | some fn => match fn.body with
    | some _ => !(fn.name == "runtime.NumGoroutine")
    | none => false
  | none => false

def Con.ok (P : Program) (G : World → Prop) (f : FuncId) (c : Con) : Prop :=
  enters P f = true ∧ ∀ (w : World) (ok : Nat → Prop) (vs : List Value) (x : c.args.T), G w → (∀ b, ok b → b < w.heap.size) → RdVs ok w c.args x vs → c.pre x →
    Calls P f ⟨vs⟩ w fun e w' => ∃ rs, e = .returned (resV rs) ∧ RdR c.err (okNew ok w w') w' c.res (c.fn x) rs ∧ Below w.heap.size w w'

theorem Con.ok_plain {P : Program} {G : World → Prop} {f : FuncId} {c : Con} (hc : c.err = false) (h : enters P f = true ∧ ∀ (w : World) (ok : Nat → Prop) (vs : List Value) (x : c.args.T), G w → (∀ b, ok b → b < w.heap.size) → RdVs ok w c.args x vs → c.pre x →
    Calls P f ⟨vs⟩ w fun e w' => ∃ rs, e = .returned (resV rs) ∧ RdVs (okNew ok w w') w' c.res (c.fn x) rs ∧ Below w.heap.size w w') : c.ok P G f := by
  unfold Con.ok
  rw [hc]
  exact h

abbrev Cons := List (Nat × Con)
def Cons.ok (P : Program) (G : World → Prop) : Cons → Prop
  | [] => True
  | (f, c) :: r => Con.ok P G f c ∧ Cons.ok P G r

def Cons.find : Cons → Nat → Option Con
  | [], _ => none
  | (g, c) :: r, f => match Nat.beq g f with | true => some c | false => Cons.find r f

theorem Cons.find_ok {P : Program} {G : World → Prop} {Γ : Cons} {f : Nat} {c : Con} (h : Γ.ok P G) (hf : Γ.find f = some c) : c.ok P G f := by
  induction Γ with
  | nil => cases hf
  | cons x r ih =>
    obtain ⟨g, d⟩ := x
    simp only [Cons.find] at hf
    cases hb : Nat.beq g f with
    | true => rw [hb] at hf; have := beq_true hb; subst this; injection hf with hf; subst hf; exact h.1
    | false => rw [hb] at hf; exact ih h.2 hf

def noSl : Ty → Bool
  | .sl _ => false
  | .pair t u => noSl t && noSl u
  | .arr _ t => noSl t
  | _ => true

def toArgs (H : Heap) : (t : Ty) → List AV → Option t.T
  | .unit, [] => some ()
  | .pair t u, a :: as => match toDL H t a.soft with
    | some x => match toArgs H u as with
      | some y => some (x, y)
      | none => none
    | none => none
  | _, _ => none

def isOwn : AV → Bool
  | .own _ _ _ => true
  | .ox _ _ _ => true
  | .sv _ _ _ _ => true
  | _ => false

def anyOwn : List AV → Bool
  | [] => false
  | a :: as => isOwn a || anyOwn as

def resAVs : (t : Ty) → t.T → List AV
  | .pair t u, x => .d t x.1 :: resAVs u x.2
  | _, _ => []

def resAV (l : List AV) : AV :=
  match l with
  | [a] => a
  | l => .tup l

/-- What a call by contract hands back. -/
def conRes (e : Bool) (t : Ty) (y : t.T) : T (AV × List (Nat × Bk)) :=
  match e with
  | false => .ok (resAV (resAVs t y), [])
  | true => match t, y with
    | .pair u (.pair .bool .unit), y => .ite y.2.1 (.ok (.tup [.d u y.1, .nni], [])) (.ok (.tup [.d u y.1, .nili], []))
    | _, _ => .bad

def flatRep {α : Type} (l : List α) : Nat → List α
  | 0 => []
  | n + 1 => l ++ flatRep l n

/-- Loads. -/
def loadAV (P : Program) (H : Heap) (t : TypeId) (a : AV) : T AV :=
  match a with
  | .ptr k off => match H.find k with
    | some (.vars _ cells) => T.ofO (readAV P t cells off)
    | _ => .bad
  | .eptr k i => match H.find k with
    | some (.row _ u l) => match isTy P t u with
      | true => .ok (.d u (l.getD i u.dflt))
      | false => match P.underlying t with
        | some (.array n _) => match isTy P t (.arr n u) with
          | true => .need (i + n ≤ l.length) (.ok (.d (.arr n u) ((l.drop i).take n)))
          | false => .bad
        | _ => .bad
    | _ => .bad
  | .efp k i f => match H.find k with
    | some (.row _ u l) => match nthD u (l.getD i u.dflt) f with
      | some (_, ⟨v, y⟩) => match isTy P t v with
        | true => .ok (.d v y)
        | false => .bad
      | none => .bad
    | _ => .bad
  | .dptr u x => match isTy P t u with
    | true => .ok (.d u x)
    | false => .bad
  | _ => .bad

/-- A new block of cells of which nothing is known yet. -/
def makeV (K : Nat) (e : TypeId) (i : TypeInfo) (n c : Int) : T (AV × List (Nat × Bk)) :=
  match i.zero with
  | some z => match Nat.beq i.size 1 && Nat.ble 1 i.bytes && z.oneCell' with
    | true => .need (0 ≤ n ∧ n = c ∧ c * (i.bytes : Int) ≤ 140737488355328) (.ok (.sv K 0 n.toNat n.toNat, [(K, .vars e (List.replicate n.toNat .no))]))
    | false => .bad
  | none => .bad

/-- A new row of zero values. -/
def makeI (P : Program) (K : Nat) (t : TypeId) (n c : Int) : T (AV × List (Nat × Bk)) :=
  match P.underlying t with
  | some (.slice e) => match tyOf P 20 e, zeroAVs P e, P.info? e with
    | none, _, some i => makeV K e i n c
    | some u, some zs, some i => match pack u zs with
      | some (x, []) => match Nat.beq i.size u.size && Nat.beq zs.length u.size && Nat.ble 1 i.bytes with
        | true => .need (0 ≤ n ∧ n ≤ c ∧ c * (i.bytes : Int) ≤ 140737488355328) (.ok (.own K 0 n.toNat, [(K, .row e u (List.replicate n.toNat x))]))
        | false => .bad
      | _ => .bad
    | _, _, _ => .bad
  | _ => .bad

/-- 'string' to '[]byte': new memory, which nobody writes. -/
def strBytes (P : Program) (s d : TypeId) (l : List UInt8) : T (AV × List (Nat × Bk)) :=
  match P.underlying s, P.underlying d with
  | some .string, some (.slice e) => match P.underlying e with
    | some (.int .u8) => .ok (.d (.sl (.int .u8)) (bytesI l), [])
    | _ => .bad
  | _, _ => .bad

/-- A mark: the first contract stands twice: built slices are data. -/
def Cons.twice : List (Nat × Con) → Bool
  | x :: y :: _ => Nat.beq x.1 y.1
  | _ => false

/-- A datum's elements appended to nil: new memory, which nobody writes. -/
def appendNew (bytes : Nat) (u : Ty) (xs : List u.T) : T (AV × List (Nat × Bk)) :=
  .need (xs.length * bytes ≤ 140737488355328) (.ok (.d (.sl u) xs, []))

def appendE (P : Program) (ts : List TypeId) (l : List AV) : T (AV × List (Nat × Bk)) :=
  match ts, l with
  | [t, t2], [.nsl, x] => match Nat.beq t t2 with
    | true => match P.underlying t with
      | some (.slice e) => match P.info? e with
        | some i => match tyOf P 20 e, zeroAVs P e with
          | some u, some zs => match Nat.beq i.size u.size && Nat.beq zs.length u.size && Nat.ble 1 i.bytes && Nat.ble 1 u.size with
            | true => match toD (.sl u) x with
              | some (xs : List u.T) => appendNew i.bytes u xs
              | none => .bad
            | false => .bad
          | _, _ => .bad
        | none => .bad
      | _ => .bad
    | false => .bad
  | _, _ => .bad

/-- Operations that read memory, make a block, or call by contract. K: the new block's key. -/
def evM (P : Program) (Γ : Cons) (K : Nat) (H : Heap) (arg : Operand → AV) (o : Oper) : T (AV × List (Nat × Bk)) :=
  match o.op with
  | .load t a => (loadAV P H t (arg a)).bind fun r => .ok (r, [])
  | .alloc e => match zeroAVs P e with
    | some zs => .ok (.ptr K 0, [(K, .vars e zs)])
    | none => .bad
  | .box e x => match cellsOf (arg x) with
    | some cells => .ok (.ptr K 0, [(K, .vars e cells)])
    | none => .bad
  | .buildSlice t n ps => match P.underlying t with
    | some (.slice e) => match tyOf P 20 e, zeroAVs P e, sizeAt P e with
      | some u, some zs, some m => match Nat.beq m u.size && Nat.beq zs.length m && Nat.ble (n * m) 16777216 && Nat.ble n 16777216 with
        | true => match fillAV (fun i => some (i * m, m)) (flatRep zs n) (ps.toList.map fun x => (x.1, arg x.2)) with
          | some cells => match pack (.arr n u) cells with
            | some (l, []) => match Cons.twice Γ with
              | true => .ok (.d (.sl u) l, [])
              | false => .ok (.ox K 0 n, [(K, .row e u l)])
            | _ => .bad
          | none => .bad
        | false => .bad
      | _, _, _ => .bad
    | _ => .bad
  | .convert s d x => match isBytes P d, arg x with
    | true, .d .str l => strBytes P s d l
    | _, _ => (evP P H arg o).bind fun r => .ok (r, [])
  | .makeMap t none => match P.underlying t with
    | some (.map kt _) => match kkAt P kt with
      | some k => .ok (.mp K, [(K, .dic k [])])
      | none => .bad
    | _ => .bad
  | .makeSlice t n c => match arg n with
    | .d (.int _) n => match arg c with
      | .d (.int _) c => makeI P K t n c
      | _ => .bad
    | _ => .bad
  | .call { callee := .value f, args, .. } => match arg f with
    | .fn g first caps => match Γ.find g with
      | some c => match noSl c.res || !(anyOwn (first ++ args.toList.map arg ++ caps)) with
        | true => match toArgs H c.args (first ++ args.toList.map arg ++ caps) with
          | some x => @T.need _ (c.pre x) (c.dec x) (conRes c.err c.res (c.fn x))
          | none => .bad
        | false => .bad
      | none => .bad
    | _ => .bad
  | .call { callee := .builtin .append, args, argTypes } => appendE P argTypes.toList (args.toList.map arg)
  | _ => (evP P H arg o).bind fun r => .ok (r, [])

section
variable {C : Ctx} {ρ : Nat → Nat} {H : Heap} {w : World} {P : Program}

/-- Nothing that was there has changed. -/
theorem MRel.grow {next : Nat} {w' : World} (hm : MRel C ρ H next w) (hb : Below w.heap.size w w') : MRel C ρ H next w' ∧ Ext C ρ H w ρ H w' := by
  have hn0 : C.w0.heap.size ≤ w.heap.size := hm.below.size
  have hext : Ext C ρ H w ρ H w' := by
    refine ⟨fun b ⟨h1, h2, h3⟩ => ⟨⟨h1, Nat.lt_of_lt_of_le h2 hb.size, h3⟩, hb.block b h2⟩, fun k hk => ⟨hk, rfl⟩, fun k e t l hmem => ⟨l, hmem, Nat.le_refl _, fun c fr hc => ⟨c, fr, ?_, rfl⟩⟩, hb.size⟩
    rw [hb.block _ (lt_of_block hc)]; exact hc
  exact ⟨⟨hm.below.trans (hb.mono hn0), hm.nodup, hm.lt, hm.inj, hm.low, fun k b hkb => (hm.mem k b hkb).ext hext (hb.block _ (hm.key_lt (mem_keys hkb)))⟩, hext⟩

theorem loadVar_part {t : TypeId} {b o : Nat} {c : Array Value} {e : TypeId} {fr : Nat × Nat} (hb : w.heap[b]? = some (.cells c e fr)) {ag : Bool} {n : Nat} (ha : aggOf P t = some ag) (hs : sizeAt P t = some n)
    (ho : o + n ≤ c.size) (h1 : ag = false → n = 1) : (loadVar t ⟨b, o, none⟩).run P w = (part t ⟨c.toList⟩ o).run P w := by
  cases ag with
  | true =>
    simp only [loadVar, part, Sem.run_bind, aggOf_run ha, sizeAt_run hs, Result.andThen_ok, if_true]
    have hl := run_loadCells_list (P := P) w ⟨b, o, none⟩ ((c.toList.drop o).take n) (by
      intro j v hj
      rw [add_mk]
      simp only [World.cell?, hb]
      have hlt : j < ((c.toList.drop o).take n).length := (List.getElem?_eq_some_iff.1 hj).1
      simp only [List.length_take, List.length_drop, Array.length_toList] at hlt
      rw [List.getElem?_take, if_pos (by omega), List.getElem?_drop, Array.getElem?_toList] at hj
      simpa using hj)
    have hlen : ((c.toList.drop o).take n).length = n := by simp; omega
    rw [hlen] at hl
    simp only [hl, Result.andThen_ok, Sem.run_pure]
    congr 2
    apply Array.ext'
    rw [Array.toList_extract, List.extract_eq_take_drop, Nat.add_sub_cancel_left]
  | false =>
    have h1 := h1 rfl
    subst h1
    have hlt : o < c.size := by omega
    simp [loadVar, part, aggOf_run ha, World.cell?, hb, hlt]

theorem loadAV_sound {H0 : Heap} (hsub : ∀ x ∈ H0, x ∈ H) {next : Nat} (hm : MRel C ρ H next w) {t : TypeId} {a r : AV} {v : Value} (h : (loadAV P H0 t a).Leaf r) (ha : VR C ρ H w a v) :
    ∃ v', (Instr.loadAt t v).run P w = .ok v' w ∧ VR C ρ H w r v' := by
  have data : ∀ (b o : Nat) (c : Array Value) (e : TypeId) (fr : Nat × Nat) (u : Ty) (y : u.T), w.heap[b]? = some (.cells c e fr) → isTy P t u = true → o + u.size ≤ c.size → Rd (Ok C ρ H w) w u y ((c.toList.drop o).take u.size) →
      ∃ v', (Instr.loadAt t (.pointer (some ⟨b, o, none⟩))).run P w = .ok v' w ∧ VR C ρ H w (.d u y) v' := by
    intro b o c e fr u y hb hty ho hr
    obtain ⟨h1, h2⟩ := isTy_sound hty
    obtain ⟨v', h5, h6⟩ := part_data (P := P) hty (by simpa using ho) hr
    refine ⟨v', ?_, .d h6⟩
    simp only [Instr.loadAt, Instr.sureAddr, Sem.run_bind, Sem.run_pure, Result.andThen_ok]
    rw [loadVar_part hb h1 h2 ho (fun h => by cases u <;> first | rfl | cases h)]
    exact h5
  unfold loadAV at h
  split at h
  · rename_i k off
    split at h
    · rename_i e cells hf
      have h := T.Leaf.ofO h
      have hk := hsub _ (Heap.find_mem hf)
      obtain ⟨c, hc1, hc2, hc3⟩ := hm.mem k _ hk
      obtain ⟨v', h5, h6⟩ := readAV_sound h hc2 hc3
      cases ha
      refine ⟨v', ?_, h6⟩
      simp only [Instr.loadAt, Instr.sureAddr, Sem.run_bind, Sem.run_pure, Result.andThen_ok]
      have hlen := hc2.length
      unfold readAV at h
      split at h
      · rename_i n hag hsz
        split at h
        · rename_i hle
          rw [loadVar_part hc1 hag hsz (by have := Nat.le_of_ble_eq_true hle; simp at hlen; omega) (fun h => by cases h)]
          exact h5
        · cases h
      · rename_i n hag hsz
        have hlt : off < cells.length := (List.getElem?_eq_some_iff.1 h).1
        have hlt' : off < c.size := by simp at hlen; omega
        have hp : (part t ⟨c.toList⟩ off).run P w = .ok c[off] w := by simp [part, aggOf_run hag, hlt']
        rw [hp] at h5
        simp only [loadVar, Sem.run_bind, aggOf_run hag, Result.andThen_ok, Bool.false_eq_true, if_false, run_load, World.cell?, hc1]
        simp [hlt'] at h5 ⊢
        exact h5
      · cases h
    · cases h
  · rename_i k i
    split at h
    · rename_i e u l hf
      split at h
      · rename_i hty
        cases h
        have hk := hsub _ (Heap.find_mem hf)
        obtain ⟨c, hc1, hc2, hc3, hc4, hc5⟩ := hm.mem k _ hk
        cases ha with
        | eptr hk' hi =>
          have hu' := Heap.mem_unique hm.nodup hk hk'
          injection hu' with hu1 hu2 hu3
          subst hu1; subst hu2
          have hu3 := eq_of_heq hu3
          subst hu3
          have hle : (i + 1) * u.size ≤ l.length * u.size := Nat.mul_le_mul_right _ hi
          rw [Nat.succ_mul] at hle
          have := RdL.getD (fun x cs => Rd.length u x cs) u.dflt l _ i hc4 hi
          rw [list_window _ _ _ _ hle] at this
          exact data _ _ _ _ _ _ _ hc1 hty (by omega) this
      · split at h
        · rename_i n e' hu
          split at h
          · rename_i hty
            cases h with
            | need hp h =>
              cases h
              have hk := hsub _ (Heap.find_mem hf)
              obtain ⟨c, hc1, hc2, hc3, hc4, hc5⟩ := hm.mem k _ hk
              cases ha with
              | eptr hk' hi =>
                have hu' := Heap.mem_unique hm.nodup hk hk'
                injection hu' with hu1 hu2 hu3
                subst hu1; subst hu2
                have hu3 := eq_of_heq hu3
                subst hu3
                have hle : (i + n) * u.size ≤ l.length * u.size := Nat.mul_le_mul_right _ hp
                rw [Nat.add_mul] at hle
                have h1 := RdL.take_drop (fun x cs => Rd.length u x cs) l _ i n hc4
                rw [list_window _ _ _ _ hle] at h1
                exact data _ _ _ _ _ _ _ hc1 hty (by show _ + n * u.size ≤ _; omega) ⟨by rw [List.length_take, List.length_drop]; omega, h1⟩
          · cases h
        · cases h
    · cases h
  · rename_i k i f
    split at h
    · rename_i e u l hf
      split at h
      · rename_i o v y hn
        split at h
        · rename_i hty
          cases h
          have hk := hsub _ (Heap.find_mem hf)
          obtain ⟨c, hc1, hc2, hc3, hc4, hc5⟩ := hm.mem k _ hk
          cases ha with
          | efp hk' hi ho =>
            have hu' := Heap.mem_unique hm.nodup hk hk'
            injection hu' with hu1 hu2 hu3
            subst hu1; subst hu2
            have hu3 := eq_of_heq hu3
            subst hu3
            obtain ⟨rfl, rfl⟩ : _ ∧ _ := by
              have := (offD_nth hn).symm.trans ho
              injection this with this
              injection this with t1 t2
              exact ⟨t1, t2⟩
            have hle : (i + 1) * u.size ≤ l.length * u.size := Nat.mul_le_mul_right _ hi
            rw [Nat.succ_mul] at hle
            have := RdL.getD (fun x cs => Rd.length u x cs) u.dflt l _ i hc4 hi
            rw [list_window _ _ _ _ hle] at this
            obtain ⟨h1, h2⟩ := nthD_sound _ _ _ _ _ _ _ hn this
            rw [List.drop_take, List.take_take, List.drop_drop, Nat.min_eq_left (by omega)] at h1
            exact data _ _ _ _ _ _ _ hc1 hty (by omega) h1
        · cases h
      · cases h
    · cases h
  · rename_i u x
    split at h
    · rename_i hty
      cases h
      cases ha with
      | dptr hb hc ho hr => exact data _ _ _ _ _ _ _ hc hty ho hr
    · cases h
  · cases h

end
end Go.Vg

namespace Go.Vg
open Go Go.RowKit

theorem flatRep_length {α : Type} (l : List α) (n : Nat) : (flatRep l n).length = n * l.length := by
  induction n with
  | zero => simp [flatRep]
  | succ n ih => simp [flatRep, ih, Nat.succ_mul, Nat.add_comm]

theorem flatRep_get {α : Type} (l : List α) : ∀ (n i : Nat), i < n * l.length → (flatRep l n)[i]? = l[i % l.length]?
  | 0, i, h => by simp at h
  | n + 1, i, h => by
    simp only [flatRep]
    by_cases hi : i < l.length
    · rw [List.getElem?_append_left hi, Nat.mod_eq_of_lt hi]
    · rw [List.getElem?_append_right (by omega), flatRep_get l n (i - l.length) (by rw [Nat.succ_mul] at h; omega)]
      rw [show i % l.length = (i - l.length) % l.length from Nat.mod_eq_sub_mod (by omega)]

theorem flatRep_take {α : Type} (l : List α) : ∀ (n c : Nat), n ≤ c → (flatRep l c).take (n * l.length) = flatRep l n
  | 0, c, _ => by simp [flatRep]
  | n + 1, 0, h => by omega
  | n + 1, c + 1, h => by
    simp only [flatRep]
    rw [List.take_append, List.take_of_length_le (by rw [Nat.succ_mul]; omega), ← flatRep_take l n c (by omega)]
    congr 2
    rw [Nat.succ_mul]; omega

theorem madeCells_flat (z : Array Value) (n : Nat) : (madeCells z (n * z.size)).toList = flatRep z.toList n := by
  apply List.ext_getElem?
  intro i
  by_cases hi : i < n * z.size
  · rw [flatRep_get z.toList n i (by simpa using hi)]
    have hpos : 0 < z.size := by
      rcases Nat.eq_zero_or_pos z.size with h | h
      · rw [h] at hi; simp at hi
      · exact h
    have hm : i % z.size < z.size := Nat.mod_lt _ hpos
    simp [madeCells, hi, hm]
  · rw [List.getElem?_eq_none (by simp [madeCells]; omega), List.getElem?_eq_none (by rw [flatRep_length]; simp; omega)]

theorem RdL.replicate {α : Type} {R : α → List Value → Prop} {x : α} {cs : List Value} (h : R x cs) : ∀ n, RdL R (List.replicate n x) (flatRep cs n)
  | 0 => rfl
  | n + 1 => by
    rw [List.replicate_succ]
    exact ⟨cs, flatRep cs n, rfl, h, RdL.replicate h n⟩

section
variable {C : Ctx} {ρ : Nat → Nat} {H : Heap} {w : World} {P : Program} {G : World → Prop}

theorem VRs.rep {as : List AV} {vs : List Value} (h : VRs C ρ H w as vs) : ∀ n, VRs C ρ H w (flatRep as n) (flatRep vs n)
  | 0 => .nil
  | n + 1 => h.append (VRs.rep h n)

theorem flatRep_mem {α : Type} {l : List α} {x : α} : ∀ {n : Nat}, x ∈ flatRep l n → x ∈ l
  | 0, h => by simp [flatRep] at h
  | n + 1, h => by
    rcases List.mem_append.1 h with h | h
    · exact h
    · exact flatRep_mem h

theorem Rd.noSl {ok ok' : Nat → Prop} {w w' : World} : ∀ (t : Ty) (x : t.T) (cs : List Value), noSl t = true → Rd ok w t x cs → Rd ok' w' t x cs
  | .int _, _, _, _, h => h
  | .bool, _, _, _, h => h
  | .str, _, _, _, h => h
  | .unit, _, _, _, h => h
  | .pair t u, _, _, hn, ⟨c1, c2, e, h1, h2⟩ => by
    simp only [Vg.noSl, Bool.and_eq_true] at hn
    exact ⟨c1, c2, e, Rd.noSl t _ _ hn.1 h1, Rd.noSl u _ _ hn.2 h2⟩
  | .arr _ t, _, _, hn, ⟨hl, hr⟩ => ⟨hl, RdL.mono (fun x cs => Rd.noSl t x cs hn) _ _ hr⟩
  | .sl _, _, _, hn, _ => by cases hn

theorem toArgs_sound {H0 : Heap} (hsub : ∀ x ∈ H0, x ∈ H) {next : Nat} (hm : MRel C ρ H next w) : ∀ (t : Ty) (as : List AV) (vs : List Value) (x : t.T), toArgs H0 t as = some x → VRs C ρ H w as vs →
    RdVs (OkL C ρ H w) w t x vs ∧ (anyOwn as = false → RdVs (Ok C ρ H w) w t x vs)
  | .unit, [], vs, x, h, hv => by cases hv; exact ⟨rfl, fun _ => rfl⟩
  | .pair t u, a :: as, vs, x, h, hv => by
    cases hv with
    | cons h1 h2 =>
      simp only [toArgs] at h
      split at h
      · rename_i y hy
        split at h
        · rename_i z hz
          injection h with h; subst h
          obtain ⟨k1, k2⟩ := toArgs_sound hsub hm u as _ z hz h2
          refine ⟨⟨_, _, rfl, toDL_sound hsub hm hy h1.soft, k1⟩, fun ho => ?_⟩
          simp only [anyOwn, Bool.or_eq_false_iff] at ho
          refine ⟨_, _, rfl, toD_sound ?_ h1, k2 ho.2⟩
          cases a <;> first | exact hy | cases ho.1
        · cases h
      · cases h
  | .int _, _, _, _, h, _ => by simp [toArgs] at h
  | .bool, _, _, _, h, _ => by simp [toArgs] at h
  | .str, _, _, _, h, _ => by simp [toArgs] at h
  | .arr _ _, _, _, _, h, _ => by simp [toArgs] at h
  | .sl _, _, _, _, h, _ => by simp [toArgs] at h
  | .unit, _ :: _, _, _, h, _ => by simp [toArgs] at h
  | .pair _ _, [], _, _, h, _ => by simp [toArgs] at h

theorem RdVs.vrs {ok : Nat → Prop} : ∀ (t : Ty) (x : t.T) (vs : List Value), (∀ (u : Ty) (y : u.T) (v : Value), (noSl t = true → noSl u = true) → RdV ok w u y v → RdV (Ok C ρ H w) w u y v) → RdVs ok w t x vs → VRs C ρ H w (resAVs t x) vs
  | .unit, _, vs, _, h => by obtain rfl : vs = [] := h; exact .nil
  | .pair t u, x, vs, hk, h => by
    obtain ⟨v, us, e, h1, h2⟩ := h
    subst e
    refine .cons (.d (hk t _ _ (fun h => ?_) h1)) (RdVs.vrs u _ _ (fun u' y' v' hu' => hk u' y' v' (fun h => hu' ?_)) h2)
    · simp only [noSl, Bool.and_eq_true] at h; exact h.1
    · simp only [noSl, Bool.and_eq_true] at h; exact h.2
  | .int _, _, _, _, h => h.elim
  | .bool, _, _, _, h => h.elim
  | .str, _, _, _, h => h.elim
  | .arr _ _, _, _, _, h => h.elim
  | .sl _, _, _, _, h => h.elim

theorem resAV_sound {l : List AV} {vs : List Value} (h : VRs C ρ H w l vs) : VR C ρ H w (resAV l) (resV vs) := by
  cases h with
  | nil => exact .tup .nil
  | cons h1 h2 =>
    cases h2 with
    | nil => exact h1
    | cons h3 h4 => exact .tup (.cons h1 (.cons h3 h4))

theorem conRes_sound {ok : Nat → Prop} {e : Bool} {t : Ty} {y : t.T} {vs : List Value} {r : AV × List (Nat × Bk)} (h : (conRes e t y).Leaf r)
    (hk : ∀ (u : Ty) (y : u.T) (v : Value), (noSl t = true → noSl u = true) → RdV ok w u y v → RdV (Ok C ρ H w) w u y v) (hr : RdR e ok w t y vs) : r.2 = [] ∧ VR C ρ H w r.1 (resV vs) := by
  cases e with
  | false =>
    cases h
    exact ⟨rfl, resAV_sound (RdVs.vrs _ _ _ hk hr)⟩
  | true =>
    cases t <;> try exact hr.elim
    rename_i u t2
    cases t2 <;> try exact hr.elim
    rename_i t2 t3
    cases t2 <;> try exact hr.elim
    cases t3 <;> try exact hr.elim
    obtain ⟨v, v2, rfl, h1, h2⟩ := hr
    obtain ⟨a, b, c⟩ := y
    have h3 := hk u a v (fun h => by simp only [noSl, Bool.and_eq_true] at h; exact h.1) h1
    cases b with
    | true =>
      obtain ⟨t, p, rfl⟩ := h2
      cases h with
      | t h => cases h; exact ⟨rfl, .tup (.cons (.d h3) (.cons .nni .nil))⟩
    | false =>
      obtain rfl := h2
      cases h with
      | f h => cases h; exact ⟨rfl, .tup (.cons (.d h3) (.cons .nili .nil))⟩

theorem conRes_new {e : Bool} {t : Ty} {y : t.T} {r : AV × List (Nat × Bk)} (h : (conRes e t y).Leaf r) : r.2 = [] := by
  cases e with
  | false => cases h; rfl
  | true =>
    cases t <;> try (cases h; done)
    rename_i u t2
    cases t2 <;> try (cases h; done)
    rename_i t2 t3
    cases t2 <;> try (cases h; done)
    cases t3 <;> try (cases h; done)
    obtain ⟨a, b, c⟩ := y
    cases b with
    | true =>
      cases h with
      | t h => cases h; rfl
    | false =>
      cases h with
      | f h => cases h; rfl

theorem enters_run {f : FuncId} (h : enters P f = true) (args : Array Value) : (callFunc f args).run P w = .ok (.enter f args) w := by
  unfold enters at h
  split at h
  · rename_i fn hf
    split at h
    · rename_i c hb
      have hn : (fn.name == "runtime.NumGoroutine") = false := by simpa using h
      simp only [callFunc, Sem.run_bind, run_program, Result.andThen_ok, hf, hn, hb, Option.isNone_some, Bool.false_eq_true, if_false, Sem.run_pure]
    · cases h
  · cases h

theorem call_run {o : Oper} {a : Act} {f : Operand} {args : Array Operand} {ts : Array TypeId} {g : FuncId} {vf vc : List Value} (ho : o.op = .call { callee := .value f, args, argTypes := ts })
    (hf : a.eval f = .func (.func g) ⟨vf⟩ ⟨vc⟩) (he : enters P g = true) : (execOp a.eval o).run P w = .ok (.enter g ⟨vf ++ args.toList.map a.eval ++ vc⟩) w := by
  simp only [execOp, ho, resolve, Deferred.ofValue, hf, Sem.run_bind, Sem.run_pure, Result.andThen_ok, invoke]
  rw [enters_run he]
  congr 2
  apply Array.ext'
  simp

theorem VRs_no : ∀ (vs : List Value), VRs C ρ H w (List.replicate vs.length .no) vs
  | [] => .nil
  | _ :: vs => .cons .no (VRs_no vs)

theorem makeV_wp {next K : Nat} (hm : MRel C ρ H next w) (hK : K ∉ H.keys) (hKn : K < next) {t e : TypeId} {i : TypeInfo} {n c : Int} {kn kc : IntKind} {r : AV} {new : Heap} {R : Value → World → Prop} {Z : Prop}
    (hu : P.underlying t = some (.slice e)) (hi : P.info? e = some i)
    (h : (makeV K e i n c).Leaf (r, new)) (val : ∀ v w', (Instr.makeSlice t (.int kn n) (.int kc c)).run P w = .ok v w' → R v w' → Z)
    (hnx : ∀ v ρ' w', MRel C ρ' (new ++ H) next w' → Ext C ρ H w ρ' (new ++ H) w' → VR C ρ' (new ++ H) w' r v → Below w.heap.size w w' → R v w') : Z := by
  unfold makeV at h
  split at h
  · rename_i z hzi
    split at h
    · rename_i hc
      simp only [Bool.and_eq_true] at hc
      obtain ⟨⟨hc1, hc3⟩, hone⟩ := hc
      have hc1 := beq_true hc1
      have hc3 := Nat.le_of_ble_eq_true hc3
      cases h with
      | need hp' h =>
        cases h
        obtain ⟨p0, p1, p2⟩ := hp'
        subst p1
        have hz1 : z.cells = #[z] := by cases z <;> first | rfl | (exfalso; revert hone; simp [Value.oneCell'])
        have hcb : n ≤ n * (i.bytes : Int) := by
          have h3 : (1 : Int) ≤ (i.bytes : Int) := by omega
          have := Int.mul_le_mul_of_nonneg_left h3 (show 0 ≤ n by omega)
          omega
        have hrun := run_make (P := P) w t e i z hu hi hzi kn kc n n p0 (Int.le_refl _) (by rw [Int.mul_comm]; omega) (by omega)
        have hmade : (madeCells z.cells (n.toNat * i.size)).toList = flatRep [z] n.toNat := by
          have := madeCells_flat z.cells n.toNat
          rw [hz1] at this ⊢
          rw [hc1]
          simpa using this
        have hlen : (madeCells z.cells (n.toNat * i.size)).toList.length = n.toNat := by rw [hmade, flatRep_length]; simp
        obtain ⟨hm', hext⟩ := hm.alloc (c := madeCells z.cells (n.toNat * i.size)) (e := e) (blk := .vars e (List.replicate n.toNat .no)) hK hKn (fun ρ' H' w' he hh => by
          refine ⟨_, hh, ?_, ?_⟩
          · have := VRs_no (C := C) (ρ := ρ') (H := H') (w := w') (madeCells z.cells (n.toNat * i.size)).toList
            rw [hlen] at this
            exact this
          · intro v hv
            rw [hmade] at hv
            have := flatRep_mem hv
            simp at this
            subst this
            exact hone)
        refine val _ _ hrun (hnx _ _ _ hm' hext ?_ ((Below.refl _ _).alloc (Nat.le_refl _) _))
        have hkk : K ∈ Heap.keys ([(K, Bk.vars e (List.replicate n.toNat .no))] ++ H) := mem_keys (b := .vars e (List.replicate n.toNat .no)) (by simp)
        have := VR.sv (o := 0) (C := C) (ρ := upd ρ K w.heap.size) (H := [(K, Bk.vars e (List.replicate n.toNat .no))] ++ H) (w := w.alloc (.cells (madeCells z.cells (n.toNat * i.size)) e)) (n := n.toNat) (cap := n.toNat) hkk (by unfold lim; omega) (Nat.le_refl _)
        rw [upd_same] at this
        exact this
    · cases h
  · cases h

theorem makeI_wp {next K : Nat} (hm : MRel C ρ H next w) (hK : K ∉ H.keys) (hKn : K < next) {t : TypeId} {n c : Int} {kn kc : IntKind} {r : AV} {new : Heap} {R : Value → World → Prop} {Z : Prop}
    (h : (makeI P K t n c).Leaf (r, new)) (val : ∀ v w', (Instr.makeSlice t (.int kn n) (.int kc c)).run P w = .ok v w' → R v w' → Z)
    (hnx : ∀ v ρ' w', MRel C ρ' (new ++ H) next w' → Ext C ρ H w ρ' (new ++ H) w' → VR C ρ' (new ++ H) w' r v → Below w.heap.size w w' → R v w') : Z := by
  unfold makeI at h
  split at h
  · rename_i e hu
    split at h
    · rename_i i _ hi
      exact makeV_wp hm hK hKn hu hi h val hnx
    · rename_i u zs i hty hz hi
      split at h
      · rename_i x hp
        split at h
        · rename_i hc
          simp only [Bool.and_eq_true] at hc
          obtain ⟨⟨hc1, hc2⟩, hc3⟩ := hc
          have hc1 := beq_true hc1
          have hc2 := beq_true hc2
          have hc3 := Nat.le_of_ble_eq_true hc3
          cases h with
          | need hp' h =>
            cases h
            obtain ⟨p0, p1, p2⟩ := hp'
            obtain ⟨z, hz1, hz2, hz3⟩ := zeroAVs_sound (C := C) (ρ := ρ) (H := H) (w := w) hz
            have hzi : i.zero = some z := by
              simp only [zeroValue, typeInfo, Sem.run_bind, run_program, Result.andThen_ok, hi, Sem.run_pure] at hz1
              cases hzz : i.zero with
              | none => rw [hzz] at hz1; simp at hz1
              | some z' => rw [hzz] at hz1; simp at hz1; rw [hz1]
            have hzl : z.cells.size = u.size := by have := hz2.length; simp at this; omega
            obtain ⟨c1, c2, e1, hl, h2⟩ := pack_sound _ _ _ _ _ hp hz2
            cases h2
            simp only [List.append_nil] at e1
            have hcb : c ≤ c * (i.bytes : Int) := by
              have h3 : (1 : Int) ≤ (i.bytes : Int) := by omega
              have := Int.mul_le_mul_of_nonneg_left h3 (show 0 ≤ c by omega)
              omega
            have hrun := run_make (P := P) w t e i z hu hi hzi kn kc n c p0 p1 (by rw [Int.mul_comm]; omega) (by omega)
            have hmade : (madeCells z.cells (c.toNat * i.size)).toList = flatRep z.cells.toList c.toNat := by
              rw [hc1, ← hzl]; exact madeCells_flat _ _
            have hmsz : (madeCells z.cells (c.toNat * i.size)).size = c.toNat * u.size := by rw [size_madeCells, hc1]
            have hle : n.toNat * u.size ≤ c.toNat * u.size := Nat.mul_le_mul_right _ (by omega)
            obtain ⟨hm', hext⟩ := hm.alloc (c := madeCells z.cells (c.toNat * i.size)) (e := e) (blk := .row e u (List.replicate n.toNat x)) hK hKn (fun ρ' H' w' he hh => by
              refine ⟨_, hh, by rw [List.length_replicate, hmsz]; exact hle, by rw [List.length_replicate]; unfold lim; omega, ?_, ?_⟩
              · rw [hmade, List.length_replicate]
                have : (flatRep z.cells.toList c.toNat).take (n.toNat * u.size) = flatRep z.cells.toList n.toNat := by
                  rw [← hzl]
                  have := flatRep_take z.cells.toList n.toNat c.toNat (by omega)
                  simpa using this
                rw [this, e1]
                exact RdL.replicate (Rd.mono he.data u x _ hl) _
              · intro v hv
                rw [hmade] at hv
                exact hz3 v (flatRep_mem hv))
            refine val _ _ hrun (hnx _ _ _ hm' hext ?_ ((Below.refl _ _).alloc (Nat.le_refl _) _))
            refine .own (e := e) (t := u) (l := List.replicate n.toNat x) (c := madeCells z.cells (c.toNat * i.size)) (fr := (0, 0)) (by simp) (by simp) (by omega) (by unfold maxLen; omega) ?_ (by rw [hmsz, Nat.zero_add]) (Or.inl ?_)
            · rw [upd_same]; show (w.heap.push _)[w.heap.size]? = _; simp
            · rw [upd_same]; simp
        · cases h
      · cases h
    · cases h
  · cases h

theorem rdl_bytes {ok : Nat → Prop} {w' : World} : ∀ l : List UInt8, RdL (Rd ok w' (.int .u8)) (bytesI l) (l.map fun b => Value.int .u8 (b.toNat : Int))
  | [] => rfl
  | b :: l => ⟨[.int .u8 (b.toNat : Int)], _, rfl, ⟨rfl, by show (0 : Int) ≤ ((b.toNat : Nat) : Int); omega, by show ((b.toNat : Nat) : Int) ≤ 255; have := b.toNat_lt; omega⟩, rdl_bytes l⟩

theorem rdV_bytes {ok : Nat → Prop} {w' : World} {l : List Int} {b o cap : Nat} {c : Array Value} {e : TypeId} {fr : Nat × Nat} (hok : ok b) (hb : w'.heap[b]? = some (.cells c e fr)) (hcap : l.length ≤ cap) (hlim : l.length ≤ lim)
    (hsz : o + l.length ≤ c.size) (hr : RdL (Rd ok w' (.int .u8)) l ((c.toList.drop o).take l.length)) : RdV ok w' (.sl (.int .u8)) l (.slice (some ⟨b, o, none⟩) l.length cap) := by
  refine ⟨_, ⟨_, cap, rfl, hcap, hlim, Or.inr ⟨b, o, c, e, fr, rfl, hok, hb, ?_, ?_⟩⟩, rfl⟩
  · show o + l.length * 1 ≤ c.size
    omega
  · show RdL (Rd ok w' (.int .u8)) l ((c.toList.drop o).take (l.length * 1))
    rw [Nat.mul_one]; exact hr

/-- '[]byte(s)': new memory. -/
theorem strBytes_wp {next : Nat} (hm : MRel C ρ H next w) {s d : TypeId} {l : List UInt8} {r : AV} {new : Heap} {R : Value → World → Prop} {Z : Prop} (hl : l.length ≤ lim)
    (h : (strBytes P s d l).Leaf (r, new)) (val : ∀ v w', (convert s d (.string ⟨⟨l⟩⟩)).run P w = .ok v w' → R v w' → Z)
    (hnx : ∀ v ρ' w', MRel C ρ' (new ++ H) next w' → Ext C ρ H w ρ' (new ++ H) w' → VR C ρ' (new ++ H) w' r v → Below w.heap.size w w' → R v w') : Z := by
  unfold strBytes at h
  split at h
  · rename_i e hs hd
    split at h
    · rename_i he
      cases h
      have hrun := run_bytes_of_string (P := P) w s d e ⟨⟨l⟩⟩ hs hd he
      have hsz0 : (⟨⟨l⟩⟩ : ByteArray).size = l.length := rfl
      rw [hsz0] at hrun
      have hB : ∃ B, bytesRow ⟨⟨l⟩⟩ (grownCap w l.length 0 e) = B ∧ B.toList.take l.length = (l.map fun b => Value.int .u8 (b.toNat : Int)) ∧ l.length ≤ B.size := ⟨_, rfl, by simp [bytesRow], by simp [bytesRow]⟩
      obtain ⟨B, hB1, hB2, hB3⟩ := hB
      rw [hB1] at hrun
      have hW : ∃ W, w.drew.alloc (.cells B e (B.size, B.size + 1)) = W := ⟨_, rfl⟩
      obtain ⟨W, hW⟩ := hW
      have hb : Below w.heap.size w W := by rw [← hW]; exact ((Below.refl _ _).drew).alloc (Nat.le_refl _) _
      have hheap : W.heap[w.heap.size]? = some (.cells B e (B.size, B.size + 1)) := by rw [← hW]; show (w.heap.push _)[w.heap.size]? = _; simp
      have hWs : w.heap.size < W.heap.size := by rw [← hW]; simp
      rw [hW] at hrun
      refine val _ _ hrun ?_
      obtain ⟨hm', hext⟩ := hm.grow hb
      refine hnx _ ρ _ hm' hext ?_ hb
      have hlen : (bytesI l).length = l.length := by simp [bytesI]
      have hge := grownCap_ge w l.length 0 e
      have := rdV_bytes (ok := Ok C ρ H W) (w' := W) (l := bytesI l) (b := w.heap.size) (o := 0) (cap := grownCap w l.length 0 e) (c := B) ⟨Or.inr hm.below.size, hWs, fun k hk => by have := hm.key_lt hk; omega⟩ hheap (by rw [hlen]; exact hge) (by rw [hlen]; exact hl) (by rw [hlen]; omega)
        (by rw [hlen, List.drop_zero, hB2]; exact rdl_bytes l)
      rw [hlen] at this
      exact .d this
    · cases h
  · cases h

theorem append_none {t ty e : TypeId} {i : TypeInfo} (hu : P.underlying t = some (.slice e)) (hi : P.info? e = some i) (b a : Option Addr) (sLen sCap cap : Nat) (h : sLen ≤ sCap) :
    (Builtin.append_ #[t, t] ty #[.slice b sLen sCap, .slice a 0 cap]).run P w = .ok (.slice b sLen sCap) w := by
  cases a <;> cases b <;> simp [Builtin.append_, run_underlying hu, sizeOf, typeInfo, hi, Builtin.lenOf, Builtin.firstCells, loadCells, loadCellsFrom, h, storeCells]

theorem zero_of {e : TypeId} {i : TypeInfo} {zs : List AV} (hi : P.info? e = some i) (hz : zeroAVs P e = some zs) : ∃ z, i.zero = some z ∧ z.cells.size = zs.length ∧ ∀ v ∈ z.cells.toList, v.oneCell' = true := by
  unfold zeroAVs at hz
  rw [hi] at hz
  simp only at hz
  split at hz
  · rename_i z hz'
    split at hz
    · rename_i ho
      injection hz with hz
      refine ⟨z, hz', ?_, allOne_sound ho⟩
      rw [← hz]
      have : ∀ l : List Value, (constAVs l).length = l.length := by
        intro l; induction l with
        | nil => rfl
        | cons v l ih => simp [constAVs, ih]
      rw [this]; simp
    · cases hz
  · cases hz

theorem zeroCells_one {z : Value} {n : Nat} (h : ∀ v ∈ z.cells.toList, v.oneCell' = true) : ∀ v ∈ (Builtin.zeroCells z.cells n).toList, v.oneCell' = true := by
  intro v hv
  have e : Builtin.zeroCells z.cells n = madeCells z.cells (n * z.cells.size) := rfl
  rw [e, madeCells_flat] at hv
  exact h v (flatRep_mem hv)

theorem appendNew_wp {next : Nat} (hm : MRel C ρ H next w) {t ty e : TypeId} {i : TypeInfo} {zs : List AV} {u : Ty} {xs : List u.T} {x : AV} {vx : Value} {r : AV} {new : Heap} {R : Value → World → Prop} {Z : Prop}
    (hu : P.underlying t = some (.slice e)) (hi : P.info? e = some i) (hz : zeroAVs P e = some zs) (hc1 : i.size = u.size) (hc3 : 1 ≤ i.bytes) (hx : toD (.sl u) x = some xs) (hvx : VR C ρ H w x vx)
    (h : (appendNew i.bytes u xs).Leaf (r, new)) (val : ∀ v w', (Builtin.append_ #[t, t] ty #[.slice none 0 0, vx]).run P w = .ok v w' → R v w' → Z)
    (hnx : ∀ v ρ' w', MRel C ρ' (new ++ H) next w' → Ext C ρ H w ρ' (new ++ H) w' → VR C ρ' (new ++ H) w' r v → Below w.heap.size w w' → R v w') : Z := by
  unfold appendNew at h
  cases h with
  | need hp h =>
    cases h
    obtain ⟨z, hz1, hz2, hz3⟩ := zero_of hi hz
    obtain ⟨a', cap', ev, h1, h2, h3⟩ := (toD_sound hx hvx).scalar rfl
    injection ev with ev _
    subst ev
    have fin0 : xs = [] → Z := by
      intro h0
      have hrun := append_none (P := P) (w := w) (ty := ty) hu hi none a' 0 0 cap' (Nat.le_refl _)
      refine val _ _ (by rw [show List.length xs = 0 by rw [h0]; rfl]; exact hrun) (hnx _ ρ w hm (Ext.refl _ _ _ _) ?_ (Below.refl _ _))
      exact .d (RdV.of_scalar rfl ⟨none, 0, by rw [h0]; rfl, by rw [h0]; exact Nat.le_refl _, h2, Or.inl h0⟩)
    rcases h3 with h3 | ⟨b, o, c, e', fr, ha, hok, hb, hs, hr⟩
    · exact fin0 h3
    · by_cases h0 : xs = []
      · exact fin0 h0
      have hpos : 0 < List.length xs := List.length_pos_iff.2 h0
      have hcl := RdL.length (fun x cs => Rd.length u x cs) _ _ hr
      have hmul : List.length xs * 1 ≤ List.length xs * i.bytes := Nat.mul_le_mul_left _ hc3
      subst ha
      have hrun := run_append_nil (P := P) w t ty e i z hu hi hz1 ⟨b, o, none⟩ (List.length xs) cap' ((c.toList.drop o).take (List.length xs * u.size)) (by rw [hcl, hc1]) (by
        intro j v hj
        have hlt : j < ((c.toList.drop o).take (List.length xs * u.size)).length := (List.getElem?_eq_some_iff.1 hj).1
        rw [add_mk]
        simp only [World.cell?, hb]
        rw [hcl] at hlt
        rw [List.getElem?_take, if_pos hlt, List.getElem?_drop, Array.getElem?_toList] at hj
        simpa using hj) hpos (by omega) (by omega)
      have hge := grownCap_ge w (List.length xs) 0 e
      have hB : ∃ B : Array Value, ((c.toList.drop o).take (List.length xs * u.size)).toArray ++ Builtin.zeroCells z.cells (grownCap w (List.length xs) 0 e - List.length xs) = B ∧ B.toList.take (List.length xs * u.size) = (c.toList.drop o).take (List.length xs * u.size) ∧ List.length xs * u.size ≤ B.size :=
        ⟨_, rfl, by simp only [Array.toList_append]; rw [List.take_append_of_le_length (by rw [hcl]; exact Nat.le_refl _), List.take_of_length_le (by rw [hcl]; exact Nat.le_refl _)],
          by rw [Array.size_append, List.size_toArray, hcl]; exact Nat.le_add_right _ _⟩
      obtain ⟨B, hB1, hB2, hB3⟩ := hB
      rw [hB1] at hrun
      have hW : ∃ W, w.drew.alloc (.cells B e) = W := ⟨_, rfl⟩
      obtain ⟨W, hW⟩ := hW
      have hbl : Below w.heap.size w W := by rw [← hW]; exact ((Below.refl _ _).drew).alloc (Nat.le_refl _) _
      have hheap : W.heap[w.heap.size]? = some (.cells B e) := by rw [← hW]; show (w.heap.push _)[w.heap.size]? = _; simp
      have hWs : w.heap.size < W.heap.size := by rw [← hW]; simp
      rw [hW] at hrun
      refine val _ _ hrun ?_
      obtain ⟨hm', hext⟩ := hm.grow hbl
      refine hnx _ ρ _ hm' hext (.d (RdV.of_scalar rfl ⟨_, _, rfl, hge, h2, Or.inr ⟨w.heap.size, 0, B, e, _, rfl, ⟨Or.inr hm.below.size, hWs, fun k hk => by have := hm.key_lt hk; omega⟩, hheap, by omega, ?_⟩⟩)) hbl
      rw [List.drop_zero, hB2]
      exact RdL.mono (fun x cs => Rd.mono (fun b hb => hext.data b hb) u x cs) _ _ hr

/-- What an operation that reads, makes a block or calls by contract leaves behind. -/
theorem evM_wp {H0 : Heap} (hsub : ∀ x ∈ H0, x ∈ H) {next K : Nat} (hm : MRel C ρ H next w) (hK : K ∉ H.keys) (hKn : K < next) {Γ : Cons} (hΓ : Γ.ok P G) (hG : G w)
    {a : Act} {arg : Operand → AV} (hv : ∀ x, VR C ρ H w (arg x) (a.eval x)) {o : Oper} {r : AV} {new : Heap} (h : (evM P Γ K H0 arg o).Leaf (r, new))
    {nx : Act → World → Prop} {Q : Exit → Act → World → Prop}
    (hnx : ∀ v ρ' w', MRel C ρ' (new ++ H) next w' → Ext C ρ H w ρ' (new ++ H) w' → VR C ρ' (new ++ H) w' r v → Below w.heap.size w w' → nx (a.put o.dst v) w') : o.wp P a w nx Q := by
  have val : ∀ v w', (execOp a.eval o).run P w = .ok (.value v) w' → nx (a.put o.dst v) w' → o.wp P a w nx Q := by
    intro v w' h1 h2
    unfold Oper.wp
    rw [h1]
    exact h2
  have pur : (evP P H0 arg o).Leaf r → new = [] → o.wp P a w nx Q := by
    intro h1 h2
    subst h2
    obtain ⟨v, h3, h4⟩ := evP_sound hsub hm h1 hv
    exact val v w h3 (hnx v ρ w hm (Ext.refl _ _ _ _) h4 (Below.refl _ _))
  unfold evM at h
  split at h
  · rename_i t x ho
    obtain ⟨r', h1, h2⟩ := T.Leaf.bind h
    cases h2
    obtain ⟨v, h3, h4⟩ := loadAV_sound hsub hm h1 (hv x)
    exact val v w (by simp [execOp, ho, h3]) (hnx v ρ w hm (Ext.refl _ _ _ _) h4 (Below.refl _ _))
  · rename_i e ho
    split at h
    · rename_i zs hz
      cases h
      obtain ⟨z, hz1, hz2, hz3⟩ := zeroAVs_sound (C := C) (ρ := ρ) (H := H) (w := w) hz
      obtain ⟨hm', hext⟩ := hm.alloc (c := z.cells) (e := e) (blk := .vars e zs) hK hKn (fun ρ' H' w' he hh => ⟨_, hh, hz2.imp (fun _ _ => he.vr), hz3⟩)
      refine val (.pointer (some ⟨w.heap.size, 0, none⟩)) (w.alloc (.cells z.cells e)) ?_ (hnx _ _ _ hm' hext ?_ ((Below.refl _ _).alloc (Nat.le_refl _) _))
      · simp [execOp, ho, Instr.alloc, hz1, newVar, newRow]
      · have := VR.ptr (C := C) (w := w.alloc (.cells z.cells e)) (ρ := upd ρ K w.heap.size) (H := (K, .vars e zs) :: H) (k := K) (off := 0) (by simp [Heap.keys])
        rw [upd_same] at this
        exact this
    · cases h
  · rename_i e x ho
    split at h
    · rename_i cells hc
      cases h
      obtain ⟨hc1, hc2⟩ := cellsOf_sound hc (hv x)
      obtain ⟨hm', hext⟩ := hm.alloc (c := (a.eval x).cells) (e := e) (blk := .vars e cells) hK hKn (fun ρ' H' w' he hh => ⟨_, hh, hc1.imp (fun _ _ => he.vr), hc2⟩)
      refine val (.pointer (some ⟨w.heap.size, 0, none⟩)) (w.alloc (.cells (a.eval x).cells e)) ?_ (hnx _ _ _ hm' hext ?_ ((Below.refl _ _).alloc (Nat.le_refl _) _))
      · simp [execOp, ho, Instr.box, newVar, newRow]
      · have := VR.ptr (C := C) (w := w.alloc (.cells (a.eval x).cells e)) (ρ := upd ρ K w.heap.size) (H := (K, .vars e cells) :: H) (k := K) (off := 0) (by simp [Heap.keys])
        rw [upd_same] at this
        exact this
    · cases h
  · rename_i t n ps ho
    split at h
    · rename_i e hu
      split at h
      · rename_i u zs m hty hz hs
        split at h
        · rename_i hc
          simp only [Bool.and_eq_true] at hc
          obtain ⟨⟨⟨hc1, hc2⟩, hc3⟩, hc4⟩ := hc
          have hc1 := beq_true hc1
          have hc2 := beq_true hc2
          have hc3 := Nat.le_of_ble_eq_true hc3
          have hc4 := Nat.le_of_ble_eq_true hc4
          subst hc1
          split at h
          · rename_i cells hf
            split at h
            · rename_i l hp
              obtain ⟨z, hz1, hz2, hz3⟩ := zeroAVs_sound (C := C) (ρ := ρ) (H := H) (w := w) hz
              have hzl : z.cells.size = u.size := by have := hz2.length; simp at this; omega
              obtain ⟨rs, hr1, hr2, hr3⟩ := fillAV_sound _ _ _ _ _ hf (hz2.rep n) (fun v hv => hz3 v (flatRep_mem hv)) (Parts.ofMap hv ps.toList)
              obtain ⟨c1, c2, e1, hl, h2⟩ := pack_sound _ _ _ _ _ hp hr2
              cases h2
              simp only [List.append_nil] at e1
              subst e1
              obtain ⟨hl1, hl2⟩ := hl
              have hlen := RdL.length (fun x cs => Rd.length u x cs) _ _ hl2
              rw [hl1] at hlen
              have hexec : (execOp a.eval o).run P w = .ok (.value (.slice (some ⟨w.heap.size, 0, none⟩) n n)) (w.alloc (.cells ⟨rs⟩ e)) := by
                have hmade : (Array.range (n * u.size)).map ((if n * u.size = 0 then #[] else z.cells)[· % (if n * u.size = 0 then #[] else z.cells).size]!) = ⟨flatRep z.cells.toList n⟩ := by
                  by_cases h0 : n * u.size = 0
                  · apply Array.ext'
                    have : flatRep z.cells.toList n = [] := List.eq_nil_of_length_eq_zero (by rw [flatRep_length]; simp [hzl, h0])
                    simp [h0, this]
                  · have := madeCells_flat z.cells n
                    rw [hzl] at this
                    simp only [h0, if_false]
                    apply Array.ext'
                    exact this
                have hfill : Instr.fill (fun i => some (i * u.size, u.size)) ⟨flatRep z.cells.toList n⟩ (ps.map fun x => (x.1, a.eval x.2)).toList = some ⟨rs⟩ := by
                  rw [← hr1]; simp
                simp only [execOp, ho, Instr.buildSlice, Sem.run_bind, run_underlying hu, sizeAt_run hs, Result.andThen_ok, Sem.run_ite]
                rw [if_neg (by omega)]
                simp only [Sem.run_pure, Result.andThen_ok]
                by_cases h0 : n * u.size = 0
                · simp only [h0, if_true] at hmade ⊢
                  rw [hmade, hfill]
                  rfl
                · simp only [h0, if_false, hz1, Result.andThen_ok] at hmade ⊢
                  rw [hmade, hfill]
                  rfl
              split at h
              · cases h
                have hb : Below w.heap.size w (w.alloc (.cells ⟨rs⟩ e)) := (Below.refl _ _).alloc (Nat.le_refl _) _
                obtain ⟨hm', hext⟩ := hm.grow hb
                have hll : List.length l = n := hl1
                refine val _ _ hexec (hnx _ ρ _ hm' hext ?_ hb)
                refine .d (RdV.of_scalar rfl ⟨some ⟨w.heap.size, 0, none⟩, n, by rw [hll], by rw [hll]; exact Nat.le_refl _, by rw [hll]; unfold lim; omega, Or.inr ⟨w.heap.size, 0, ⟨rs⟩, e, (0, 0), rfl, ⟨Or.inr hm.below.size, by simp, fun k hk => by have := hm.key_lt hk; omega⟩, ?_, ?_, ?_⟩⟩)
                · show (w.heap.push _)[w.heap.size]? = _; simp
                · show 0 + List.length l * u.size ≤ rs.length; rw [hll]; omega
                · show RdL _ l ((rs.drop 0).take (List.length l * u.size))
                  rw [hll, List.drop_zero, ← hlen, List.take_length]
                  exact RdL.mono (fun x cs => Rd.mono (fun b hb => hext.data b hb) u x cs) _ _ hl2
              cases h
              obtain ⟨hm', hext⟩ := hm.alloc (c := ⟨rs⟩) (e := e) (blk := .row e u l) hK hKn (fun ρ' H' w' he hh => ⟨_, hh, by show List.length l * _ ≤ rs.length; rw [hl1]; omega, by show List.length l ≤ lim; rw [hl1]; unfold lim; omega, by
                show RdL _ l (rs.take (List.length l * u.size))
                rw [hl1, ← hlen, List.take_length]
                exact RdL.mono (fun x cs => Rd.mono he.data u x cs) _ _ hl2, hr3⟩)
              refine val _ _ hexec (hnx _ _ _ hm' hext ?_ ((Below.refl _ _).alloc (Nat.le_refl _) _))
              refine .ox (e := e) (t := u) (l := l) (c := ⟨rs⟩) (fr := (0, 0)) (by simp) (by show 0 + n ≤ List.length l; rw [hl1]; omega) (by unfold maxLen; omega) ?_ (by show (0 + n) * u.size = rs.length; rw [hlen, Nat.zero_add]) (Or.inl ?_)
              · rw [upd_same]; show (w.heap.push _)[w.heap.size]? = _; simp
              · rw [upd_same]; simp
            · cases h
          · cases h
        · cases h
      · cases h
    · cases h
  · rename_i s d x ho
    split at h
    · rename_i l hb hx
      have hvx := hv x
      rw [hx] at hvx
      obtain ⟨e1, hlim⟩ := str_value hvx
      exact strBytes_wp hm hlim h (fun v w' hrun hz => val v w' (by simp [execOp, ho, e1, hrun]) hz) hnx
    · obtain ⟨r', h1, h2⟩ := T.Leaf.bind h
      cases h2
      exact pur h1 rfl
  · rename_i t ho
    split at h
    · rename_i kt et hu
      split at h
      · rename_i k hk
        cases h
        obtain ⟨hm', hext⟩ := hm.allocO (ob := .map #[] 0) (blk := .dic k []) hK hKn (fun ρ' H' w' he hh => ⟨_, _, hh, trivial⟩)
        refine val (.map (some w.heap.size)) (w.alloc (.map #[] 0)) ?_ (hnx _ _ _ hm' hext ?_ ((Below.refl _ _).alloc (Nat.le_refl _) _))
        · simp only [execOp, ho]; rfl
        · have := VR.mp (C := C) (w := w.alloc (.map #[] 0)) (ρ := upd ρ K w.heap.size) (H := (K, .dic k []) :: H) (k := K) (by simp [Heap.keys])
          rw [upd_same] at this
          exact this
      · cases h
    · cases h
  · rename_i t n c ho
    have hn := hv n
    have hc := hv c
    split at h
    · rename_i kn n' hn'
      rw [hn'] at hn
      split at h
      · rename_i kc c' hc'
        rw [hc'] at hc
        obtain ⟨en, _⟩ := int_value hn
        obtain ⟨ec, _⟩ := int_value hc
        exact makeI_wp hm hK hKn (kn := kn) (kc := kc) h (fun v w' hrun hx => val v w' (by simp [execOp, ho, en, ec, hrun]) hx) hnx
      · cases h
    · cases h
  · rename_i f args ts ho
    split at h
    · rename_i g first caps hg
      split at h
      · rename_i c hc
        split at h
        · rename_i hns
          split at h
          · rename_i x hx
            cases h with
            | need hp h =>
              have hf := hv f
              rw [hg] at hf
              generalize hvf : a.eval f = vf at hf
              cases hf with
              | fn h1 h2 =>
                obtain ⟨he, hcon⟩ := Cons.find_ok hΓ hc
                obtain ⟨k1, k2⟩ := toArgs_sound hsub hm _ _ _ _ hx ((h1.append (VRs.ofMap hv args.toList)).append h2)
                unfold Oper.wp
                rw [call_run ho hvf he]
                show Calls P g _ w _
                have hlt : ∀ b, OkL C ρ H w b → b < w.heap.size := by
                  rintro b (hb | ⟨k, hk, e⟩)
                  · exact hb.2.1
                  · subst e; exact hm.key_lt hk
                by_cases hsl : noSl c.res = true
                · refine (hcon w (OkL C ρ H w) _ x hG hlt k1 hp).mono ?_
                  rintro e w' ⟨rs, rfl, hr, hb⟩
                  obtain ⟨hm', hext⟩ := hm.grow hb
                  obtain ⟨e0, h0⟩ := conRes_sound h (fun u y v hu hy => by
                    obtain ⟨cs, h5, h6⟩ := hy
                    exact ⟨cs, Rd.noSl _ _ _ (hu hsl) h5, h6⟩) hr
                  obtain rfl : new = [] := e0
                  exact hnx _ ρ w' hm' hext h0 hb
                · have hno : anyOwn (first ++ args.toList.map arg ++ caps) = false := by
                    cases hh : anyOwn (first ++ args.toList.map arg ++ caps) with
                    | false => rfl
                    | true => rw [hh] at hns; simp at hns; exact absurd hns hsl
                  refine (hcon w (Ok C ρ H w) _ x hG (fun b hb => hb.2.1) (k2 hno) hp).mono ?_
                  rintro e w' ⟨rs, rfl, hr, hb⟩
                  obtain ⟨hm', hext⟩ := hm.grow hb
                  obtain ⟨e0, h0⟩ := conRes_sound h (fun u y v _ hy => hy.mono (by
                    rintro b (hb' | ⟨hb1, hb2⟩)
                    · exact ⟨(hext.data b hb').1, rfl⟩
                    · exact ⟨⟨Or.inr (Nat.le_trans hm.below.size hb1), hb2, fun k hk e => by have := hm.key_lt hk; omega⟩, rfl⟩)) hr
                  obtain rfl : new = [] := e0
                  exact hnx _ ρ w' hm' hext h0 hb
          · cases h
        · cases h
      · cases h
    · cases h
  · rename_i args ts ho
    unfold appendE at h
    split at h
    case h_2 => cases h
    rename_i t t2 x hts hl
    split at h
    case h_2 => cases h
    rename_i htt
    have htt := beq_true htt
    subst htt
    split at h
    case h_2 => cases h
    rename_i e hu
    split at h
    case h_2 => cases h
    rename_i i hi
    split at h
    case h_2 => cases h
    rename_i u zs hty hz
    split at h
    case h_2 => cases h
    rename_i hc
    simp only [Bool.and_eq_true] at hc
    obtain ⟨⟨⟨hc1, hc2⟩, hc3⟩, hc4⟩ := hc
    split at h
    case h_2 => cases h
    rename_i xs hxs
    obtain ⟨y1, y2, hargs, hy1, hy2⟩ : ∃ y1 y2, args.toList = [y1, y2] ∧ arg y1 = .nsl ∧ arg y2 = x := by
      match hq : args.toList, hl with
      | [y1, y2], hl => simp at hl; exact ⟨y1, y2, rfl, hl.1, hl.2⟩
      | [], hl => simp at hl
      | [_], hl => simp at hl
      | _ :: _ :: _ :: _, hl => simp at hl
    have e1 : args.map a.eval = #[a.eval y1, a.eval y2] := by apply Array.ext'; simp [hargs]
    have e2 : ts = #[t, t] := by apply Array.ext'; simp [hts]
    have hv1 := hv y1
    rw [hy1] at hv1
    have ev1 : a.eval y1 = .slice none 0 0 := by generalize a.eval y1 = v at hv1; cases hv1; rfl
    have hv2 := hv y2
    rw [hy2] at hv2
    refine appendNew_wp (ty := o.type) hm hu hi hz (beq_true hc1) (Nat.le_of_ble_eq_true hc3) hxs hv2 h (fun v w' hrun hx => val v w' ?_ hx) hnx
    subst e2
    simp [execOp, ho, resolve, invoke, builtin, e1, ev1, hrun]
  · obtain ⟨r', h1, h2⟩ := T.Leaf.bind h
    cases h2
    exact pur h1 rfl
end
end Go.Vg

namespace Go.Vg
open Go Go.RowKit

def over {α : Type} (l : List α) (o : Nat) (xs : List α) : List α := l.take o ++ xs ++ l.drop (o + xs.length)

/-- A struct with another n-th field. -/
def setD : (t : Ty) → t.T → Nat → (u : Ty) → u.T → Option t.T
  | .pair t _, x, 0, u, y => match u.as t y with
    | some z => some (z, x.2)
    | none => none
  | .pair _ r, x, n + 1, u, y => match setD r x.2 n u y with
    | some z => some (x.1, z)
    | none => none
  | _, _, _, _, _ => none

def storeSt (P : Program) (σ : St) (t : TypeId) (a x : AV) : T St :=
  match a with
  | .ptr k off => match σ.H.find k, cellsOf x, sizeAt P t with
    | some (.vars e cells), some cs, some n => match Nat.beq cs.length n && Nat.ble (off + n) cells.length with
      | true => .ok { σ with H := σ.H.up k (.vars e (over cells off cs)) }
      | false => .bad
    | _, _, _ => .bad
  | .eptr k i => match σ.H.find k, sizeAt P t with
    | some (.row e u l), some n => match Nat.beq n u.size with
      | true => match toD u x with
        | some y => .ok { σ with H := σ.H.up k (.row e u (l.set i y)) }
        | none => .bad
      | false => .bad
    | _, _ => .bad
  | .efp k i f => match σ.H.find k, sizeAt P t with
    | some (.row e u l), some n => match offD u f with
      | some (_, v) => match Nat.beq n v.size with
        | true => match toD v x with
          | some y => match setD u (l.getD i u.dflt) f v y with
            | some z => .ok { σ with H := σ.H.up k (.row e u (l.set i z)) }
            | none => .bad
          | none => .bad
        | false => .bad
      | none => .bad
    | _, _ => .bad
  | _ => .bad

/-- Behind a slice that is as long as it can be. -/
def appendX (σ : St) (dst : Option Nat) (e : TypeId) (bytes : Nat) (u : Ty) (xs : List u.T) (k off len : Nat) : T St :=
  match σ.H.find k with
  | some (.row e' u' l) => match Nat.beq e e' with
    | true => match (u'.sl).as (.sl u) l with
      | some (l : List u.T) => .need ((len + xs.length) * bytes ≤ 140737488355328) (.ite xs.isEmpty (.ok (σ.put dst (.ox k off len)))
          (.ok (({ σ with H := (σ.next, .row e u ((l.drop off).take len ++ xs)) :: σ.H, next := σ.next + 1 } : St).put dst (.own σ.next 0 (len + xs.length)))))
      | none => .bad
    | false => .bad
  | _ => .bad

/-- Elements appended to the nil slice, or to a slice of one of the call's own rows that begins at its head. -/
def appendXs (σ : St) (dst : Option Nat) (e : TypeId) (bytes : Nat) (u : Ty) (xs : List u.T) (s : AV) : T St :=
  match s with
  | .nsl => .need (xs.length * bytes ≤ 140737488355328) (.ite xs.isEmpty (.ok (σ.put dst .nsl))
      (.ok (({ σ with H := (σ.next, .row e u xs) :: σ.H, next := σ.next + 1 } : St).put dst (.own σ.next 0 xs.length))))
  | .own k 0 len => match σ.H.find k with
    | some (.row e' u' l) => match Nat.beq e e' with
      | true => match (u'.sl).as (.sl u) l with
        | some (l : List u.T) => .need ((len + xs.length) * bytes ≤ 140737488355328)
            (.ok (({ σ with slots := mapSlots (neK k) dead σ.slots, H := (σ.next, .row e u (l.take len ++ xs)) :: σ.H.keep (neK k) dead, next := σ.next + 1 } : St).put dst (.own σ.next 0 (len + xs.length))))
        | none => .bad
      | false => .bad
    | _ => .bad
  | .ox k off len => appendX σ dst e bytes u xs k off len
  | _ => .bad

/-- A part of one of the call's own rows appended to an earlier part of it, which begins at its head: it stays where it is. -/
def appendIn (σ : St) (dst : Option Nat) (e : TypeId) (u : Ty) (xs : List u.T) (k len : Nat) : T St :=
  match σ.H.find k with
  | some (.row e' u' l) => match Nat.beq e e' with
    | true => match (u'.sl).as (.sl u) l with
      | some (l : List u.T) => .need (len + xs.length ≤ l.length) (.ok (({ σ with H := σ.H.up k (.row e u (over l len xs)) } : St).put dst (.own k 0 (len + xs.length))))
      | none => .bad
    | false => .bad
  | _ => .bad

/-- Are both slices of one row? -/
def sameRow (s x : AV) : Option (Nat × Nat) :=
  match s, x with
  | .own k 0 len, .own k' _ _ => match Nat.beq k k' with
    | true => some (k, len)
    | false => none
  | _, _ => none

/-- 'append' of a slice. -/
def appendSt (P : Program) (σ : St) (dst : Option Nat) (t : TypeId) (s x : AV) : T St :=
  match P.underlying t with
  | some (.slice e) => match P.info? e with
    | some i => match tyOf P 20 e, zeroAVs P e with
      | some u, some zs => match Nat.beq i.size u.size && Nat.beq zs.length u.size && Nat.ble 1 i.bytes && Nat.ble 1 u.size with
        | true => match toDL σ.H (.sl u) x with
          | some (xs : List u.T) => match sameRow s x with
            | some (k, len) => appendIn σ dst e u xs k len
            | none => appendXs σ dst e i.bytes u xs s
          | none => .bad
        | false => .bad
      | _, _ => .bad
    | none => .bad
  | _ => .bad

/-- Zeros behind the nil slice. -/
def appendZI (σ : St) (dst : Option Nat) (e : TypeId) (bytes : Nat) (u : Ty) (y : u.T) (n : Int) : T St :=
  .need (1 ≤ n ∧ n * (bytes : Int) ≤ 140737488355328) (.ok (({ σ with H := (σ.next, .row e u (List.replicate n.toNat y)) :: σ.H, next := σ.next + 1 } : St).put dst (.own σ.next 0 n.toNat)))

def appendZ (P : Program) (σ : St) (dst : Option Nat) (t v : TypeId) (s x : AV) : T St :=
  match P.underlying t, P.underlying v with
  | some (.slice e), some (.int _) => match P.info? e with
    | some i => match tyOf P 20 e, zeroAVs P e with
      | some u, some zs => match pack u zs with
        | some (y, []) => match Nat.beq i.size u.size && Nat.beq zs.length u.size && Nat.ble 1 i.bytes && Nat.ble 1 u.size with
          | true => match s, x with
            | .nsl, .d (.int _) n => appendZI σ dst e i.bytes u y n
            | _, _ => .bad
          | false => .bad
        | _ => .bad
      | _, _ => .bad
    | none => .bad
  | _, _ => .bad

/-- 'append' of a string's bytes. -/
def appendStr (P : Program) (σ : St) (dst : Option Nat) (t v : TypeId) (s x : AV) : T St :=
  match P.underlying t, P.underlying v with
  | some (.slice e), some .string => match P.info? e with
    | some i => match tyOf P 20 e, zeroAVs P e with
      | some (.int .u8), some zs => match Nat.beq i.size 1 && Nat.beq zs.length 1 && Nat.ble 1 i.bytes with
        | true => match x with
          | .d .str l => appendXs σ dst e i.bytes (.int .u8) (bytesI l) s
          | _ => .bad
        | false => .bad
      | _, _ => .bad
    | none => .bad
  | _, _ => .bad

/-- 'copy' into a slice of one of the call's own rows. -/
def copySt (P : Program) (σ : St) (dst : Option Nat) (t : TypeId) (d x : AV) : T St :=
  match P.underlying t with
  | some (.slice e) => match d with
    | .own k off len => match σ.H.find k with
      | some (.row e' u l) => match sizeAt P e with
        | some n => match Nat.beq n u.size with
          | true => match toDL σ.H (.sl u) x with
            | some (xs : List u.T) => .ok (({ σ with H := σ.H.up k (.row e' u (over l off (xs.take len))) } : St).put dst (lenI (min xs.length len)))
            | none => .bad
          | false => .bad
        | none => .bad
      | _ => .bad
    | _ => .bad
  | _ => .bad

section
variable {C : Ctx} {ρ : Nat → Nat} {H : Heap} {w : World} {P : Program}

theorem MRel.mono {next next' : Nat} (h : MRel C ρ H next w) (hn : next ≤ next') : MRel C ρ H next' w :=
  ⟨h.below, h.nodup, fun k hk => Nat.lt_of_lt_of_le (h.lt k hk) hn, h.inj, h.low, h.mem⟩

theorem VRs.over {as bs : List AV} {vs us : List Value} (h : VRs C ρ H w as vs) (h' : VRs C ρ H w bs us) (o : Nat) : VRs C ρ H w (over as o bs) (over vs o us) := by
  unfold Vg.over
  rw [h'.length]
  exact ((h.take o).append h').append (h.drop _)

theorem over_length {α : Type} (l : List α) (o : Nat) (xs : List α) (h : o + xs.length ≤ l.length) : (over l o xs).length = l.length := by
  unfold over; simp; omega

theorem over_mem {α : Type} {l : List α} {o : Nat} {xs : List α} {x : α} (h : x ∈ over l o xs) : x ∈ l ∨ x ∈ xs := by
  unfold over at h
  rcases List.mem_append.1 h with h | h
  · rcases List.mem_append.1 h with h | h
    · exact Or.inl (List.mem_of_mem_take h)
    · exact Or.inr h
  · exact Or.inl (List.mem_of_mem_drop h)

theorem RdL.append {α : Type} {R : α → List Value → Prop} : ∀ (l m : List α) (cs ds : List Value), RdL R l cs → RdL R m ds → RdL R (l ++ m) (cs ++ ds)
  | [], m, cs, ds, h, h' => by simp [RdL] at h; subst h; exact h'
  | x :: xs, m, cs, ds, ⟨c1, c2, e, h1, h2⟩, h' => by
    subst e
    exact ⟨c1, c2 ++ ds, by simp, h1, RdL.append xs m c2 ds h2 h'⟩

theorem RdL.drop {α : Type} {R : α → List Value → Prop} {n : Nat} (hn : ∀ x cs, R x cs → cs.length = n) (l : List α) (cs : List Value) (a : Nat) (h : RdL R l cs) : RdL R (l.drop a) (cs.drop (a * n)) := by
  have := RdL.take_drop hn l cs a (l.drop a).length h
  rw [List.take_length] at this
  rw [List.take_of_length_le (by rw [List.length_drop, RdL.length hn l cs h, List.length_drop, Nat.sub_mul]; omega)] at this
  exact this

theorem RdL.take {α : Type} {R : α → List Value → Prop} {n : Nat} (hn : ∀ x cs, R x cs → cs.length = n) (l : List α) (cs : List Value) (a : Nat) (h : RdL R l cs) : RdL R (l.take a) (cs.take (a * n)) := by
  have := RdL.take_drop hn l cs 0 a h
  simpa using this

theorem RdL.over {α : Type} {R : α → List Value → Prop} {n : Nat} (hn : ∀ x cs, R x cs → cs.length = n) (l m : List α) (cs ds : List Value) (o : Nat) (h : RdL R l cs) (h' : RdL R m ds) :
    RdL R (Vg.over l o m) (Vg.over cs (o * n) ds) := by
  unfold Vg.over
  have hl := RdL.length hn m ds h'
  rw [hl, ← Nat.add_mul]
  exact RdL.append _ _ _ _ (RdL.append _ _ _ _ (RdL.take hn l cs o h) h') (RdL.drop hn l cs _ h)

theorem set_over {α : Type} (l : List α) (i : Nat) (x : α) (h : i < l.length) : l.set i x = over l i [x] := by
  unfold over
  rw [List.set_eq_take_append_cons_drop, if_pos h]
  simp

theorem over_take {α : Type} (l : List α) (N o : Nat) (xs : List α) (h : o + xs.length ≤ N) : (over l o xs).take N = over (l.take N) o xs ∨ l.length < o := by
  by_cases ho : l.length < o
  · exact Or.inr ho
  left
  unfold over
  rw [List.take_append, List.take_append, List.take_take, List.drop_take]
  simp only [List.length_append, List.length_take, List.take_take]
  rw [Nat.min_eq_left (show o ≤ l.length by omega), Nat.min_eq_right (show o ≤ N by omega), List.take_of_length_le (show xs.length ≤ N - o by omega), Nat.min_eq_left (show o ≤ N by omega)]

/-- Cells written one behind the other into one of the call's own blocks. -/
theorem setD_sound {ok : Nat → Prop} {w : World} : ∀ {t : Ty} {x : t.T} {n o : Nat} {u : Ty} {y : u.T} {z : t.T} {cs ys : List Value}, setD t x n u y = some z → offD t n = some (o, u) → Rd ok w t x cs → Rd ok w u y ys → Rd ok w t z (over cs o ys) ∧ o + u.size ≤ t.size
  | .pair t r, x, 0, o, u, y, z, cs, ys, h, ho, hx, hy => by
    simp only [setD] at h
    split at h
    · rename_i z' hz
      injection h with h
      subst h
      obtain ⟨e, e2⟩ := Ty.as_some hz
      subst e
      subst e2
      simp only [offD] at ho
      injection ho with ho
      injection ho with ho _
      subst ho
      obtain ⟨c1, c2, rfl, h1, h2⟩ := hx
      have l1 := Rd.length _ _ _ h1
      have l2 := Rd.length _ _ _ hy
      refine ⟨⟨ys, c2, ?_, hy, h2⟩, by simp [Ty.size]⟩
      unfold over
      rw [List.take_zero, List.nil_append, Nat.zero_add, l2, ← l1, List.drop_left]
    · cases h
  | .pair t r, x, n + 1, o, u, y, z, cs, ys, h, ho, hx, hy => by
    simp only [setD] at h
    split at h
    · rename_i z' hz
      injection h with h
      subst h
      simp only [offD] at ho
      split at ho
      · rename_i o' v' ho'
        injection ho with ho
        injection ho with e1 e2
        subst e1; subst e2
        obtain ⟨c1, c2, rfl, h1, h2⟩ := hx
        have l1 := Rd.length _ _ _ h1
        obtain ⟨h3, h4⟩ := setD_sound hz ho' h2 hy
        refine ⟨⟨c1, over c2 o' ys, ?_, h1, h3⟩, by simp only [Ty.size]; omega⟩
        unfold over
        rw [← l1, List.take_append, List.drop_append, List.take_of_length_le (by omega), List.drop_of_length_le (by omega), List.nil_append, Nat.add_sub_cancel_left, Nat.add_assoc, Nat.add_sub_cancel_left]
        simp
      · cases ho
    · cases h
  | .int _, _, _, _, _, _, _, _, _, h, _, _, _ => by cases h
  | .bool, _, _, _, _, _, _, _, _, h, _, _, _ => by cases h
  | .str, _, _, _, _, _, _, _, _, h, _, _, _ => by cases h
  | .unit, _, _, _, _, _, _, _, _, h, _, _, _ => by cases h
  | .arr _ _, _, _, _, _, _, _, _, _, h, _, _, _ => by cases h
  | .sl _, _, _, _, _, _, _, _, _, h, _, _, _ => by cases h

theorem over_over {α : Type} (l : List α) (a o s : Nat) (xs : List α) (h1 : o + xs.length ≤ s) (h2 : a + s ≤ l.length) : over l (a + o) xs = over l a (over ((l.drop a).take s) o xs) := by
  have hl : (over ((l.drop a).take s) o xs).length = s := by
    rw [over_length _ _ _ (by rw [List.length_take, List.length_drop]; omega), List.length_take, List.length_drop]; omega
  unfold over at hl ⊢
  rw [hl, List.take_take, Nat.min_eq_left (by omega), List.drop_take, List.drop_drop]
  have e1 : l.take (a + o) = l.take a ++ (l.drop a).take o := by rw [List.take_add]
  have e2 : (l.drop (a + (o + xs.length))).take (s - (o + xs.length)) ++ l.drop (a + s) = l.drop (a + o + xs.length) := by
    have := List.take_append_drop (s - (o + xs.length)) (l.drop (a + (o + xs.length)))
    rw [List.drop_drop, show a + (o + xs.length) + (s - (o + xs.length)) = a + s by omega] at this
    rw [this, Nat.add_assoc]
  rw [e1, ← e2]
  simp [List.append_assoc]

theorem store_run {b o : Nat} {c : Array Value} {e : TypeId} {vs : List Value} (hb : w.heap[b]? = some (.cells c e (0, 0))) (ho : o + vs.length ≤ c.size) (h1 : ∀ v ∈ vs, v.oneCell' = true) :
    (storeCells ⟨b, o, none⟩ vs).run P w = .ok () (w.setRow b ⟨over c.toList o vs⟩) := by
  have := run_storeCells_at P b o e vs 0 c w hb (by simpa using ho) h1
  simpa [over] using this

theorem storeSt_sound {σ σ' : St} {a : Act} {t : TypeId} {x y : AV} {vx vy : Value} (h : (storeSt P σ t x y).Leaf σ') (hs : SRel C ρ σ a w) (hx : VR C ρ σ.H w x vx) (hy : VR C ρ σ.H w y vy) :
    ∃ w', (Instr.storeAt t vx vy).run P w = .ok () w' ∧ SRel C ρ σ' a w' ∧ Fr C σ.next ρ σ.H w ρ σ'.H w' ∧ σ'.next = σ.next := by
  have hm := hs.m
  unfold storeSt at h
  split at h
  · rename_i k off
    split at h
    · rename_i e cells cs n hf hcs hsz
      split at h
      · rename_i hc
        cases h
        simp only [Bool.and_eq_true] at hc
        have hc1 := beq_true hc.1
        have hc2 := Nat.le_of_ble_eq_true hc.2
        subst hc1
        have hk := Heap.find_mem hf
        obtain ⟨c, hc3, hc4, hc5⟩ := hm.mem k _ hk
        obtain ⟨hy1, hy2⟩ := cellsOf_sound hcs hy
        have hl1 := hy1.length
        have hl2 := hc4.length
        have hfit : off + vy.cells.toList.length ≤ c.toList.length := by omega
        obtain ⟨hm', hext⟩ := hm.write (nb := .vars e (over cells off cs)) (c' := ⟨over c.toList off vy.cells.toList⟩) hk hc3 (by show c.size = (over c.toList off vy.cells.toList).length; rw [over_length _ _ _ hfit]; simp) (by intro e t l hh; cases hh)
          (fun H' w' he hh => ⟨_, hh, (hc4.over hy1 off).imp (fun _ _ => he.vr), fun v hv => by
            rcases over_mem hv with hv | hv
            · exact hc5 v hv
            · exact hy2 v hv⟩)
        cases hx
        refine ⟨_, ?_, hs.frame hm' (hext.fr (fun j _ hj => by rwa [Heap.keys_up] at hj)) (fun j hj => by rwa [Heap.keys_up]), hext.fr (fun j _ hj => by rwa [Heap.keys_up] at hj), rfl⟩
        simp only [Instr.storeAt, Instr.sureAddr, Sem.run_bind, Sem.run_pure, Result.andThen_ok, storeVar, sizeAt_run hsz, Sem.run_ite]
        rw [if_neg (by simp at hl1; omega)]
        exact store_run hc3 (by simpa using hfit) hy2
      · cases h
    · cases h
  · rename_i k i
    split at h
    · rename_i e u l n hf hsz
      split at h
      · rename_i hc
        have hc := beq_true hc
        subst hc
        split at h
        · rename_i y' hy'
          cases h
          have hk := Heap.find_mem hf
          obtain ⟨c, hc1, hc2, hc3, hc4, hc5⟩ := hm.mem k _ hk
          have hyr := (toD_sound hy' hy).cells
          have hl1 := Rd.length _ _ _ hyr
          have hy2 := Rd.one _ _ _ hyr
          cases hx with
          | eptr hk' hi =>
            have hu' := Heap.mem_unique hm.nodup hk hk'
            injection hu' with hu1 hu2 hu3
            subst hu1; subst hu2
            have hu3 := eq_of_heq hu3
            subst hu3
            have hle : (i + 1) * u.size ≤ l.length * u.size := Nat.mul_le_mul_right _ hi
            rw [Nat.succ_mul] at hle
            have hfit : i * u.size + vy.cells.toList.length ≤ c.toList.length := by rw [hl1]; simp; omega
            obtain ⟨hm', hext⟩ := hm.write (nb := .row e u (l.set i y')) (c' := ⟨over c.toList (i * u.size) vy.cells.toList⟩) hk hc1 (by show c.size = (over c.toList _ _).length; rw [over_length _ _ _ hfit]; simp)
              (by intro e1 t1 l1 hh; injection hh with h1 h2 h3; subst h1; subst h2; have h3 := eq_of_heq h3; subst h3; exact ⟨_, rfl, by simp⟩)
              (fun H' w' he hh => by
                refine ⟨_, hh, by show (l.set i y').length * _ ≤ (over c.toList _ _).length; rw [over_length _ _ _ hfit]; simpa using hc2, by simpa using hc3, ?_, fun v hv => ?_⟩
                · rw [List.length_set]
                  show RdL _ _ ((over c.toList _ _).take _)
                  rw [(over_take c.toList (l.length * u.size) (i * u.size) vy.cells.toList (by rw [hl1]; exact hle)).resolve_right (by simp; omega), set_over l i y' hi]
                  have hone : RdL (Rd (Ok C ρ H' w') w' u) [y'] vy.cells.toList := ⟨_, [], by simp, Rd.mono he.data u _ _ hyr, rfl⟩
                  exact RdL.over (fun x cs => Rd.length u x cs) _ _ _ _ _ (RdL.mono (fun x cs => Rd.mono he.data u x cs) _ _ hc4) hone
                · rcases over_mem hv with hv | hv
                  · exact hc5 v hv
                  · exact hy2 v hv)
            refine ⟨_, ?_, hs.frame hm' (hext.fr (fun j _ hj => by rwa [Heap.keys_up] at hj)) (fun j hj => by rwa [Heap.keys_up]), hext.fr (fun j _ hj => by rwa [Heap.keys_up] at hj), rfl⟩
            simp only [Instr.storeAt, Instr.sureAddr, Sem.run_bind, Sem.run_pure, Result.andThen_ok, storeVar, sizeAt_run hsz, Sem.run_ite]
            rw [if_neg (by simp at hl1; omega)]
            exact store_run hc1 (by simpa using hfit) hy2
        · cases h
      · cases h
    · cases h
  · rename_i k i f
    split at h
    · rename_i e u l n hf hsz
      split at h
      · rename_i o v ho
        split at h
        · rename_i hc
          have hc := beq_true hc
          subst hc
          split at h
          · rename_i y' hy'
            split at h
            · rename_i z hz
              cases h
              have hk := Heap.find_mem hf
              obtain ⟨c, hc1, hc2, hc3, hc4, hc5⟩ := hm.mem k _ hk
              have hyr := (toD_sound hy' hy).cells
              have hl1 := Rd.length _ _ _ hyr
              have hy2 := Rd.one _ _ _ hyr
              cases hx with
              | efp hk' hi ho' =>
                have hu' := Heap.mem_unique hm.nodup hk hk'
                injection hu' with hu1 hu2 hu3
                subst hu1; subst hu2
                have hu3 := eq_of_heq hu3
                subst hu3
                have ho2 := ho.symm.trans ho'
                injection ho2 with ho2
                injection ho2 with ho2 _
                subst ho2
                have hle : (i + 1) * u.size ≤ l.length * u.size := Nat.mul_le_mul_right _ hi
                rw [Nat.succ_mul] at hle
                have hel := RdL.getD (fun x cs => Rd.length u x cs) u.dflt l _ i hc4 hi
                rw [list_window _ _ _ _ hle] at hel
                obtain ⟨hz1, hz2⟩ := setD_sound hz ho hel hyr
                have hlen : c.toList.length = c.size := by simp
                have hfit : i * u.size + o + vy.cells.toList.length ≤ c.toList.length := by rw [hl1]; omega
                have hzl := Rd.length _ _ _ hz1
                have hov := over_over c.toList (i * u.size) o u.size vy.cells.toList (by rw [hl1]; exact hz2) (by omega)
                obtain ⟨hm', hext⟩ := hm.write (nb := .row e u (l.set i z)) (c' := ⟨over c.toList (i * u.size + o) vy.cells.toList⟩) hk hc1 (by show c.size = (over c.toList _ _).length; rw [over_length _ _ _ hfit]; simp)
                  (by intro e1 t1 l1 hh; injection hh with h1 h2 h3; subst h1; subst h2; have h3 := eq_of_heq h3; subst h3; exact ⟨_, rfl, by simp⟩)
                  (fun H' w' he hh => by
                    refine ⟨_, hh, by show (l.set i z).length * _ ≤ (over c.toList _ _).length; rw [over_length _ _ _ hfit]; simpa using hc2, by simpa using hc3, ?_, fun v hv => ?_⟩
                    · rw [List.length_set]
                      show RdL _ _ ((over c.toList _ _).take _)
                      rw [hov, (over_take c.toList (l.length * u.size) (i * u.size) _ (by rw [hzl]; exact hle)).resolve_right (by simp; omega), set_over l i z hi]
                      have hone : RdL (Rd (Ok C ρ H' w') w' u) [z] (over ((c.toList.drop (i * u.size)).take u.size) o vy.cells.toList) := ⟨_, [], by simp, Rd.mono he.data u _ _ hz1, rfl⟩
                      exact RdL.over (fun x cs => Rd.length u x cs) _ _ _ _ _ (RdL.mono (fun x cs => Rd.mono he.data u x cs) _ _ hc4) hone
                    · rcases over_mem hv with hv | hv
                      · exact hc5 v hv
                      · exact hy2 v hv)
                refine ⟨_, ?_, hs.frame hm' (hext.fr (fun j _ hj => by rwa [Heap.keys_up] at hj)) (fun j hj => by rwa [Heap.keys_up]), hext.fr (fun j _ hj => by rwa [Heap.keys_up] at hj), rfl⟩
                simp only [Instr.storeAt, Instr.sureAddr, Sem.run_bind, Sem.run_pure, Result.andThen_ok, storeVar, sizeAt_run hsz, Sem.run_ite]
                rw [if_neg (by simp at hl1; omega)]
                exact store_run hc1 (by simpa using hfit) hy2
            · cases h
          · cases h
        · cases h
      · cases h
    · cases h
  · cases h

theorem VR.sv_inv {k o n cap : Nat} {v : Value} (h : VR C ρ H w (.sv k o n cap) v) : v = .slice (some ⟨ρ k, o, none⟩) n cap ∧ n ≤ lim ∧ n ≤ cap := by
  cases h with
  | sv _ hn hc => exact ⟨rfl, hn, hc⟩

/-- A slice whose elements are known. -/
theorem src_view {next : Nat} (hm : MRel C ρ H next w) {u : Ty} {x : AV} {xs : List u.T} {v : Value} (h : toDL H (.sl u) x = some xs) (hx : VR C ρ H w x v) :
    ∃ a cap cs, v = .slice a xs.length cap ∧ RdL (Rd (Ok C ρ H w) w u) xs cs ∧ cs.length = xs.length * u.size ∧ xs.length ≤ lim ∧
      (xs = [] ∨ ∃ b o, a = some ⟨b, o, none⟩ ∧ ∀ j y, cs[j]? = some y → w.cell? ((⟨b, o, none⟩ : Addr).add j) = some y) := by
  have hr := (toDL_sound (fun _ h => h) hm h hx).scalar rfl
  obtain ⟨a, cap, e, h1, h2, h3⟩ := hr
  injection e with e _
  subst e
  have hdat : ∃ cs, RdL (Rd (Ok C ρ H w) w u) xs cs ∧ (xs = [] ∨ ∃ b o c e fr, a = some ⟨b, o, none⟩ ∧ w.heap[b]? = some (.cells c e fr) ∧ o + xs.length * u.size ≤ c.size ∧ cs = (c.toList.drop o).take (xs.length * u.size)) := by
    have isd : ∀ x', toD (.sl u) x' = some xs → VR C ρ H w x' (.slice a xs.length cap) → ∃ cs, RdL (Rd (Ok C ρ H w) w u) xs cs ∧ (xs = [] ∨ ∃ b o c e fr, a = some ⟨b, o, none⟩ ∧ w.heap[b]? = some (.cells c e fr) ∧ o + xs.length * u.size ≤ c.size ∧ cs = (c.toList.drop o).take (xs.length * u.size)) := by
      intro x' hx' hv'
      obtain ⟨a', cap', e, h1, h2, h3⟩ := (toD_sound hx' hv').scalar rfl
      injection e with e _
      injection e with e _
      subst e
      rcases h3 with h3 | ⟨b, o, c, e, fr, ha, hok, hb, hs, hr⟩
      · refine ⟨[], ?_, Or.inl h3⟩
        rw [h3]; rfl
      · exact ⟨_, hr, Or.inr ⟨b, o, c, e, fr, ha, hb, hs, rfl⟩⟩
    by_cases ho : ∃ k off len, x = .own k off len
    · obtain ⟨k, off, len, rfl⟩ := ho
      simp only [toDL] at h
      split at h
      · rename_i e v' l hf
        obtain ⟨e1, e2⟩ := Ty.as_some h
        injection e1 with e1
        subst e1
        have e2' : (l.drop off).take len = xs := e2
        have hk := Heap.find_mem hf
        cases hx with
        | own hk' hl hc hmx hb hs ha =>
          have hu := Heap.mem_unique hm.nodup hk hk'
          injection hu with hu1 hu2 hu3
          subst hu1; subst hu2
          have hu3 := eq_of_heq hu3
          subst hu3
          obtain ⟨c, g1, g2, g3, g4, g5⟩ := hm.ownCells hk hl
          rw [e2'] at g2 g3 g5
          refine ⟨_, g5, ?_⟩
          by_cases hnil : xs = []
          · exact Or.inl hnil
          · have hpos : 0 < xs.length := List.length_pos_iff.2 hnil
            have ha' := ha.resolve_right (fun h => by omega)
            exact Or.inr ⟨ρ k, off * v'.size, c, e, (0, 0), ha', g1, g2, rfl⟩
      · cases h
    · by_cases ho2 : ∃ k o n c, x = .sv k o n c
      · obtain ⟨k, o, n, cc, rfl⟩ := ho2
        simp only [toDL] at h
        split at h
        · rename_i e cells hf
          split at h
          · rename_i l _ hoc hp
            injection h with h
            subst h
            have hk := Heap.find_mem hf
            obtain ⟨c, hc, hvs, _⟩ := hm.mem _ _ hk
            obtain ⟨c1, c2, e1, hl, -⟩ := pack_sound _ _ _ _ _ hp (hvs.drop o)
            obtain ⟨hn, hr⟩ := hl
            obtain ⟨ev, hlim, hcap⟩ := VR.sv_inv hx
            injection ev with ea _ _
            obtain ⟨hlt, hle, htk⟩ := RdL.first (fun x cs => Rd.length u x cs) hn hcap hr
            refine ⟨c1.take (n * u.size), htk, Or.inr ⟨ρ k, o, c, e, (0, 0), ea, hc, ?_, ?_⟩⟩
            · have : c.size - o = c1.length + c2.length := by rw [← List.length_append, ← e1]; simp
              have hoc := Nat.le_of_ble_eq_true hoc
              have hcl : cells.length = c.size := by rw [hvs.length]; simp
              rw [hlt]; omega
            · rw [e1, hlt, List.take_append_of_le_length hle]
          · cases h
        · cases h
      · refine isd x ?_ hx
        cases x <;> first | exact h | exact absurd ⟨_, _, _, rfl⟩ ho | exact absurd ⟨_, _, _, _, rfl⟩ ho2
  obtain ⟨cs, hcs, hor⟩ := hdat
  refine ⟨a, cap, cs, rfl, hcs, RdL.length (fun x cs => Rd.length u x cs) _ _ hcs, h2, ?_⟩
  rcases hor with hor | ⟨b, o, c, e, fr, ha, hb, hs, hcs'⟩
  · exact Or.inl hor
  · refine Or.inr ⟨b, o, ha, fun j y hj => ?_⟩
    rw [hcs'] at hj
    have hlt : j < ((c.toList.drop o).take (xs.length * u.size)).length := (List.getElem?_eq_some_iff.1 hj).1
    simp only [List.length_take, List.length_drop, Array.length_toList] at hlt
    rw [List.getElem?_take, if_pos (by omega), List.getElem?_drop, Array.getElem?_toList] at hj
    rw [add_mk]
    simp [World.cell?, hb, hj]

end
end Go.Vg
