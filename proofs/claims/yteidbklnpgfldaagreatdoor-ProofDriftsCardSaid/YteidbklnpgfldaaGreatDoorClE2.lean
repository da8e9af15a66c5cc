/-
  An evaluator of Go code over plain data, proved sound against the model. Own work; no condition.
-/
import Derived.Test.YteidbklnpgfldaaGreatDoorClE1
import Derived.Lib.Builder
import Derived.Lib.UnsafeStr
import Derived.Laws.BytesString
import Derived.DeepKeys
import Derived.MapKept
import Derived.Laws.OwnMore
import Derived.Laws.IdiomStrings
import Derived.Laws.Append
set_option linter.unusedVariables false
set_option linter.unusedSimpArgs false
namespace Go.Vg
open Go Go.RowKit
def aGP (P : Program) (fs : Array Field) (i : Nat) : Option (Nat × Nat) :=
 match fs[i]? with
 | some f => match aa6 P f.type with
  | some n => some (f.offset, n)
  | none => none
 | none => none
def aqG (P : Program) : List Field → Bool
 | [] => true
 | f :: r => match aa6 P f.type with
  | some _ => aqG P r
  | none => false
def ab2 (P : Program) (t : TypeId) : Option (List AV) :=
 match P.info? t with
 | some i => match i.zero with
  | some z => match aBg z.cells.toList with
   | true => some (akG z.cells.toList)
   | false => none
  | none => none
 | none => none
def aC5 (P : Program) (t : TypeId) (ps : List (Nat × AV)) : T AV :=
 match ab2 P t with
 | some zs => match P.underlying t with
  | some (.struct fs) => match aqG P fs.toList with
   | true => match asI (aGP P fs) zs ps with
    | some cells => .ok (aJC P t cells)
    | none => .bad
   | false => .bad
  | some (.array _ e) => match aa6 P e with
   | some n => match asI (fun i => some (i * n, n)) zs ps with
    | some cells => .ok (aJC P t cells)
    | none => .bad
   | none => .bad
  | _ => .bad
 | none => .bad
def aFk (n : Nat) : AV := .d (.int .i64) (n : Int)
def aOl (P : Program) (t : TypeId) (a : AV) : T AV :=
 match P.underlying t with
 | some .string => match a with
  | .d .str l => .ok (aFk l.length)
  | _ => .bad
 | some (.slice _) => match a with
  | .d (.sl _) l => .ok (aFk l.length)
  | .own _ _ n => .ok (aFk n)
  | .sv _ _ n _ => .ok (aFk n)
  | .nsl => .ok (aFk 0)
  | _ => .bad
 | some (.array n _) => match Nat.ble n lim with
  | true => .ok (aFk n)
  | false => .bad
 | _ => .bad
def aOQ (P : Program) (t : TypeId) (a : AV) : T AV :=
 match P.underlying t with
 | some (.slice _) => match a with
  | .ox _ _ n => .ok (aFk n)
  | .nsl => .ok (aFk 0)
  | _ => .bad
 | _ => .bad
def aKF (least : Bool) (x y : Int) : Int :=
 match least with
 | true => if y < x then y else x
 | false => if y > x then y else x
def aD2 (least : Bool) (k : IntKind) : Int → List AV → T AV
 | x, [] => .ok (.d (.int k) x)
 | x, .d (.int j) y :: r => if j = k then aD2 least k (aKF least x y) r else .bad
 | _, _ :: _ => .bad
def aQN (least : Bool) (l : List AV) : T AV :=
 match l with
 | .d (.int k) x :: r => aD2 least k x r
 | _ => .bad
section
variable {C : Ctx} {ρ : Nat → Nat} {H : Heap} {w : World} {P : Program}
theorem acN {t : TypeId} {zs : List AV} (h : ab2 P t = some zs) : ∃ z, (zeroValue t).run P w = .ok z w ∧ VRs C ρ H w zs z.cells.toList ∧ ∀ v ∈ z.cells.toList, v.oneCell' = true := by
 unfold ab2 at h
 split at h
 ·rename_i i hi
  split at h
  ·rename_i z hz
   split at h
   ·rename_i ho
    injection h with h; subst h
    exact ⟨z, by simp [zeroValue, typeInfo, hi, hz], ak0 _, aj0 ho⟩
   ·cases h
  ·cases h
 ·cases h
theorem avD : ∀ (l : List Field), aqG P l = true → ∃ ps : List (Nat × Nat), (l.mapM (fun f => do pure (f.offset, ← sizeOf f.type)) : Sem (List (Nat × Nat))).run P w = .ok ps w ∧
  ∀ i : Nat, ps[i]? = (match l[i]? with | some f => (match aa6 P f.type with | some n => some (f.offset, n) | none => none) | none => none)
 | [], _ => ⟨[], rfl, by simp⟩
 | f :: r, h => by
  simp only [aqG] at h
  split at h
  ·rename_i n hs
   obtain ⟨ps, h1, h2⟩ := avD r h
   refine ⟨(f.offset, n) :: ps, ?_, ?_⟩
   ·simp only [List.mapM_cons, Sem.run_bind, aaO hs, Result.andThen_ok, Sem.run_pure, h1]
   ·intro i
    cases i with
    | zero => simp [hs]
    | succ i => simpa using h2 i
  ·cases h
theorem ayD {t : TypeId} {ps : List (Nat × AV)} {vps : Array (Nat × Value)} {r : AV} (h : (aC5 P t ps).Leaf r) (hp : Parts C ρ H w ps vps.toList) :
  ∃ v, (Instr.build t vps).run P w = .ok v w ∧ VR C ρ H w r v := by
 unfold aC5 at h
 split at h
 ·rename_i zs hz
  obtain ⟨z, hz1, hz2, hz3⟩ := acN (C := C) (ρ := ρ) (H := H) (w := w) hz
  split at h
  ·rename_i fs hu
   split at h
   ·rename_i ha
    split at h
    ·rename_i cells hf
     cases h
     obtain ⟨pl, hpl1, hpl2⟩ := avD (w := w) fs.toList ha
     have hpl : (fun i : Nat => (pl.toArray : Array (Nat × Nat))[i]?) = aGP P fs := by
      funext i
      unfold aGP
      have := hpl2 i
      rw [zU] at this
      simpa using this
     obtain ⟨rs, hr1, hr2, hr3⟩ := agQ _ _ _ _ _ hf hz2 hz3 hp
     rw [← hpl] at hr1
     refine ⟨.agg ⟨rs⟩, ?_, al2 hr2 hr3⟩
     have hm : (fs.mapM (fun f => do pure (f.offset, ← sizeOf f.type)) : Sem (Array (Nat × Nat))).run P w = .ok pl.toArray w := by
      rw [Array.mapM_eq_mapM_toList]
      simp only [Sem.run_map]
      rw [hpl1]
      rfl
     simp only [Instr.build, Sem.run_bind, hz1, Result.andThen_ok, run_underlying hu, hm]
     simp only [Array.toArray_toList] at hr1
     rw [hr1]
     rfl
    ·cases h
   ·cases h
  ·rename_i m e hu
   split at h
   ·rename_i n hs
    split at h
    ·rename_i cells hf
     cases h
     obtain ⟨rs, hr1, hr2, hr3⟩ := agQ _ _ _ _ _ hf hz2 hz3 hp
     refine ⟨.agg ⟨rs⟩, ?_, al2 hr2 hr3⟩
     simp only [Instr.build, Sem.run_bind, hz1, Result.andThen_ok, run_underlying hu, aaO hs]
     simp only [Array.toArray_toList] at hr1
     rw [hr1]
     rfl
    ·cases h
   ·cases h
  ·cases h
 ·cases h
theorem akU {n : Nat} (h : n ≤ lim) : VR C ρ H w (aFk n) (goInt n) :=
 auP (by simp [IntKind.min, IntKind.signed, IntKind.bits]) (by simp only [lim] at h; simp [IntKind.max, IntKind.signed, IntKind.bits]; omega)
theorem aCv {next : Nat} (hm : MRel C ρ H next w) {t : TypeId} {a r : AV} {v : Value} {ts : Array TypeId} {ty : TypeId} (ht : ts[0]? = some t) (h : (aOl P t a).Leaf r) (ha : VR C ρ H w a v) :
  ∃ v', (Builtin.len_ ts ty #[v]).run P w = .ok v' w ∧ VR C ρ H w r v' := by
 unfold aOl at h
 split at h
 ·rename_i hu
  split at h
  ·cases h
   obtain ⟨e, hl⟩ := ad6 ha
   subst e
   exact ⟨_, by simp [Builtin.len_, ht, run_underlying hu]; rfl, akU hl⟩
  ·cases h
 ·rename_i e hu
  split at h
  ·rename_i u l
   cases h
   obtain ⟨a', cap, e1, h4, h5, h6⟩ := ha.datum.scalar rfl
   injection e1 with e1 _
   subst e1
   exact ⟨_, by simp [Builtin.len_, ht, run_underlying hu], akU h5⟩
  ·cases h
   cases ha with
   | own hk hl hc hmx hb hs ha =>
    obtain ⟨_, _, _, _, hlim, _⟩ := hm.ownCells hk hl
    exact ⟨_, by simp [Builtin.len_, ht, run_underlying hu], akU hlim⟩
  ·cases h
   cases ha with
   | sv hk hn _ => exact ⟨_, by simp [Builtin.len_, ht, run_underlying hu], akU hn⟩
  ·cases h
   cases ha
   exact ⟨_, by simp [Builtin.len_, ht, run_underlying hu], akU (ya _)⟩
  ·cases h
 ·rename_i n e hu
  split at h
  ·rename_i hn
   cases h
   exact ⟨_, by simp [Builtin.len_, ht, run_underlying hu], akU (Nat.le_of_ble_eq_true hn)⟩
  ·cases h
 ·cases h
theorem aC3 {next : Nat} (hm : MRel C ρ H next w) {t : TypeId} {a r : AV} {v : Value} {ts : Array TypeId} {ty : TypeId} (ht : ts[0]? = some t) (h : (aOQ P t a).Leaf r) (ha : VR C ρ H w a v) :
  ∃ v', (Builtin.cap_ ts ty #[v]).run P w = .ok v' w ∧ VR C ρ H w r v' := by
 unfold aOQ at h
 split at h
 ·rename_i e hu
  split at h
  ·cases h
   cases ha with
   | ox hk hl hmx hb hs ha =>
    obtain ⟨_, _, _, _, hlim, _⟩ := hm.ownCells hk hl
    exact ⟨_, by simp [Builtin.cap_, ht, run_underlying hu], akU hlim⟩
  ·cases h
   cases ha
   exact ⟨_, by simp [Builtin.cap_, ht, run_underlying hu], akU (ya _)⟩
  ·cases h
 ·cases h
theorem aCc {lo hi : Int} {least : Bool} {x y : Int} (h0 : lo ≤ x) (h1 : x ≤ hi) (h2 : lo ≤ y) (h3 : y ≤ hi) : lo ≤ aKF least x y ∧ aKF least x y ≤ hi := by
 cases least <;> simp only [aKF] <;> split <;> exact ⟨by assumption, by assumption⟩
theorem ao9 {least : Bool} {k : IntKind} : ∀ (l : List AV) (x : Int) (vs : List Value) (r : AV), (aD2 least k x l).Leaf r → k.min ≤ x → x ≤ k.max → VRs C ρ H w l vs →
  ∃ v, (vs.foldlM (if least then Builtin.min2 else Builtin.max2) (.int k x)).run P w = .ok v w ∧ VR C ρ H w r v
 | [], x, vs, r, h, h0, h1, hv => by cases hv; cases h; exact ⟨_, rfl, auP h0 h1⟩
 | .d (.int j) y :: l, x, vs, r, h, h0, h1, hv => by
  cases hv with
  | cons hy hvs =>
   simp only [aD2] at h
   split at h
   ·rename_i e
    subst e
    obtain ⟨e1, hy'⟩ := abD hy
    subst e1
    have hb := aCc (least := least) h0 h1 hy'.1 hy'.2
    obtain ⟨v, hv1, hv2⟩ := ao9 l _ _ r h hb.1 hb.2 hvs
    refine ⟨v, ?_, hv2⟩
    rw [List.foldlM_cons]
    cases least
    ·simp only [Sem.run_bind, Builtin.max2, Sem.run_pure, Result.andThen_ok, yy, if_false] at hv1 ⊢
     exact hv1
    ·simp only [Sem.run_bind, Builtin.min2, Sem.run_pure, Result.andThen_ok, if_true] at hv1 ⊢
     exact hv1
   ·cases h
 | .d .bool _ :: _, _, _, _, h, _, _, _ | .d .str _ :: _, _, _, _, h, _, _, _ | .d .unit _ :: _, _, _, _, h, _, _, _ | .d (.pair _ _) _ :: _, _, _, _, h, _, _, _ | .d (.arr _ _) _ :: _, _, _, _, h, _, _, _ | .d (.sl _) _ :: _, _, _, _, h, _, _, _
 | .ptr _ _ :: _, _, _, _, h, _, _, _ | .eptr _ _ :: _, _, _, _, h, _, _, _ | .dptr _ _ :: _, _, _, _, h, _, _, _ | .own _ _ _ :: _, _, _, _, h, _, _, _ | .ox _ _ _ :: _, _, _, _, h, _, _, _ | .mp _ :: _, _, _, _, h, _, _, _ | .sv _ _ _ _ :: _, _, _, _, h, _, _, _ | .nsl :: _, _, _, _, h, _, _, _ | .fn _ _ _ :: _, _, _, _, h, _, _, _
 | .ag _ :: _, _, _, _, h, _, _, _ | .tup _ :: _, _, _, _, h, _, _, _ | .und :: _, _, _, _, h, _, _, _ | .no :: _, _, _, _, h, _, _, _ => by cases h
theorem avC {least : Bool} {l : List AV} {vs : Array Value} {r : AV} {ts : Array TypeId} {ty : TypeId} (h : (aQN least l).Leaf r) (hv : VRs C ρ H w l vs.toList) :
  ∃ v, ((if least then Builtin.min_ else Builtin.max_) ts ty vs).run P w = .ok v w ∧ VR C ρ H w r v := by
 unfold aQN at h
 split at h
 ·rename_i k x rest
  cases hvs : vs.toList with
  | nil => rw [hvs] at hv; cases hv
  | cons v0 vs0 =>
   rw [hvs] at hv
   cases hv with
   | cons hx hr =>
    obtain ⟨e, hb⟩ := abD hx
    subst e
    obtain ⟨v, h1, h2⟩ := ao9 (P := P) rest x vs0 r h hb.1 hb.2 hr
    refine ⟨v, ?_, h2⟩
    cases least
    ·simpa [Builtin.max_, hvs] using h1
    ·simpa [Builtin.min_, hvs] using h1
 ·cases h
end
def eqD : (t : Ty) → t.T → t.T → Bool
 | .int _, x, y => eqI x y
 | .bool, x, y => eqB x y
 | .str, x, y => eqS x y
 | .unit, _, _ => true
 | .pair t u, x, y => match eqD t x.1 y.1 with
  | true => eqD u x.2 y.2
  | false => false
 | .arr _ t, x, y => eqL (eqD t) x y
 | .sl _, _, _ => false
where
 eqI (x y : Int) : Bool := x == y
 eqB (x y : Bool) : Bool := x == y
 eqS (x y : List UInt8) : Bool := x == y
 eqL {α : Type} (f : α → α → Bool) : List α → List α → Bool
  | [], [] => true
  | x :: xs, y :: ys => match f x y with
   | true => eqL f xs ys
   | false => false
  | _, _ => false
def okEq (P : Program) : Nat → TypeId → Ty → Bool
 | 0, _, _ => false
 | n + 1, t, v => match P.underlying t with
  | some (.int _) => match v with | .int _ => true | _ => false
  | some .bool => match v with | .bool => true | _ => false
  | some .string => match v with | .str => true | _ => false
  | some (.array m e) => match v with
   | .arr m' u => Nat.beq m m' && aFo P e u && okEq P n e u
   | _ => false
  | some (.struct fs) => !(P.stoodInHeld t) && okFs (okEq P n) fs.toList 0 v
  | _ => false
where okFs (f : TypeId → Ty → Bool) : List Field → Nat → Ty → Bool
 | [], _, v => match v with | .unit => true | _ => false
 | x :: r, off, v => match v with
  | .pair t u => Nat.beq x.offset off && x.name != "_" && aFo P x.type t && f x.type t && okFs f r (off + t.size) u
  | _ => false
def aLT (P : Program) (op : BinOp) (xt : TypeId) (t : Ty) (x : t.T) (u : Ty) (y : u.T) : T AV :=
 match okEq P 20 xt t && !(P.eqGuardType P.depth xt) && t.agg with
 | true => match u.as t y with
  | some y' => match op with
   | .eql => .ok (.d .bool (eqD t x y'))
   | .neq => .ok (.d .bool (!(eqD t x y')))
   | _ => .bad
  | none => .bad
 | false => .bad
def aGr (a b : AV) : Option Bool :=
 match a, b with
 | .nilp, .nilp => some true
 | .ptr _ _, .nilp => some false
 | .nilp, .ptr _ _ => some false
 | .ptr k i, .ptr k' i' => match Nat.beq k k' && Nat.beq i i' with
  | true => some true
  | false => none
 | _, _ => none
def axY (op : BinOp) (r : Bool) : T AV :=
 match op with
 | .eql => .ok (.d .bool r)
 | .neq => .ok (.d .bool (!r))
 | _ => .bad
def ajP : Operand → Bool
 | .const _ => true
 | _ => false
def aLR (P : Program) (op : BinOp) (xt : TypeId) : (t : Ty) → t.T → T AV
 | .sl u, l => match P.underlying xt with
  | some (.slice _) => .need (0 < List.length (α := u.T) l) (axY op false)
  | _ => .bad
 | _, _ => .bad
def aoD (P : Program) (op : BinOp) (xt : TypeId) (a b : AV) : T AV :=
 match P.underlying xt with
 | some (.pointer e) => match P.info? e with
  | some _ => match aGr a b with
   | some r => axY op r
   | none => .bad
  | none => .bad
 | some (.interface _) => match a, b with
  | .nili, .nili => axY op true
  | .nni, .nili => axY op false
  | .ifc _ _ _, .nili => axY op false
  | _, _ => .bad
 | some (.slice _) => match a, b with
  | .nsl, .nsl => axY op true
  | .own _ _ n, .nsl => .need (0 < n) (axY op false)
  | .sv _ _ _ _, .nsl => axY op false
  | _, _ => .bad
 | _ => .bad
def ai2 (l : List UInt8) : List Int := l.map fun b => (b.toNat : Int)
def akQ (l : List Int) : List UInt8 := l.map fun n => UInt8.ofNat n.toNat
def aCB (P : Program) (t : TypeId) : Bool :=
 match P.underlying t with
 | some (.slice e) => match P.underlying e with
  | some (.int .u8) => true
  | _ => false
 | _ => false
def as2 (P : Program) (H : Heap) (s d : TypeId) (a : AV) : T AV :=
 match aCB P s, P.underlying d with
 | true, some .string => match aJU H (.sl (.int .u8)) a with
  | some (l : List Int) => .ok (.d .str (akQ l))
  | none => .bad
 | _, _ => .bad
def aCW (P : Program) (H : Heap) (s d : TypeId) (k off : Nat) : T AV :=
 match H.find k with
 | some (.vars e cells) => match P.underlying s, P.underlying d with
  | some (.pointer t), some .unsafePointer => match P.info? t with
   | some j => match !(Nat.beq j.size 0) && Nat.blt off cells.length with
    | true => .ok (.ptr k off)
    | false => .bad
   | none => .bad
  | some .unsafePointer, some (.pointer u) => match P.info? u with
   | some _ => match liesAt P P.depth e (cells.length / P.cellsOf e) off u 1 with
    | true => .ok (.ptr k off)
    | false => .bad
   | none => .bad
  | _, _ => .bad
 | _ => .bad
def aOP (P : Program) (H : Heap) (s d : TypeId) (a : AV) : T AV :=
 match a with
 | .ptr k off => aCW P H s d k off
 | .own k off len => as2 P H s d (.own k off len)
 | .nsl => as2 P H s d .nsl
 | .d (.sl t) l => as2 P H s d (.d (.sl t) l)
 | a => aJg P s d a
def aqW (a : AV) : T AV :=
 match a with
 | .nsl => .ok .nilp
 | .own k off len => .need (1 ≤ len) (.ok (.eptr k off))
 | _ => .bad
def aJw (P : Program) (arr : TypeId) (a : AV) : T AV :=
 match a with
 | .own k off len => match P.underlying arr with
  | some (.array n _) => .need (1 ≤ len ∧ n ≤ len) (.ok (.eptr k off))
  | _ => .bad
 | _ => .bad
def aCs (P : Program) (k : TypeId) (a : AV) : T AV :=
 match P.underlying k with
 | some (.interface _) => .bad
 | some _ => match a with
  | .d t x => .ok (.ifc k t x)
  | _ => .bad
 | none => .bad
def aF7 (P : Program) (t : TypeId) : Option AV :=
 match P.info? t with
 | some i => match i.zero with
  | some z => some (aoH z)
  | none => none
 | none => none
def aqE (P : Program) (u : TypeId) (ok : Bool) : T AV :=
 match ok with
 | true => match aF7 P u with
  | some z => .ok (.tup [z, .d .bool false])
  | none => .bad
 | false => .bad
def awM (P : Program) (u : TypeId) (ok : Bool) (a : AV) : T AV :=
 match P.underlying u with
 | some (.interface _) => .bad
 | some _ => match a with
  | .ifc k t x => match Nat.beq k u with
   | true => match ok with
    | true => .ok (.tup [.d t x, .d .bool true])
    | false => .ok (.d t x)
   | false => aqE P u ok
  | .nili => aqE P u ok
  | _ => .bad
 | none => .bad
def eqK : DK → DK → Bool
 | .i a, .i b => eqD.eqI a b
 | .s a, .s b => eqD .str a b
 | .p a b, .p a' b' => eqD.eqI a a' && eqD.eqI b b'
 | _, _ => false
theorem aIY : ∀ {a b : DK}, eqK a b = true → a = b
 | .i _, .i _, h => congrArg DK.i (eq_of_beq h)
 | .s _, .s _, h => congrArg DK.s (eq_of_beq h)
 | .p _ _, .p _ _, h => by
  have h := Bool.and_eq_true_iff.1 h
  rw [show _ = _ from eq_of_beq h.1, show _ = _ from eq_of_beq h.2]
 | .i _, .s _, h | .i _, .p _ _, h | .s _, .i _, h | .s _, .p _ _, h | .p _ _, .i _, h | .p _ _, .s _, h => by cases h
def aQT : KK → AV → Option DK
 | .int k, .d (.int k') n => match decide (k' = k) with
  | true => some (.i n)
  | false => none
 | .str, .d .str l => some (.s l)
 | .two _ k, .d (.arr _ (.int k')) l => match decide (k' = k), l with
  | true, [a, b] => some (.p a b)
  | _, _ => none
 | .two _ k, .ag [.d (.int k1) a, .d (.int k2) b] => match decide (k1 = k), decide (k2 = k) with
  | true, true => some (.p a b)
  | _, _ => none
 | _, _ => none
def aAI : List (DK × AV) → DK → Option AV
 | [], _ => none
 | (k, v) :: r, n => match eqK n k with
  | true => some v
  | false => aAI r n
def ayW (k : KK) {α : Type} (n : DK) : List (k.ty.T × α) → Bool
 | [] => false
 | x :: r => match eqK n (k.dk x.1) with
  | true => true
  | false => ayW k n r
def apU (k : KK) {α : Type} (d : α) (n : DK) : List (k.ty.T × α) → α
 | [] => d
 | x :: r => match eqK n (k.dk x.1) with
  | true => x.2
  | false => apU k d n r
theorem aAH (k : KK) (t : Ty) (n : DK) : ∀ l : List (k.ty.T × t.T), aAI (aI0 k t l) n = match ayW k n l with | true => some (.d t (apU k t.dflt n l)) | false => none
 | [] => rfl
 | x :: r => by
  have ih := aAH k t n r
  show (match eqK n (k.dk x.1) with | true => some (AV.d t x.2) | false => aAI (aI0 k t r) n) = _
  simp only [ayW, apU]
  cases eqK n (k.dk x.1) with
  | true => rfl
  | false => exact ih
def aPZ (ok b : Bool) (v : AV) : AV :=
 match ok with
 | true => .tup [v, .d .bool b]
 | false => v
def aIf (P : Program) (H : Heap) (t : TypeId) (m i : AV) (ok : Bool) : T AV :=
 match P.underlying t with
 | some (.map kt et) => match ayV P kt with
  | some k => match m, aQT k i with
   | .mp K, some n => match H.find K with
    | some (.dic k'' l) => match decide (k'' = k) with
     | true => match aAI l n with
      | some v => .ok (aPZ ok true v)
      | none => match aF7 P et with
       | some z => .ok (aPZ ok false z)
       | none => .bad
     | false => .bad
    | some (.dicv k'' u l) => match decide (k'' = k), aF7 P et with
     | true, some z => .ite (ayW k'' n l) (.ok (aPZ ok true (.d u (apU k'' u.dflt n l)))) (.ok (aPZ ok false z))
     | _, _ => .bad
    | _ => .bad
   | _, _ => .bad
  | none => .bad
 | _ => .bad
def evP (P : Program) (H : Heap) (arg : Operand → AV) (o : Oper) : T AV :=
 match o.op with
 | .move x => .ok (arg x)
 | .assign x => .ok (arg x)
 | .pick c a b => match arg c with
  | .d .bool x => aDE x (arg a) (arg b)
  | _ => .bad
 | .nilCheck x => match arg x with
  | .ptr k i => .ok (.ptr k i)
  | .eptr k i => .ok (.eptr k i)
  | .efp k i f => .ok (.efp k i f)
  | .dptr t y => .ok (.dptr t y)
  | .fn f a b => .ok (.fn f a b)
  | _ => .bad
 | .binOp op xt x y _ => match (arg x).soft with
  | .d t a => match (arg y).soft with
   | .d u b => match t.agg with
    | true => aLT P op xt t a u b
    | false => match aAU P t xt with
     | true => aQV op t a u b
     | false => .bad
   | .nsl => aLR P op xt t a
   | _ => .bad
  | .nili => match ajP x || ajP y with
   | true => aoD P op xt .nili (arg y).soft
   | false => .bad
  | a => aoD P op xt a (arg y).soft
 | .unOp op _ x => aO8 op (arg x)
 | .convert s d x => aOP P H s d (arg x).soft
 | .makeFunc (.func f) first caps => .ok (.fn f (first.toList.map arg) (caps.toList.map arg))
 | .fieldAddr s x f => aAM P H s (arg x) f
 | .field s x f => asJ P s (arg x) f
 | .indexAddr t x i => ar7 P H t (arg x).soft (arg i)
 | .index t x i => ar6 P t (arg x) (arg i)
 | .lookup t x i ok => aIf P H t (arg x) (arg i) ok
 | .slice t x lo hi mx => match aSe (arg x) (hi.map arg) (mx.map arg) with
  | some (k, off, len) => aBH P H t k off len (lo.map arg)
  | none => match (arg x).soft with
   | .own k off len => awT P H t k off len (lo.map arg) (hi.map arg) (mx.map arg)
   | .ptr k off => awV P t k off (lo.map arg) (hi.map arg) (mx.map arg)
   | a => match mx.map arg with
    | some mx => aBI P t a (lo.map arg) (hi.map arg) mx
    | none => aBJ P t a (lo.map arg) (hi.map arg) none
 | .extract t i => match arg t with
  | .tup l => T.ofO l[i]?
  | _ => .bad
 | .build t ps => aC5 P t (ps.toList.map fun x => (x.1, arg x.2))
 | .makeInterface k x => aCs P k (arg x)
 | .typeAssert x _ u ok => awM P u ok (arg x)
 | .sliceToArrayPointer t x => aJw P t (arg x).soft
 | .call { callee := .builtin .len, args, argTypes } => match args.toList with
  | [x] => match argTypes[0]? with
   | some t => aOl P t (arg x).soft
   | none => .bad
  | _ => .bad
 | .call { callee := .builtin .cap, args, argTypes } => match args.toList with
  | [x] => match argTypes[0]? with
   | some t => aOQ P t (arg x)
   | none => .bad
  | _ => .bad
 | .call { callee := .builtin .unsafeSliceData, args, .. } => match args.toList with
  | [x] => aqW (arg x).soft
  | _ => .bad
 | .call { callee := .builtin .min, args, .. } => aQN true (args.toList.map arg)
 | .call { callee := .builtin .max, args, .. } => aQN false (args.toList.map arg)
 | _ => .bad
section
variable {C : Ctx} {ρ : Nat → Nat} {H : Heap} {w : World} {P : Program}
theorem aGi (x y : List UInt8) : ((⟨⟨x⟩⟩ : ByteArray) == ⟨⟨y⟩⟩) = (x == y) := by
 show ((⟨x⟩ : Array UInt8) == ⟨y⟩) = _
 simp
theorem aLS (ok : Nat → Prop) (d : Nat) (t : TypeId) : ∀ (n : Nat) (v : Ty), okEq P n t v = true → ∀ (x y : v.T) (vx vy : Value), RdV ok w v x vx → RdV ok w v y vy → (Op.equalIn (d + n) t vx vy).run P w = .ok (eqD v x y) w := by
 intro n
 induction n generalizing t with
 | zero => intro v h; cases h
 | succ n ih =>
  intro v h x y vx vy hx hy
  unfold okEq at h
  split at h
  ·rename_i k hu
   cases v with
   | int k' =>
    obtain ⟨cs, ⟨rfl, _⟩, hv⟩ := hx
    obtain ⟨ds, ⟨rfl, _⟩, hv'⟩ := hy
    simp only [vOf, Ty.agg, yy, if_false, List.cons.injEq, and_true] at hv hv'
    subst hv; subst hv'
    show (Op.equalIn (d + n + 1) t _ _).run P w = _
    simp [Op.equalIn, run_underlying hu, eqD, eqD.eqI]
   | _ => cases h
  ·rename_i hu
   cases v with
   | bool =>
    obtain ⟨cs, e1, hv⟩ := hx
    obtain ⟨ds, e2, hv'⟩ := hy
    rw [show cs = _ from e1] at hv
    rw [show ds = _ from e2] at hv'
    simp only [vOf, Ty.agg, yy, if_false, List.cons.injEq, and_true] at hv hv'
    subst hv; subst hv'
    show (Op.equalIn (d + n + 1) t _ _).run P w = _
    simp [Op.equalIn, run_underlying hu, eqD, eqD.eqB]
   | _ => cases h
  ·rename_i hu
   cases v with
   | str =>
    obtain ⟨cs, ⟨rfl, _⟩, hv⟩ := hx
    obtain ⟨ds, ⟨rfl, _⟩, hv'⟩ := hy
    simp only [vOf, Ty.agg, yy, if_false, List.cons.injEq, and_true] at hv hv'
    subst hv; subst hv'
    show (Op.equalIn (d + n + 1) t _ _).run P w = _
    simp only [Op.equalIn, run_underlying hu, Sem.run_bind, Result.andThen_ok, Sem.run_pure, eqD, eqD.eqS]
    congr 1
    exact aGi _ _
   | _ => cases h
  ·rename_i m e hu
   cases v with
   | arr m' u =>
    simp only [zl] at h
    obtain ⟨⟨h1, h2⟩, h3⟩ := h
    have h1 := aaD h1
    subst h1
    obtain ⟨cs, ⟨hl, hr⟩, hv⟩ := hx
    obtain ⟨ds, ⟨hl', hr'⟩, hv'⟩ := hy
    simp only [vOf, Ty.agg, if_true] at hv hv'
    subst hv; subst hv'
    obtain ⟨ha, hsz⟩ := akC h2
    obtain ⟨i, hi, hin⟩ : ∃ i, P.info? e = some i ∧ i.size = u.size := by
     unfold aa6 at hsz
     cases hq : P.info? e with
     | none => rw [hq] at hsz; cases hsz
     | some i => rw [hq] at hsz; exact ⟨i, rfl, by simpa using hsz⟩
    have hc : P.cellsOf e = u.size := by simp [Program.cellsOf, hi, hin]
    show (Op.equalIn (d + n + 1) t _ _).run P w = _
    rw [run_equalIn_array w (d + n) _ _ hu hi, hc]
    have key : ∀ (k j : Nat) (x' y' : List u.T), x'.length = k → y'.length = k → RdL (Rd ok w u) x' (cs.drop (j * u.size)) → RdL (Rd ok w u) y' (ds.drop (j * u.size)) → (Op.eqItems (d + n) e u.size ⟨cs⟩ ⟨ds⟩ (List.range' j k)).run P w = .ok (eqD.eqL (eqD u) x' y') w := by
     intro k
     induction k with
     | zero =>
      intro j x' y' hx' hy' _ _
      rw [yu hx', yu hy']
      simp [Op.eqItems, eqD.eqL]
     | succ k ihk =>
      intro j x' y' hx' hy' hrx hry
      match x', y' with
      | x0 :: xs, y0 :: ys =>
       obtain ⟨c1, c2, e1, r1, r2⟩ := hrx
       obtain ⟨d1, d2, e2, s1, s2⟩ := hry
       have hlc := Rd.length _ _ _ r1
       have hld := Rd.length _ _ _ s1
       have hcs : j * u.size + u.size ≤ cs.length ∨ u.size = 0 := by
        by_cases h0 : u.size = 0
        ·exact Or.inr h0
        ·left
         have := congrArg List.length e1
         simp at this; omega
       have hds : j * u.size + u.size ≤ ds.length ∨ u.size = 0 := by
        by_cases h0 : u.size = 0
        ·exact Or.inr h0
        ·left
         have := congrArg List.length e2
         simp at this; omega
       have t1 : (cs.drop (j * u.size)).take u.size = c1 := by rw [e1, ← hlc]; simp
       have t2 : (ds.drop (j * u.size)).take u.size = d1 := by rw [e2, ← hld]; simp
       have n1 : cs.drop ((j + 1) * u.size) = c2 := by rw [zV, ← zT, e1, ← hlc]; simp
       have n2 : ds.drop ((j + 1) * u.size) = d2 := by rw [zV, ← zT, e2, ← hld]; simp
       obtain ⟨v1, p1, q1⟩ := ahE (P := P) (ok := ok) (w := w) (cs := cs) (o := j * u.size) h2 hcs (by rw [t1]; exact r1)
       obtain ⟨v2, p2, q2⟩ := ahE (P := P) (ok := ok) (w := w) (cs := ds) (o := j * u.size) h2 hds (by rw [t2]; exact s1)
       have hq := ih e u h3 x0 y0 v1 v2 q1 q2
       have hrec := ihk (j + 1) xs ys (by simpa using hx') (by simpa using hy') (by rw [n1]; exact r2) (by rw [n2]; exact s2)
       rw [List.range'_succ]
       simp only [Op.eqItems, Sem.run_bind, p1, p2, hq, Result.andThen_ok, eqD.eqL]
       cases hb : eqD u x0 y0 with
       | true => simpa using hrec
       | false => simp
    rw [List.range_eq_range']
    exact key m 0 x y hl hl' (by simpa using hr) (by simpa using hr')
   | _ => cases h
  ·rename_i fs hu
   simp only [zl, zK] at h
   obtain ⟨hst, hfs⟩ := h
   have hfo : P.fieldsOf t = fs := by simp [Program.fieldsOf, hu]
   have hag : v.agg = true := by
    cases v with
    | unit => rfl
    | pair _ _ => rfl
    | _ => cases hfl : fs.toList <;> rw [hfl] at hfs <;> cases hfs
   obtain ⟨cs, hr, hv⟩ := hx
   obtain ⟨ds, hr', hv'⟩ := hy
   unfold vOf at hv hv'
   rw [if_pos hag] at hv hv'
   subst hv; subst hv'
   show (Op.equalIn (d + n + 1) t _ _).run P w = _
   rw [run_equalIn_struct w (d + n) t _ _ (by rw [hfo]; exact hu) hst, hfo]
   have key : ∀ (l : List Field) (off : Nat) (u : Ty) (x' y' : u.T), okEq.okFs P (okEq P n) l off u = true → Rd ok w u x' (cs.drop off) → Rd ok w u y' (ds.drop off) → (Op.eqFields (d + n) ⟨cs⟩ ⟨ds⟩ l).run P w = .ok (eqD u x' y') w := by
    intro l
    induction l with
    | nil =>
     intro off u x' y' hu' _ _
     cases u with
     | unit => simp [Op.eqFields, eqD]
     | _ => cases hu'
    | cons f r ihl =>
     intro off u x' y' hu' hrx hry
     cases u with
     | pair t1 u1 =>
      simp only [okEq.okFs, zl, yU, ne_eq] at hu'
      obtain ⟨⟨⟨⟨h1, h2⟩, h3⟩, h4⟩, h5⟩ := hu'
      have h1 := aaD h1
      obtain ⟨c1, c2, e1, r1, r2⟩ := hrx
      obtain ⟨d1, d2, e2, s1, s2⟩ := hry
      have hlc := Rd.length _ _ _ r1
      have hld := Rd.length _ _ _ s1
      have t1' : (cs.drop off).take t1.size = c1 := by rw [e1, ← hlc]; simp
      have t2' : (ds.drop off).take t1.size = d1 := by rw [e2, ← hld]; simp
      have n1 : cs.drop (off + t1.size) = c2 := by rw [← zT, e1, ← hlc]; simp
      have n2 : ds.drop (off + t1.size) = d2 := by rw [← zT, e2, ← hld]; simp
      have hcs : off + t1.size ≤ cs.length ∨ t1.size = 0 := by
       by_cases h0 : t1.size = 0
       ·exact Or.inr h0
       ·left
        have := congrArg List.length e1
        simp at this; omega
      have hds : off + t1.size ≤ ds.length ∨ t1.size = 0 := by
       by_cases h0 : t1.size = 0
       ·exact Or.inr h0
       ·left
        have := congrArg List.length e2
        simp at this; omega
      obtain ⟨v1, p1, q1⟩ := ahE (P := P) (ok := ok) (w := w) (cs := cs) (o := off) h3 hcs (by rw [t1']; exact r1)
      obtain ⟨v2, p2, q2⟩ := ahE (P := P) (ok := ok) (w := w) (cs := ds) (o := off) h3 hds (by rw [t2']; exact s1)
      have hq := ih f.type t1 h4 x'.1 y'.1 v1 v2 q1 q2
      have hrec := ihl (off + t1.size) u1 x'.2 y'.2 h5 (by rw [n1]; exact r2) (by rw [n2]; exact s2)
      rw [← h1] at p1 p2
      simp only [Op.eqFields, h2, ne_eq, not_false_eq_true, if_true, Sem.run_bind, p1, p2, hq, Result.andThen_ok, eqD]
      cases hb : eqD t1 x'.1 y'.1 with
      | true => simpa using hrec
      | false => simp
     | _ => cases hu'
   exact key fs.toList 0 v x y hfs (by simpa using hr) (by simpa using hr')
  ·cases h
theorem aCP {op : BinOp} {xt : TypeId} {t u : Ty} {x : t.T} {y : u.T} {r : AV} {vx vy : Value} (a b : Operand) (h : (aLT P op xt t x u y).Leaf r) (hx : VR C ρ H w (.d t x) vx) (hy : VR C ρ H w (.d u y) vy) :
  (eqGuard op xt a b vx vy).run P w = .ok () w ∧ ∃ v, (binOp op xt vx vy).run P w = .ok v w ∧ VR C ρ H w r v := by
 unfold aLT at h
 split at h
 ·rename_i hc
  simp only [zl, zK] at hc
  obtain ⟨⟨h1, h2⟩, h3⟩ := hc
  split at h
  ·rename_i y' hy'
   have hdx := hx.datum
   have hdy := VR.as hy hy'
   have heq : (Op.equal xt vx vy).run P w = .ok (eqD t x y') w := aLS (P := P) (w := w) _ 9980 xt 20 t h1 x y' vx vy hdx hdy
   obtain ⟨cs, _, hv⟩ := hdx
   obtain ⟨ds, _, hv'⟩ := hdy
   unfold vOf at hv hv'
   rw [if_pos h3] at hv hv'
   subst hv; subst hv'
   have hg : (eqGuard op xt a b (.agg ⟨cs⟩) (.agg ⟨ds⟩)).run P w = .ok () w := by
    cases op <;> simp [eqGuard, h2]
   refine ⟨hg, ?_⟩
   cases op <;> first | (cases h; done) | skip
   ·cases h; exact ⟨.bool (eqD t x y'), by simp [binOp, heq], abK⟩
   ·cases h; exact ⟨.bool (!(eqD t x y')), by simp [binOp, heq], abK⟩
  ·cases h
 ·cases h
theorem ac2 {op : BinOp} {xt : TypeId} {b : Bool} {r : AV} {vx vy : Value} (h : (axY op b).Leaf r) (heq : (Op.equal xt vx vy).run P w = .ok b w)
  (hn : (binOp .eql xt vx vy) = (do pure (.bool (← Op.equal xt vx vy))) ∧ (binOp .neq xt vx vy) = (do pure (.bool (!(← Op.equal xt vx vy))))) : ∃ v, (binOp op xt vx vy).run P w = .ok v w ∧ VR C ρ H w r v := by
 cases op <;> first | (cases h; done) | skip
 ·cases h; exact ⟨.bool b, by rw [hn.1]; simp [heq], abK⟩
 ·cases h; exact ⟨.bool (!b), by rw [hn.2]; simp [heq], abK⟩
theorem avT {xt e : TypeId} (hu : P.underlying xt = some (.pointer e)) (q : Option Addr) : (Op.equal xt (.pointer none) (.pointer q)).run P w = .ok q.isNone w := by
 have h : ∀ d, (Op.equalIn (d + 1) xt (.pointer none) (.pointer q)).run P w = .ok q.isNone w := fun d => by simp [Op.equalIn, run_underlying hu]
 exact h 9999
theorem aFA {xt e : TypeId} (hu : P.underlying xt = some (.pointer e)) (a : Addr) : (Op.equal xt (.pointer (some a)) (.pointer none)).run P w = .ok false w := by
 have h : ∀ d, (Op.equalIn (d + 1) xt (.pointer (some a)) (.pointer none)).run P w = .ok false w := fun d => by simp [Op.equalIn, run_underlying hu]
 exact h 9999
theorem aCN {xt e : TypeId} {i : TypeInfo} (hu : P.underlying xt = some (.pointer e)) (hi : P.info? e = some i) (a : Addr) : (Op.equal xt (.pointer (some a)) (.pointer (some a))).run P w = .ok true w := by
 have h : ∀ d, (Op.equalIn (d + 1) xt (.pointer (some a)) (.pointer (some a))).run P w = .ok true w := fun d => by simp [Op.equalIn, run_underlying hu, sizeOf, typeInfo, hi, run_sameAddr_same]
 exact h 9999
theorem aIV {xt : TypeId} {ms : Array (String × TypeId)} (hu : P.underlying xt = some (.interface ms)) : (Op.equal xt .nilIface .nilIface).run P w = .ok true w := by
 have h : ∀ d, (Op.equalIn (d + 1) xt .nilIface .nilIface).run P w = .ok true w := fun d => by simp [Op.equalIn, run_underlying hu]
 exact h 9999
theorem aAT {xt : TypeId} {ms : Array (String × TypeId)} (hu : P.underlying xt = some (.interface ms)) (u : TypeId) (p : Value) : (Op.equal xt (.iface u p) .nilIface).run P w = .ok false w := by
 have h : ∀ d, (Op.equalIn (d + 1) xt (.iface u p) .nilIface).run P w = .ok false w := fun d => by simp [Op.equalIn, run_underlying hu]
 exact h 9999
theorem asP {xt e : TypeId} (hu : P.underlying xt = some (.slice e)) (a : Addr) (n c : Nat) : (Op.equal xt (.slice (some a) n c) (.slice none 0 0)).run P w = .ok false w := by
 have h : ∀ d, (Op.equalIn (d + 1) xt (.slice (some a) n c) (.slice none 0 0)).run P w = .ok false w := fun d => by simp [Op.equalIn, run_underlying hu]
 exact h 9999
theorem aFB {xt e : TypeId} (hu : P.underlying xt = some (.slice e)) : (Op.equal xt (.slice none 0 0) (.slice none 0 0)).run P w = .ok true w := by
 have h : ∀ d, (Op.equalIn (d + 1) xt (.slice none 0 0) (.slice none 0 0)).run P w = .ok true w := fun d => by simp [Op.equalIn, run_underlying hu]
 exact h 9999
theorem aCO {op : BinOp} {xt : TypeId} {t : Ty} {x : t.T} {r : AV} {vx vy : Value} (ox oy : Operand) (h : (aLR P op xt t x).Leaf r) (hx : VR C ρ H w (.d t x) vx) (hy : VR C ρ H w .nsl vy) :
  (eqGuard op xt ox oy vx vy).run P w = .ok () w ∧ ∃ v, (binOp op xt vx vy).run P w = .ok v w ∧ VR C ρ H w r v := by
 cases t <;> first | (cases h; done) | skip
 rename_i u
 simp only [aLR] at h
 split at h
 ·rename_i e hu
  cases h with
  | need hp h =>
   obtain ⟨a', cap, e1, h4, h5, h6⟩ := hx.datum.scalar rfl
   injection e1 with e1 _
   subst e1
   have hne : x ≠ [] := fun e => by subst e; exact absurd hp zf
   obtain ⟨b, o, c, e', fr, ha', _⟩ := h6.resolve_left hne
   subst ha'
   cases hy
   exact ⟨by cases op <;> simp [eqGuard], ac2 h (asP hu _ _ _) ⟨rfl, rfl⟩⟩
 ·cases h
theorem amW {op : BinOp} {xt : TypeId} {a b r : AV} {vx vy : Value} (ox oy : Operand) (hco : ajP ox = true ∨ ajP oy = true ∨ a ≠ .nili) (h : (aoD P op xt a b).Leaf r) (hx : VR C ρ H w a vx) (hy : VR C ρ H w b vy) :
  (eqGuard op xt ox oy vx vy).run P w = .ok () w ∧ ∃ v, (binOp op xt vx vy).run P w = .ok v w ∧ VR C ρ H w r v := by
 unfold aoD at h
 split at h
 ·rename_i e hu
  split at h
  ·rename_i i hi
   split at h
   ·rename_i c hc
    unfold aGr at hc
    have fin : ∀ (p q : Option Addr), vx = .pointer p → vy = .pointer q → (Op.equal xt (.pointer p) (.pointer q)).run P w = .ok c w → (eqGuard op xt ox oy vx vy).run P w = .ok () w ∧ ∃ v, (binOp op xt vx vy).run P w = .ok v w ∧ VR C ρ H w r v := by
     intro p q e1 e2 heq
     subst e1; subst e2
     refine ⟨by cases op <;> simp [eqGuard], ac2 h heq ⟨rfl, rfl⟩⟩
    split at hc
    ·injection hc with hc; subst hc; cases hx; cases hy
     exact fin none none rfl rfl (avT hu none)
    ·injection hc with hc; subst hc; cases hx; cases hy
     exact fin _ none rfl rfl (aFA hu _)
    ·injection hc with hc; subst hc; cases hx; cases hy
     exact fin none _ rfl rfl (avT hu (some _))
    ·split at hc
     ·rename_i hb
      injection hc with hc; subst hc
      simp only [zl] at hb
      have e1 := aaD hb.1
      have e2 := aaD hb.2
      subst e1; subst e2
      cases hx; cases hy
      exact fin _ _ rfl rfl (aCN hu hi _)
     ·cases hc
    ·cases hc
   ·cases h
  ·cases h
 ·rename_i ms hu
  split at h
  ·cases hx; cases hy
   refine ⟨?_, ac2 h (aIV hu) ⟨rfl, rfl⟩⟩
   rcases hco with hco | hco | hco
   ·cases ox <;> first | (cases hco; done) | (cases op <;> simp [eqGuard])
   ·cases oy <;> first | (cases hco; done) | (cases op <;> simp [eqGuard])
   ·exact absurd rfl hco
  ·cases hx; cases hy
   exact ⟨by cases op <;> simp [eqGuard], ac2 h (aAT hu _ _) ⟨rfl, rfl⟩⟩
  ·cases hx; cases hy
   exact ⟨by cases op <;> simp [eqGuard], ac2 h (aAT hu _ _) ⟨rfl, rfl⟩⟩
  ·cases h
 ·rename_i e hu
  split at h
  ·cases hx; cases hy
   exact ⟨by cases op <;> simp [eqGuard], ac2 h (aFB hu) ⟨rfl, rfl⟩⟩
  ·cases h with
   | need hp h =>
    cases hy
    cases hx with
    | own hk hl hc hmx hb hs ha =>
     have ha' := ha.resolve_right (fun h => by omega)
     subst ha'
     exact ⟨by cases op <;> simp [eqGuard], ac2 h (asP hu _ _ _) ⟨rfl, rfl⟩⟩
  ·cases hx; cases hy
   exact ⟨by cases op <;> simp [eqGuard], ac2 h (asP hu _ _ _) ⟨rfl, rfl⟩⟩
  ·cases h
 ·cases h
theorem auR : ∀ (ns : List Int) (l : List UInt8), (ns.foldl (fun r n => r.push (UInt8.ofNat n.toNat)) (⟨⟨l⟩⟩ : ByteArray)) = ⟨⟨l ++ akQ ns⟩⟩
 | [], l => by simp [akQ]
 | n :: ns, l => by
  rw [List.foldl_cons, show (⟨⟨l⟩⟩ : ByteArray).push (UInt8.ofNat n.toNat) = ⟨⟨l ++ [UInt8.ofNat n.toNat]⟩⟩ by simp [ByteArray.push], auR ns]
  simp [akQ]
theorem aGz {ok : Nat → Prop} : ∀ (l : List Int) (cs : List Value), RdL (Rd ok w (.int .u8)) l cs → cs = l.map (Value.int .u8)
 | [], cs, h => h
 | x :: xs, cs, ⟨c1, c2, e, ⟨h1, _⟩, h2⟩ => by rw [e, h1, aGz xs c2 h2]; rfl
theorem aKt {ok : Nat → Prop} {l : List Int} {v : Value} (h : RdV ok w (.sl (.int .u8)) l v) :
  ∃ a cap, v = .slice a l.length cap ∧ l.length ≤ cap ∧ l.length ≤ lim ∧ (l = [] ∨ ∃ b o, a = some ⟨b, o, none⟩ ∧ ∀ j y, (l.map (Value.int .u8))[j]? = some y → w.cell? ((⟨b, o, none⟩ : Addr).add j) = some y) := by
 obtain ⟨cs, ⟨ad, cap, e1, h1, h2, h3⟩, hv⟩ := h
 have hv' : cs = [v] := hv
 rw [e1] at hv'
 injection hv' with hv' _
 refine ⟨ad, cap, hv'.symm, h1, h2, ?_⟩
 rcases h3 with h3 | ⟨b, o, c, e', fr, hab, _, hblk, hsz, hr⟩
 ·exact Or.inl h3
 ·refine Or.inr ⟨b, o, hab, fun j y hj => ?_⟩
  have hcs := aGz _ _ hr
  have hjl : j < l.length := by have := (zw.1 hj).1; simpa using this
  have hsz' : o + l.length * 1 ≤ c.size := hsz
  have hcs' : (c.toList.drop o).take (l.length * 1) = l.map (Value.int .u8) := hcs
  rw [← hcs', zR, if_pos zb, yJ, zU] at hj
  rw [af5]
  simp [World.cell?, hblk, hj]
theorem aFJ {s d e : TypeId} (hs : P.underlying s = some (.slice e)) (he : P.underlying e = some (.int .u8)) (hd : P.underlying d = some .string) {ok : Nat → Prop} {l : List Int} {v : Value} (h : RdV ok w (.sl (.int .u8)) l v) :
  (convert s d v).run P w = .ok (.string ⟨⟨akQ l⟩⟩) w ∧ l.length ≤ lim := by
 obtain ⟨a, cap, rfl, _, h2, h3⟩ := aKt h
 refine ⟨?_, h2⟩
 rw [run_convert_bytes_string w s d e _ _ _ hs he hd]
 have hfold := auR l []
 have hemp : (ByteArray.empty) = (⟨⟨[]⟩⟩ : ByteArray) := rfl
 rcases h3 with rfl | ⟨b, o, rfl, hc⟩
 ·cases a with
  | none => simp [Conv.bytesToString, akQ]; rfl
  | some ad => rw [run_bytesToString (P := P) w ad _ cap [] (by simpa using run_loadCells_list (P := P) w ad [] (by intro j v hj; cases hj)), hemp, hfold]; rfl
 ·rw [run_bytesToString w _ _ _ l (by simpa using run_loadCells_list (P := P) w ⟨b, o, none⟩ (l.map (Value.int .u8)) hc), hemp, hfold]
  rfl
theorem aiR {H0 : Heap} (hsub : ∀ x ∈ H0, x ∈ H) {next : Nat} (hm : MRel C ρ H next w) {s d : TypeId} {a r : AV} {v : Value} (h : (as2 P H0 s d a).Leaf r) (ha : VR C ρ H w a v) :
  ∃ v', (convert s d v).run P w = .ok v' w ∧ VR C ρ H w r v' := by
 unfold as2 at h
 split at h
 ·rename_i hb hd
  unfold aCB at hb
  split at hb
  ·rename_i e hs
   split at hb
   ·rename_i he
    split at h
    ·rename_i l hl
     cases h
     obtain ⟨h1, h2⟩ := aFJ (P := P) hs he hd (anI hsub hm hl ha)
     exact ⟨_, h1, auO (by unfold akQ; rw [zS]; exact h2)⟩
    ·cases h
   ·cases hb
  ·cases hb
 ·cases h
theorem ax7 {H0 : Heap} (hsub : ∀ x ∈ H0, x ∈ H) {next : Nat} (hm : MRel C ρ H next w) {s d : TypeId} {k off : Nat} {r : AV} {v : Value} (h : (aCW P H0 s d k off).Leaf r) (ha : VR C ρ H w (.ptr k off) v) :
  ∃ v', (convert s d v).run P w = .ok v' w ∧ VR C ρ H w r v' := by
 unfold aCW at h
 split at h
 ·rename_i e cells hf
  obtain ⟨c, h1, h2, h3⟩ := hm.mem k _ (hsub _ (Heap.find_mem hf))
  have hl : cells.length = c.size := by rw [h2.length]; simp
  have hsh : w.shape? (ρ k) = some (e, c.size) := by simp [World.shape?, h1]
  have ha' := ha
  cases ha with
  | ptr hk =>
   split at h
   ·rename_i t hs hd
    split at h
    ·rename_i j hj
     split at h
     ·rename_i hc
      cases h
      simp only [zl, zK] at hc
      exact ⟨_, Lib.run_to_unsafe w ⟨ρ k, off, none⟩ hs hd hj (fun e0 => by have := ab6 hc.1; exact this e0) hsh (by have := Nat.le_of_ble_eq_true hc.2; show off < c.size; omega), ha'⟩
     ·cases h
    ·cases h
   ·rename_i u hs hd
    split at h
    ·rename_i j hj
     split at h
     ·rename_i hc
      cases h
      exact ⟨_, Lib.run_from_unsafe w ⟨ρ k, off, none⟩ hs hd hj hsh (by rw [← hl]; exact hc), ha'⟩
     ·cases h
    ·cases h
   ·cases h
 ·cases h
theorem aCX {H0 : Heap} (hsub : ∀ x ∈ H0, x ∈ H) {next : Nat} (hm : MRel C ρ H next w) {s d : TypeId} {a r : AV} {v : Value} (h : (aOP P H0 s d a).Leaf r) (ha : VR C ρ H w a v) :
  ∃ v', (convert s d v).run P w = .ok v' w ∧ VR C ρ H w r v' := by
 unfold aOP at h
 split at h
 ·exact ax7 hsub hm h ha
 ·exact aiR hsub hm h ha
 ·exact aiR hsub hm h ha
 ·exact aiR hsub hm h ha
 ·exact aA2 h ha
theorem aqV {a r : AV} {v : Value} {ts : Array TypeId} {ty : TypeId} (h : (aqW a).Leaf r) (ha : VR C ρ H w a v) :
  ∃ v', (Builtin.unsafeSliceData_ ts ty #[v]).run P w = .ok v' w ∧ VR C ρ H w r v' := by
 unfold aqW at h
 split at h
 ·cases h; cases ha; exact ⟨_, Lib.run_unsafeSliceData_nil w ts ty 0 0, .nilp⟩
 ·cases h with
  | need hp h =>
   cases h
   cases ha with
   | own hk hl hc hmx hb hs hor =>
    have ha' := hor.resolve_right (fun h => by omega)
    subst ha'
    exact ⟨_, Lib.run_unsafeSliceData_row w ts ty _ _ _ zb, .eptr hk zb⟩
 ·cases h
theorem aBe {t : TypeId} {a r : AV} {v : Value} (h : (aJw P t a).Leaf r) (ha : VR C ρ H w a v) : ∃ v', (Instr.arrayAt t v).run P w = .ok v' w ∧ VR C ρ H w r v' := by
 unfold aJw at h
 split at h
 ·rename_i k off len
  split at h
  ·rename_i n e hu
   cases h with
   | need hp h =>
    cases h
    obtain ⟨hp1, hp2⟩ := hp
    cases ha with
    | own hk hl hc hmx hb hs hor =>
     have ha' := hor.resolve_right (fun h => by omega)
     subst ha'
     refine ⟨_, ?_, .eptr hk zb⟩
     simp [Instr.arrayAt, run_underlying hu, show ¬ len < n by omega]
  ·cases h
 ·cases h
theorem VRs.ofMap {arg : Operand → AV} {val : Operand → Value} (hv : ∀ x, VR C ρ H w (arg x) (val x)) : ∀ l : List Operand, VRs C ρ H w (l.map arg) (l.map val)
 | [] => .nil
 | x :: l => .cons (hv x) (VRs.ofMap hv l)
theorem OVR.ofMap {arg : Operand → AV} {val : Operand → Value} (hv : ∀ x, VR C ρ H w (arg x) (val x)) (o : Option Operand) : OVR C ρ H w (o.map arg) (o.map val) := by
 cases o with
 | none => trivial
 | some x => exact hv x
theorem Parts.ofMap {arg : Operand → AV} {val : Operand → Value} (hv : ∀ x, VR C ρ H w (arg x) (val x)) : ∀ l : List (Nat × Operand), Parts C ρ H w (l.map fun x => (x.1, arg x.2)) (l.map fun x => (x.1, val x.2))
 | [] => .nil
 | x :: l => .cons (hv x.2) (Parts.ofMap hv l)
theorem axE {k : TypeId} {a r : AV} {v : Value} (h : (aCs P k a).Leaf r) (ha : VR C ρ H w a v) : ∃ v', (Instr.makeInterface k v).run P w = .ok v' w ∧ VR C ρ H w r v' := by
 unfold aCs at h
 split at h
 ·cases h
 ·rename_i ty hne hu
  split at h
  ·cases h
   cases ha with
   | d hr =>
    refine ⟨.iface k v, ?_, .ifc hr⟩
    simp only [Instr.makeInterface, Sem.run_bind, run_underlying hu, Result.andThen_ok]
    cases ty <;> first | rfl | exact absurd hu (hne _)
  ·cases h
 ·cases h
theorem ak6 {t : TypeId} {z : AV} (h : aF7 P t = some z) : ∃ v, (zeroValue t).run P w = .ok v w ∧ VR C ρ H w z v := by
 unfold aF7 at h
 split at h
 ·rename_i i hi
  split at h
  ·rename_i z hz
   injection h with h; subst h
   exact ⟨z, by simp [zeroValue, typeInfo, hi, hz], afB _⟩
  ·cases h
 ·cases h
theorem ak2 {u : TypeId} {ok : Bool} {r : AV} (h : (aqE P u ok).Leaf r) : ok = true ∧ ∃ z, (zeroValue u).run P w = .ok z w ∧ VR C ρ H w r (.tuple #[z, .bool false]) := by
 unfold aqE at h
 split at h
 ·split at h
  ·rename_i z hz
   cases h
   obtain ⟨v, h1, h2⟩ := ak6 (C := C) (ρ := ρ) (H := H) (w := w) hz
   exact ⟨rfl, v, h1, .tup (.cons h2 (.cons abK .nil))⟩
  ·cases h
 ·cases h
theorem atX {xt u : TypeId} {ok : Bool} {a r : AV} {v : Value} (h : (awM P u ok a).Leaf r) (ha : VR C ρ H w a v) : ∃ v', (Instr.typeAssert v xt u ok).run P w = .ok v' w ∧ VR C ρ H w r v' := by
 unfold awM at h
 split at h
 ·cases h
 ·rename_i ty hne hu
  split at h
  ·rename_i k t x
   cases ha with
   | @ifc _ _ _ v hr =>
    split at h
    ·rename_i hb
     have hb := aaD hb
     subst hb
     split at h
     ·cases h
      refine ⟨.tuple #[v, .bool true], ?_, .tup (.cons (.d hr) (.cons abK .nil))⟩
      simp only [Instr.typeAssert, Sem.run_bind, run_underlying hu, Result.andThen_ok]
      cases ty <;> first | (exact absurd hu (hne _)) | simp
     ·cases h
      refine ⟨v, ?_, .d hr⟩
      simp only [Instr.typeAssert, Sem.run_bind, run_underlying hu, Result.andThen_ok]
      cases ty <;> first | (exact absurd hu (hne _)) | simp
    ·rename_i hb
     have hb : ¬ k = u := fun e => by subst e; rw [Nat.beq_refl] at hb; cases hb
     obtain ⟨rfl, z, h1, h2⟩ := ak2 (C := C) (ρ := ρ) (H := H) (w := w) h
     refine ⟨_, ?_, h2⟩
     simp only [Instr.typeAssert, Sem.run_bind, run_underlying hu, Result.andThen_ok]
     cases ty <;> first | (exact absurd hu (hne _)) | simp [hb, h1]
  ·cases ha
   obtain ⟨rfl, z, h1, h2⟩ := ak2 (C := C) (ρ := ρ) (H := H) (w := w) h
   refine ⟨_, ?_, h2⟩
   simp only [Instr.typeAssert, Sem.run_bind, run_underlying hu, Result.andThen_ok]
   cases ty <;> first | (exact absurd hu (hne _)) | simp [h1]
  ·cases h
 ·cases h
theorem avI {kt e : TypeId} {q : IntKind} (h : ayV P kt = some (.two e q)) : WideMaps.ArrKey P kt e 2 ∧ P.underlying e = some (.int q) ∧ ∃ m, P.types.size = m + 1 := by
 unfold ayV at h
 split at h
 ·cases h
 ·cases h
 ·rename_i n e' hu
  split at h
  ·rename_i k he
   split at h
   ·rename_i hc
    cases h
    simp only [zl] at hc
    have h2 := Nat.eq_of_beq_eq_true hc.1.1
    subst h2
    refine ⟨⟨hu, ?_, Nat.eq_of_beq_eq_true hc.1.2, Nat.eq_of_beq_eq_true hc.2.1⟩, he, P.types.size - 1, ?_⟩
    ·simp [Program.plainKey, he]
    ·have := Nat.le_of_ble_eq_true hc.2.2
     omega
   ·cases h
  ·cases h
 ·cases h
theorem axH {kt : TypeId} {k : KK} (h : ayV P kt = some k) : P.underlying kt = some k.td := by
 cases k with
 | two e q => exact (avI h).1.hu
 | int k =>
  unfold ayV at h
  split at h
  ·rename_i hu; cases h; exact hu
  ·cases h
  ·split at h
   ·split at h <;> cases h
   ·cases h
  ·cases h
 | str =>
  unfold ayV at h
  split at h
  ·cases h
  ·rename_i hu; exact hu
  ·split at h
   ·split at h <;> cases h
   ·cases h
  ·cases h
theorem aoF {k : KK} {i : AV} {n : DK} {v : Value} (h : aQT k i = some n) (hv : VR C ρ H w i v) : aBt k n v := by
 unfold aQT at h
 split at h
 ·rename_i k1 k2 x
  split at h
  ·rename_i hd
   cases h
   have e := of_decide_eq_true hd
   subst e
   exact ⟨rfl, (abD hv).1⟩
  ·cases h
 ·cases h
  exact ⟨rfl, (ad6 hv).1⟩
 ·split at h
  ·rename_i hd
   cases h
   have e := of_decide_eq_true hd
   subst e
   obtain ⟨cs, hr, hcs⟩ := hv.datum
   obtain ⟨_, hr⟩ := hr
   obtain ⟨c1, c2, rfl, ⟨rfl, r1, r2⟩, c3, c4, rfl, ⟨rfl, r3, r4⟩, rfl⟩ := hr
   refine ⟨by simp [KK.has, r1, r2, r3, r4], ?_⟩
   simpa [vOf, Ty.agg, KK.val] using hcs
  ·cases h
 ·rename_i q k1 a k2 b
  split at h
  ·rename_i h1 h2
   cases h
   have e1 := of_decide_eq_true h1
   have e2 := of_decide_eq_true h2
   subst e1; subst e2
   cases hv with
   | ag hh _ =>
    cases hh with
    | cons g1 g2 => cases g2 with
     | cons g2 g3 =>
      cases g3
      obtain ⟨rfl, r1, r2⟩ := abD g1
      obtain ⟨rfl, r3, r4⟩ := abD g2
      exact ⟨by simp [KK.has, r1, r2, r3, r4], rfl⟩
  ·cases h
 ·cases h
theorem ap5 : ∀ {k : KK} {n : DK} {v : Value}, aBt k n v → (∀ e q, k ≠ .two e q) → MapKept.IsKey k.td v
 | .int _, .i _, _, ⟨_, rfl⟩, _ => rfl
 | .str, .s _, _, ⟨_, rfl⟩, _ => trivial
 | .int _, .s _, _, ⟨h, _⟩, _ | .int _, .p _ _, _, ⟨h, _⟩, _ => by cases h
 | .str, .i _, _, ⟨h, _⟩, _ | .str, .p _ _, _, ⟨h, _⟩, _ => by cases h
 | .two e q, _, _, _, h => absurd rfl (h e q)
theorem ap0 : ∀ {k : KK} {n m : DK} {v u : Value}, aBt k n v → aBt k m u → (∀ e q, k ≠ .two e q) → Instr.sameNow k.td v u = some (eqK n m)
 | .int k, .i a, .i b, _, _, ⟨_, rfl⟩, ⟨_, rfl⟩, _ => by simp [Instr.sameNow, KK.td, KK.val, eqK, eqD.eqI]
 | .str, .s a, .s b, _, _, ⟨_, rfl⟩, ⟨_, rfl⟩, _ => congrArg some (aGi a b)
 | .int _, .s _, _, _, _, ⟨h, _⟩, _, _ | .int _, .p _ _, _, _, _, ⟨h, _⟩, _, _ => by cases h
 | .str, .i _, _, _, _, ⟨h, _⟩, _, _ | .str, .p _ _, _, _, _, ⟨h, _⟩, _, _ => by cases h
 | .int _, .i _, .s _, _, _, _, ⟨h, _⟩, _ | .int _, .i _, .p _ _, _, _, _, ⟨h, _⟩, _ => by cases h
 | .str, .s _, .i _, _, _, _, ⟨h, _⟩, _ | .str, .s _, .p _ _, _, _, _, ⟨h, _⟩, _ => by cases h
 | .two e q, _, _, _, _, _, _, h => absurd rfl (h e q)
theorem awN {kt e : TypeId} {q : IntKind} (hk : ayV P kt = some (.two e q)) {n : DK} {v : Value} (h : aBt (.two e q) n v) : ∃ l, keyOf P kt v = some l := by
 obtain ⟨A, he, hs⟩ := avI hk
 obtain ⟨h1, rfl⟩ := h
 cases n with
 | i _ => cases h1
 | s _ => cases h1
 | p a b =>
  simp only [KK.has, zl, zz] at h1
  exact ⟨_, WideMaps.keyOf_pair A he hs (by simp [Lit.wf]; omega) (by simp [Lit.wf]; omega)⟩
theorem aDi {kt e : TypeId} {q : IntKind} (hk : ayV P kt = some (.two e q)) {n m : DK} {v u : Value} (h : aBt (.two e q) n v) (h' : aBt (.two e q) m u) (w : World) : (Op.equal kt v u).run P w = .ok (eqK n m) w := by
 obtain ⟨A, _, _⟩ := avI hk
 obtain ⟨lx, h1⟩ := awN hk h
 obtain ⟨ly, h2⟩ := awN hk h'
 obtain ⟨r, hr, hi⟩ := run_equal_deep w (m := 2) zb (A.at 0) A.wide h1 h2
 have : r = eqK n m := by
  have hl : lx = ly ↔ v = u := ⟨fun hl => A.law.inj h1 (hl ▸ h2), fun hl => by subst hl; rw [h1] at h2; injection h2⟩
  have hv : v = u ↔ eqK n m = true := by
   obtain ⟨g1, rfl⟩ := h
   obtain ⟨g2, rfl⟩ := h'
   cases n <;> cases m <;> first | cases g1; done | cases g2; done | skip
   simp [KK.val, eqK, eqD.eqI]
  cases r <;> cases hb : eqK n m <;> simp_all
 rw [hr, this]
def Fnd (P : Program) (w : World) (kt : TypeId) (k : KK) (kv : Value) (es : List MapEntry) (i : Nat) (r : Option (Nat × Value)) : Prop := match k with
 | .two _ _ => (Instr.findAsking kt kv es i).run P w = .ok r w
 | k => Instr.findNow k.td kv es i = some r
theorem aIC {kt : TypeId} {k : KK} {kv : Value} {i : Nat} : Fnd P w kt k kv [] i none := by
 cases k <;> simp [Fnd, Instr.findAsking, Instr.findNow]
theorem aID {kt : TypeId} {k : KK} (hk : ayV P kt = some k) {n m : DK} {kv : Value} {e : MapEntry} {es : List MapEntry} (h : aBt k n kv) (h' : aBt k m e.key) (hb : eqK n m = true) {i : Nat} : Fnd P w kt k kv (e :: es) i (some (i, e.val)) := by
 cases k with
 | two e' q => simp [Fnd, Instr.findAsking, aDi hk h h' w, hb]
 | int q => simp [Fnd, Instr.findNow, ap0 h h' (fun _ _ => by simp), hb]
 | str => simp [Fnd, Instr.findNow, ap0 h h' (fun _ _ => by simp), hb]
theorem ap8 {kt : TypeId} {k : KK} (hk : ayV P kt = some k) {n m : DK} {kv : Value} {e : MapEntry} {es : List MapEntry} (h : aBt k n kv) (h' : aBt k m e.key) (hb : eqK n m = false) {i : Nat} {r : Option (Nat × Value)} (hr : Fnd P w kt k kv es (i + 1) r) : Fnd P w kt k kv (e :: es) i r := by
 cases k with
 | two e' q =>
  have hr : (Instr.findAsking kt kv es (i + 1)).run P w = .ok r w := hr
  simp [Fnd, Instr.findAsking, aDi hk h h' w, hb, hr]
 | int q =>
  have hr : Instr.findNow (KK.int q).td kv es (i + 1) = some r := hr
  simp [Fnd, Instr.findNow, ap0 h h' (fun _ _ => by simp), hb, hr]
 | str =>
  have hr : Instr.findNow KK.str.td kv es (i + 1) = some r := hr
  simp [Fnd, Instr.findNow, ap0 h h' (fun _ _ => by simp), hb, hr]
theorem an5 {kt : TypeId} {k : KK} (hk : ayV P kt = some k) {kv : Value} {es : List MapEntry} {r : Option (Nat × Value)} (hr : Fnd P w kt k kv es 0 r) : (Instr.findKey kt kv es).run P w = .ok r w := by
 cases k with
 | two e q =>
  rw [run_findKey_eq w (avI hk).1.wide]
  exact hr
 | int q => exact MapKept.run_findKey (axH hk) hr
 | str => exact MapKept.run_findKey (axH hk) hr
theorem ahI {kt : TypeId} {k : KK} (hk : ayV P kt = some k) {n : DK} {kv : Value} (h : aBt k n kv) (em : Bool) : (Instr.checkKey em 10000 kt kv).run P w = .ok () w := by
 cases k with
 | two e q =>
  obtain ⟨l, hl⟩ := awN hk h
  exact (avI hk).1.law.check w em hl
 | int q => exact MapKept.run_checkKey (axH hk) (ap5 h (fun _ _ => by simp)) em 9999
 | str => exact MapKept.run_checkKey (axH hk) (ap5 h (fun _ _ => by simp)) em 9999
theorem aIi {kt : TypeId} {k : KK} (hk : ayV P kt = some k) {n : DK} {kv : Value} (h : aBt k n kv) : (Instr.keyThatStays kv kv).run P w = .ok kv w := by
 cases k with
 | two e q =>
  obtain ⟨l, hl⟩ := awN hk h
  exact (avI hk).1.law.stays w hl
 | int q => exact MapKept.run_keyThatStays (ap5 h (fun _ _ => by simp))
 | str => exact MapKept.run_keyThatStays (ap5 h (fun _ _ => by simp))
theorem ax1 {R : AV → Value → Prop} {kt : TypeId} {k : KK} (hkk : ayV P kt = some k) {n : DK} {kv : Value} (hk : aBt k n kv) : ∀ {l : List (DK × AV)} {es : List MapEntry} (i : Nat), MapR R k l es →
  (∃ v j u, aAI l n = some v ∧ Fnd P w kt k kv es i (some (j, u)) ∧ R v u) ∨ aAI l n = none ∧ Fnd P w kt k kv es i none
 | [], [], _, _ => Or.inr ⟨rfl, aIC⟩
 | x :: l, e :: es, i, ⟨h1, h2, h3⟩ => by
  have ih := ax1 hkk hk (i + 1) h3
  simp only [aAI]
  show (∃ v j u, (match eqK n x.1 with | true => some x.2 | false => aAI l n) = some v ∧ _ ∧ _) ∨ _
  cases hb : eqK n x.1 with
  | true => exact Or.inl ⟨_, _, _, rfl, aID hkk hk h1 hb, h2⟩
  | false =>
   rcases ih with ⟨v, j, u, g1, g2, g3⟩ | ⟨g1, g2⟩
   ·exact Or.inl ⟨v, j, u, g1, ap8 hkk hk h1 hb g2, g3⟩
   ·exact Or.inr ⟨g1, ap8 hkk hk h1 hb g2⟩
 | [], _ :: _, _, h => h.elim
 | _ :: _, [], _, h => h.elim
theorem aj7 {ok b : Bool} {v : AV} {u : Value} (h : VR C ρ H w v u) : VR C ρ H w (aPZ ok b v) (if ok then .tuple #[u, .bool b] else u) := by
 cases ok
 ·exact h
 ·exact .tup (.cons h (.cons abK .nil))
theorem aAi {H0 : Heap} (hsub : ∀ x ∈ H0, x ∈ H) {next : Nat} (hm : MRel C ρ H next w) {t : TypeId} {m i r : AV} {ok : Bool} {vm vi : Value} (h : (aIf P H0 t m i ok).Leaf r) (hvm : VR C ρ H w m vm) (hvi : VR C ρ H w i vi) :
  ∃ v, (Instr.lookup t vm vi ok).run P w = .ok v w ∧ VR C ρ H w r v := by
 unfold aIf at h
 split at h
 case h_2 => cases h
 rename_i kt et hu
 split at h
 case h_2 => cases h
 rename_i k hk
 split at h
 case h_2 => cases h
 rename_i K n hn
 split at h
 case h_3 => cases h
 case h_2 k'' u l hf =>
  split at h
  case h_2 => cases h
  rename_i z hc hz
  have e2 := of_decide_eq_true hc
  subst e2
  cases hvm with
  | mp hkk =>
   obtain ⟨es, c, hb, hR⟩ := hm.mem _ _ (hsub _ (Heap.find_mem hf))
   have hkr := aoF hn hvi
   have hd := ax1 (w := w) hk hkr 0 hR
   rw [aAH] at hd
   cases hh : ayW k'' n l with
   | true =>
    rw [hh] at h hd
    cases h with
    | t h =>
     cases h
     rcases hd with ⟨v, j, u, g1, g2, g3⟩ | ⟨g1, _⟩
     ·cases g1
      exact ⟨_, by simp [Instr.lookup, run_underlying hu, MapKept.run_getObj_map hb, ahI hk hkr, an5 hk g2], aj7 g3⟩
     ·cases g1
   | false =>
    rw [hh] at h hd
    cases h with
    | f h =>
     cases h
     rcases hd with ⟨v, j, u, g1, _, _⟩ | ⟨_, g2⟩
     ·cases g1
     ·obtain ⟨u, q1, q2⟩ := ak6 (C := C) (ρ := ρ) (H := H) (w := w) hz
      exact ⟨_, by simp [Instr.lookup, run_underlying hu, MapKept.run_getObj_map hb, ahI hk hkr, an5 hk g2, q1], aj7 q2⟩
 rename_i k'' l hf
 split at h
 case h_2 => cases h
 rename_i hc
 have e2 := of_decide_eq_true hc
 subst e2
 cases hvm with
 | mp hkk =>
  obtain ⟨es, c, hb, hR⟩ := hm.mem _ _ (hsub _ (Heap.find_mem hf))
  have hkr := aoF hn hvi
  rcases ax1 (w := w) hk hkr 0 hR with ⟨v, j, u, g1, g2, g3⟩ | ⟨g1, g2⟩
  ·rw [g1] at h
   cases h
   exact ⟨_, by simp [Instr.lookup, run_underlying hu, MapKept.run_getObj_map hb, ahI hk hkr, an5 hk g2], aj7 g3⟩
  ·rw [g1] at h
   simp only at h
   split at h
   ·rename_i z hz
    cases h
    obtain ⟨u, q1, q2⟩ := ak6 (C := C) (ρ := ρ) (H := H) (w := w) hz
    exact ⟨_, by simp [Instr.lookup, run_underlying hu, MapKept.run_getObj_map hb, ahI hk hkr, an5 hk g2, q1], aj7 q2⟩
   ·cases h
theorem aAQ {H0 : Heap} (hsub : ∀ x ∈ H0, x ∈ H) {next : Nat} (hm : MRel C ρ H next w) {arg : Operand → AV} {val : Operand → Value} {o : Oper} {r : AV} (h : (evP P H0 arg o).Leaf r)
  (hv : ∀ x, VR C ρ H w (arg x) (val x)) : ∃ v, (execOp val o).run P w = .ok (.value v) w ∧ VR C ρ H w r v := by
 unfold evP at h
 split at h
 ·rename_i x ho; cases h; exact ⟨val x, by simp [execOp, ho], hv x⟩
 ·rename_i x ho; cases h; exact ⟨val x, by simp [execOp, ho], hv x⟩
 ·rename_i c a b ho
  split at h
  ·rename_i x hx
   have := hv c
   rw [hx] at this
   have e := adX this
   exact ⟨_, by simp [execOp, ho, e, asBool]; rfl, azS h (hv a) (hv b)⟩
  ·cases h
 ·rename_i x ho
  have hx := hv x
  have key : ∀ v, v = val x → ((∃ ad, v = Value.pointer (some ad)) ∨ ∃ f a b, v = Value.func (.func f) a b) → ∃ v, (execOp val o).run P w = .ok (.value v) w ∧ VR C ρ H w (arg x) v := by
   rintro v e (⟨ad, e'⟩ | ⟨f, a, b, e'⟩)
   ·exact ⟨v, by simp [execOp, ho, ← e, e'], e ▸ hx⟩
   ·exact ⟨v, by simp [execOp, ho, ← e, e'], e ▸ hx⟩
  generalize hvx : val x = v at hx
  split at h <;> rename_i hr
  ·cases h; rw [← hr]; refine key v hvx.symm ?_; rw [hr] at hx; cases hx; exact Or.inl ⟨_, rfl⟩
  ·cases h; rw [← hr]; refine key v hvx.symm ?_; rw [hr] at hx; cases hx; exact Or.inl ⟨_, rfl⟩
  ·cases h; rw [← hr]; refine key v hvx.symm ?_; rw [hr] at hx; cases hx; exact Or.inl ⟨_, rfl⟩
  ·cases h; rw [← hr]; refine key v hvx.symm ?_; rw [hr] at hx; cases hx; exact Or.inl ⟨_, rfl⟩
  ·cases h; rw [← hr]; refine key v hvx.symm ?_; rw [hr] at hx; cases hx; exact Or.inr ⟨_, _, _, rfl⟩
  ·cases h
 ·rename_i op xt x y yt ho
  have hx := (hv x).soft
  have hy := (hv y).soft
  split at h
  ·rename_i t a ha
   rw [ha] at hx
   split at h
   ·rename_i u b hb
    rw [hb] at hy
    split at h
    ·obtain ⟨h0, v, h1, h2⟩ := aCP (P := P) x y h hx hy
     exact ⟨v, by simp [execOp, ho, h0, h1], h2⟩
    ·split at h
     ·rename_i he
      obtain ⟨hag, v, h1, h2⟩ := aFN (P := P) h he hx hy
      exact ⟨v, by simp [execOp, ho, auD (P := P) (op := op) (xt := xt) (vy := val y) x y hag hx, h1], h2⟩
     ·cases h
   ·rename_i hb
    rw [hb] at hy
    obtain ⟨h0, v, h1, h2⟩ := aCO (P := P) x y h hx hy
    exact ⟨v, by simp [execOp, ho, h0, h1], h2⟩
   ·cases h
  ·rename_i ha
   rw [ha] at hx
   split at h
   ·rename_i hc
    obtain ⟨h0, v, h1, h2⟩ := amW (P := P) x y (by
     rw [xc] at hc
     rcases hc with hc | hc
     ·exact Or.inl hc
     ·exact Or.inr (Or.inl hc)) h hx hy
    exact ⟨v, by simp [execOp, ho, h0, h1], h2⟩
   ·cases h
  ·rename_i hn1 hn2
   obtain ⟨h0, v, h1, h2⟩ := amW (P := P) x y (Or.inr (Or.inr (fun e => hn2 e))) h hx hy
   exact ⟨v, by simp [execOp, ho, h0, h1], h2⟩
 ·rename_i op t x ho
  obtain ⟨v, h1, h2⟩ := aEr (P := P) h (hv x)
  exact ⟨v, by simp [execOp, ho, h1], h2⟩
 ·rename_i s d x ho
  obtain ⟨v, h1, h2⟩ := aCX hsub hm h (hv x).soft
  exact ⟨v, by simp [execOp, ho, h1], h2⟩
 ·rename_i f first caps ho
  cases h
  refine ⟨.func (.func f) (first.map val) (caps.map val), by simp [execOp, ho, Instr.makeFunc], ?_⟩
  have e1 : first.map val = ⟨first.toList.map val⟩ := by apply Array.ext'; simp
  have e2 : caps.map val = ⟨caps.toList.map val⟩ := by apply Array.ext'; simp
  rw [e1, e2]
  exact .fn (VRs.ofMap hv _) (VRs.ofMap hv _)
 ·rename_i s x f ho
  obtain ⟨v, h1, h2⟩ := aAL hsub hm h (hv x)
  exact ⟨v, by simp [execOp, ho, h1], h2⟩
 ·rename_i s x f ho
  obtain ⟨v, h1, h2⟩ := axQ h (hv x)
  exact ⟨v, by simp [execOp, ho, h1], h2⟩
 ·rename_i t x i ho
  obtain ⟨v, h1, h2⟩ := axL hsub hm h (hv x).soft (hv i)
  exact ⟨v, by simp [execOp, ho, h1], h2⟩
 ·rename_i t x i ho
  obtain ⟨v, h1, h2⟩ := axJ h (hv x) (hv i)
  exact ⟨v, by simp [execOp, ho, h1], h2⟩
 ·rename_i t x i ok ho
  obtain ⟨v, h1, h2⟩ := aAi hsub hm h (hv x) (hv i)
  exact ⟨v, by simp [execOp, ho, h1], h2⟩
 ·rename_i t x lo hi mx ho
  split at h
  ·rename_i k off len hox
   have hxx := hv x
   cases hi with
   | some _ => cases hax : arg x <;> rw [hax] at hox <;> cases hox
   | none => cases mx with
    | some _ => cases hax : arg x <;> rw [hax] at hox <;> cases hox
    | none =>
     cases hax : arg x <;> rw [hax] at hox <;> first | cases hox; done | skip
     injection hox with hox
     injection hox with e1 hox
     injection hox with e2 e3
     subst e1; subst e2; subst e3
     rw [hax] at hxx
     obtain ⟨v, h1, h2⟩ := awS hsub hm h hxx (OVR.ofMap hv lo)
     exact ⟨v, by simp [execOp, ho, h1], h2⟩
  ·have hx := (hv x).soft
   split at h
   ·rename_i k off len ha
    rw [ha] at hx
    obtain ⟨v, h1, h2⟩ := atZ hsub hm h hx (OVR.ofMap hv hi) (OVR.ofMap hv lo) (OVR.ofMap hv mx)
    exact ⟨v, by simp [execOp, ho, h1], h2⟩
   ·rename_i k off ha
    rw [ha] at hx
    obtain ⟨v, h1, h2⟩ := at0 h hx (OVR.ofMap hv hi) (OVR.ofMap hv lo) (OVR.ofMap hv mx)
    exact ⟨v, by simp [execOp, ho, h1], h2⟩
   ·cases mx with
    | some mx' =>
     simp only [xz] at h
     obtain ⟨v, h1, h2⟩ := awU h hx (OVR.ofMap hv hi) (OVR.ofMap hv lo) (hv mx')
     exact ⟨v, by simp [execOp, ho, h1], h2⟩
    | none =>
     simp only [Option.map_none] at h
     obtain ⟨v, h1, h2⟩ := awW (vmx := none) h hx (OVR.ofMap hv hi) (OVR.ofMap hv lo) trivial
     exact ⟨v, by simp [execOp, ho, h1], h2⟩
 ·rename_i t i ho
  have ht := hv t
  generalize hvt : val t = v at ht
  split at h
  ·rename_i l ha
   rw [ha] at ht
   have h := T.Leaf.ofO h
   cases ht with
   | tup hl =>
    obtain ⟨u, hu1, hu2⟩ := hl.get h
    exact ⟨u, by simp [execOp, ho, hvt, Instr.extract, hu1], hu2⟩
  ·cases h
 ·rename_i t ps ho
  obtain ⟨v, h1, h2⟩ := ayD (vps := ps.map fun x => (x.1, val x.2)) h (by simpa using Parts.ofMap hv ps.toList)
  exact ⟨v, by simp [execOp, ho, h1], h2⟩
 ·rename_i k x ho
  obtain ⟨v, h1, h2⟩ := axE h (hv x)
  exact ⟨v, by simp [execOp, ho, h1], h2⟩
 ·rename_i x xt u ok ho
  obtain ⟨v, h1, h2⟩ := atX (xt := xt) h (hv x)
  exact ⟨v, by simp [execOp, ho, h1], h2⟩
 ·rename_i t x ho
  obtain ⟨v, h1, h2⟩ := aBe h (hv x).soft
  exact ⟨v, by simp [execOp, ho, h1], h2⟩
 ·rename_i args ts ho
  split at h
  ·rename_i x hx
   split at h
   ·rename_i t ht
    obtain ⟨v, h1, h2⟩ := aCv hm (ty := o.type) ht h (hv x).soft
    have e : args.map val = #[val x] := by apply Array.ext'; simp [hx]
    exact ⟨v, by simp [execOp, ho, resolve, invoke, builtin, e, h1], h2⟩
   ·cases h
  ·cases h
 ·rename_i args ts ho
  split at h
  ·rename_i x hx
   split at h
   ·rename_i t ht
    obtain ⟨v, h1, h2⟩ := aC3 hm (ty := o.type) ht h (hv x)
    have e : args.map val = #[val x] := by apply Array.ext'; simp [hx]
    exact ⟨v, by simp [execOp, ho, resolve, invoke, builtin, e, h1], h2⟩
   ·cases h
  ·cases h
 ·rename_i args ts ho
  split at h
  ·rename_i x hx
   obtain ⟨v, h1, h2⟩ := aqV (P := P) (ts := ts) (ty := o.type) h (hv x).soft
   have e : args.map val = #[val x] := by apply Array.ext'; simp [hx]
   exact ⟨v, by simp [execOp, ho, resolve, invoke, builtin, e, h1], h2⟩
  ·cases h
 ·rename_i args ts ho
  obtain ⟨v, h1, h2⟩ := avC (P := P) (vs := args.map val) (ts := ts) (ty := o.type) h (by simpa using VRs.ofMap hv args.toList)
  exact ⟨v, by simp only [if_true] at h1; simp [execOp, ho, resolve, invoke, builtin, h1], h2⟩
 ·rename_i args ts ho
  obtain ⟨v, h1, h2⟩ := avC (P := P) (vs := args.map val) (ts := ts) (ty := o.type) h (by simpa using VRs.ofMap hv args.toList)
  exact ⟨v, by simp only [yy, if_false] at h1; simp [execOp, ho, resolve, invoke, builtin, h1], h2⟩
 ·cases h
end
open Go Go.RowKit
structure Con where
 args : Ty
 res : Ty
 pre : args.T → Prop
 fn : args.T → res.T
 dec : ∀ x, Decidable (pre x) := by exact fun _ => Classical.propDecidable _
 /-- Is the second of two results an error, told by whether it is not nil? -/
 err : Bool := false
def RdVs (ok : Nat → Prop) (w : World) : (t : Ty) → t.T → List Value → Prop
 | .unit, _, vs => vs = []
 | .pair t u, x, vs => ∃ v us, vs = v :: us ∧ RdV ok w t x.1 v ∧ RdVs ok w u x.2 us
 | _, _, _ => False
def RdR (e : Bool) (ok : Nat → Prop) (w : World) (t : Ty) (y : t.T) (vs : List Value) : Prop :=
 match e with
 | false => RdVs ok w t y vs
 | true => match t, y with
  | .pair u (.pair .bool .unit), y => ∃ v v2, vs = [v, v2] ∧ RdV ok w u y.1 v ∧ (match (y.2.1 : Bool) with | true => ∃ t p, v2 = .iface t p | false => v2 = .nilIface)
  | _, _ => False
def aJX (vs : List Value) : Value :=
 match vs with
 | [v] => v
 | vs => .tuple ⟨vs⟩
def aEW (ok : Nat → Prop) (w w' : World) (b : Nat) : Prop := ok b ∨ w.heap.size ≤ b ∧ b < w'.heap.size
def acM (P : Program) (f : FuncId) : Bool :=
 match P.funcs[f]? with
 | some fn => match fn.body with
  | some _ => !(fn.name == "runtime.NumGoroutine")
  | none => false
 | none => false
def Con.ok (P : Program) (G : World → Prop) (f : FuncId) (c : Con) : Prop :=
 acM P f = true ∧ ∀ (w : World) (ok : Nat → Prop) (vs : List Value) (x : c.args.T), G w → (∀ b, ok b → b < w.heap.size) → RdVs ok w c.args x vs → c.pre x →
  Calls P f ⟨vs⟩ w fun e w' => ∃ rs, e = .returned (aJX rs) ∧ RdR c.err (aEW ok w w') w' c.res (c.fn x) rs ∧ Below w.heap.size w w'
theorem Con.ok_plain {P : Program} {G : World → Prop} {f : FuncId} {c : Con} (hc : c.err = false) (h : acM P f = true ∧ ∀ (w : World) (ok : Nat → Prop) (vs : List Value) (x : c.args.T), G w → (∀ b, ok b → b < w.heap.size) → RdVs ok w c.args x vs → c.pre x →
  Calls P f ⟨vs⟩ w fun e w' => ∃ rs, e = .returned (aJX rs) ∧ RdVs (aEW ok w w') w' c.res (c.fn x) rs ∧ Below w.heap.size w w') : c.ok P G f := by
 unfold Con.ok
 rw [hc]
 exact h
abbrev Cons := List (Nat × Con)
def Cons.ok (P : Program) (G : World → Prop) : Cons → Prop
 | [] => True
 | (f, c) :: r => Con.ok P G f c ∧ Cons.ok P G r
def Cons.find : Cons → Nat → Option Con
 | [], _ => none
 | (g, c) :: r, f => match Nat.beq g f with | true => some c | false => Cons.find r f
theorem Cons.find_ok {P : Program} {G : World → Prop} {Γ : Cons} {f : Nat} {c : Con} (h : Γ.ok P G) (hf : Γ.find f = some c) : c.ok P G f := by
 induction Γ with
 | nil => cases hf
 | cons x r ih =>
  obtain ⟨g, d⟩ := x
  simp only [Cons.find] at hf
  cases hb : Nat.beq g f with
  | true => rw [hb] at hf; have := aaD hb; subst this; injection hf with hf; subst hf; exact h.1
  | false => rw [hb] at hf; exact ih h.2 hf
def noSl : Ty → Bool
 | .sl _ => false
 | .pair t u => noSl t && noSl u
 | .arr _ t => noSl t
 | _ => true
def ahB (H : Heap) : (t : Ty) → List AV → Option t.T
 | .unit, [] => some ()
 | .pair t u, a :: as => match aJU H t a.soft with
  | some x => match ahB H u as with
   | some y => some (x, y)
   | none => none
  | none => none
 | _, _ => none
def aRA : AV → Bool
 | .own _ _ _ => true
 | .ox _ _ _ => true
 | .sv _ _ _ _ => true
 | _ => false
def apN : List AV → Bool
 | [] => false
 | a :: as => aRA a || apN as
def aDv : (t : Ty) → t.T → List AV
 | .pair t u, x => .d t x.1 :: aDv u x.2
 | _, _ => []
def at3 (l : List AV) : AV :=
 match l with
 | [a] => a
 | l => .tup l
def aJi (e : Bool) (t : Ty) (y : t.T) : T (AV × List (Nat × Bk)) :=
 match e with
 | false => .ok (at3 (aDv t y), [])
 | true => match t, y with
  | .pair u (.pair .bool .unit), y => .ite y.2.1 (.ok (.tup [.d u y.1, .nni], [])) (.ok (.tup [.d u y.1, .nili], []))
  | _, _ => .bad
def aaX {α : Type} (l : List α) : Nat → List α
 | 0 => []
 | n + 1 => l ++ aaX l n
def ao3 (P : Program) (H : Heap) (t : TypeId) (a : AV) : T AV :=
 match a with
 | .ptr k off => match H.find k with
  | some (.vars _ cells) => T.ofO (auV P t cells off)
  | _ => .bad
 | .eptr k i => match H.find k with
  | some (.row _ u l) => match aFo P t u with
   | true => .ok (.d u (l.getD i u.dflt))
   | false => match P.underlying t with
    | some (.array n _) => match aFo P t (.arr n u) with
     | true => .need (i + n ≤ l.length) (.ok (.d (.arr n u) ((l.drop i).take n)))
     | false => .bad
    | _ => .bad
  | _ => .bad
 | .efp k i f => match H.find k with
  | some (.row _ u l) => match aP2 u (l.getD i u.dflt) f with
   | some (_, ⟨v, y⟩) => match aFo P t v with
    | true => .ok (.d v y)
    | false => .bad
   | none => .bad
  | _ => .bad
 | .dptr u x => match aFo P t u with
  | true => .ok (.d u x)
  | false => .bad
 | _ => .bad
def aId (K : Nat) (e : TypeId) (i : TypeInfo) (n c : Int) : T (AV × List (Nat × Bk)) :=
 match i.zero with
 | some z => match Nat.beq i.size 1 && Nat.ble 1 i.bytes && z.oneCell' with
  | true => .need (0 ≤ n ∧ n = c ∧ c * (i.bytes : Int) ≤ 140737488355328) (.ok (.sv K 0 n.toNat n.toNat, [(K, .vars e (List.replicate n.toNat .no))]))
  | false => .bad
 | none => .bad
def aIe (P : Program) (K : Nat) (t : TypeId) (n c : Int) : T (AV × List (Nat × Bk)) :=
 match P.underlying t with
 | some (.slice e) => match aGd P 20 e, ab2 P e, P.info? e with
  | none, _, some i => aId K e i n c
  | some u, some zs, some i => match pack u zs with
   | some (x, []) => match Nat.beq i.size u.size && Nat.beq zs.length u.size && Nat.ble 1 i.bytes with
    | true => .need (0 ≤ n ∧ n ≤ c ∧ c * (i.bytes : Int) ≤ 140737488355328) (.ok (.own K 0 n.toNat, [(K, .row e u (List.replicate n.toNat x))]))
    | false => .bad
   | _ => .bad
  | _, _, _ => .bad
 | _ => .bad
def al8 (P : Program) (s d : TypeId) (l : List UInt8) : T (AV × List (Nat × Bk)) :=
 match P.underlying s, P.underlying d with
 | some .string, some (.slice e) => match P.underlying e with
  | some (.int .u8) => .ok (.d (.sl (.int .u8)) (ai2 l), [])
  | _ => .bad
 | _, _ => .bad
def Cons.twice : List (Nat × Con) → Bool
 | x :: y :: _ => Nat.beq x.1 y.1
 | _ => false
def ajZ (bytes : Nat) (u : Ty) (xs : List u.T) : T (AV × List (Nat × Bk)) :=
 .need (xs.length * bytes ≤ 140737488355328) (.ok (.d (.sl u) xs, []))
def ayK (P : Program) (ts : List TypeId) (l : List AV) : T (AV × List (Nat × Bk)) :=
 match ts, l with
 | [t, t2], [.nsl, x] => match Nat.beq t t2 with
  | true => match P.underlying t with
   | some (.slice e) => match P.info? e with
    | some i => match aGd P 20 e, ab2 P e with
     | some u, some zs => match Nat.beq i.size u.size && Nat.beq zs.length u.size && Nat.ble 1 i.bytes && Nat.ble 1 u.size with
      | true => match toD (.sl u) x with
       | some (xs : List u.T) => ajZ i.bytes u xs
       | none => .bad
      | false => .bad
     | _, _ => .bad
    | none => .bad
   | _ => .bad
  | false => .bad
 | _, _ => .bad
def evM (P : Program) (Γ : Cons) (K : Nat) (H : Heap) (arg : Operand → AV) (o : Oper) : T (AV × List (Nat × Bk)) :=
 match o.op with
 | .load t a => (ao3 P H t (arg a)).bind fun r => .ok (r, [])
 | .alloc e => match ab2 P e with
  | some zs => .ok (.ptr K 0, [(K, .vars e zs)])
  | none => .bad
 | .box e x => match cellsOf (arg x) with
  | some cells => .ok (.ptr K 0, [(K, .vars e cells)])
  | none => .bad
 | .buildSlice t n ps => match P.underlying t with
  | some (.slice e) => match aGd P 20 e, ab2 P e, aa6 P e with
   | some u, some zs, some m => match Nat.beq m u.size && Nat.beq zs.length m && Nat.ble (n * m) 16777216 && Nat.ble n 16777216 with
    | true => match asI (fun i => some (i * m, m)) (aaX zs n) (ps.toList.map fun x => (x.1, arg x.2)) with
     | some cells => match pack (.arr n u) cells with
      | some (l, []) => match Cons.twice Γ with
       | true => .ok (.d (.sl u) l, [])
       | false => .ok (.ox K 0 n, [(K, .row e u l)])
      | _ => .bad
     | none => .bad
    | false => .bad
   | _, _, _ => .bad
  | _ => .bad
 | .convert s d x => match aCB P d, arg x with
  | true, .d .str l => al8 P s d l
  | _, _ => (evP P H arg o).bind fun r => .ok (r, [])
 | .makeMap t none => match P.underlying t with
  | some (.map kt _) => match ayV P kt with
   | some k => .ok (.mp K, [(K, .dic k [])])
   | none => .bad
  | _ => .bad
 | .makeSlice t n c => match arg n with
  | .d (.int _) n => match arg c with
   | .d (.int _) c => aIe P K t n c
   | _ => .bad
  | _ => .bad
 | .call { callee := .value f, args, .. } => match arg f with
  | .fn g first caps => match Γ.find g with
   | some c => match noSl c.res || !(apN (first ++ args.toList.map arg ++ caps)) with
    | true => match ahB H c.args (first ++ args.toList.map arg ++ caps) with
     | some x => @T.need _ (c.pre x) (c.dec x) (aJi c.err c.res (c.fn x))
     | none => .bad
    | false => .bad
   | none => .bad
  | _ => .bad
 | .call { callee := .builtin .append, args, argTypes } => ayK P argTypes.toList (args.toList.map arg)
 | _ => (evP P H arg o).bind fun r => .ok (r, [])
section
variable {C : Ctx} {ρ : Nat → Nat} {H : Heap} {w : World} {P : Program}
theorem MRel.grow {next : Nat} {w' : World} (hm : MRel C ρ H next w) (hb : Below w.heap.size w w') : MRel C ρ H next w' ∧ Ext C ρ H w ρ H w' := by
 have hn0 : C.w0.heap.size ≤ w.heap.size := hm.below.size
 have hext : Ext C ρ H w ρ H w' := by
  refine ⟨fun b ⟨h1, h2, h3⟩ => ⟨⟨h1, zZ h2 hb.size, h3⟩, hb.block b h2⟩, fun k hk => ⟨hk, rfl⟩, fun k e t l hmem => ⟨l, hmem, zj _, fun c fr hc => ⟨c, fr, ?_, rfl⟩⟩, hb.size⟩
  rw [hb.block _ (ac1 hc)]; exact hc
 exact ⟨⟨hm.below.trans (hb.mono hn0), hm.nodup, hm.lt, hm.inj, hm.low, fun k b hkb => (hm.mem k b hkb).ext hext (hb.block _ (hm.key_lt (aaE hkb)))⟩, hext⟩
theorem ao2 {t : TypeId} {b o : Nat} {c : Array Value} {e : TypeId} {fr : Nat × Nat} (hb : w.heap[b]? = some (.cells c e fr)) {ag : Bool} {n : Nat} (ha : aFV P t = some ag) (hs : aa6 P t = some n)
  (ho : o + n ≤ c.size) (h1 : ag = false → n = 1) : (loadVar t ⟨b, o, none⟩).run P w = (part t ⟨c.toList⟩ o).run P w := by
 cases ag with
 | true =>
  simp only [loadVar, part, Sem.run_bind, aeZ ha, aaO hs, Result.andThen_ok, if_true]
  have hl := run_loadCells_list (P := P) w ⟨b, o, none⟩ ((c.toList.drop o).take n) (by
   intro j v hj
   rw [af5]
   simp only [World.cell?, hb]
   have hlt : j < ((c.toList.drop o).take n).length := (zw.1 hj).1
   simp only [zY, yf, Array.length_toList] at hlt
   rw [zR, if_pos zb, yJ, zU] at hj
   simpa using hj)
  have hlen : ((c.toList.drop o).take n).length = n := zg
  rw [hlen] at hl
  simp only [hl, Result.andThen_ok, Sem.run_pure]
  congr 2
  apply Array.ext'
  rw [wg, wx, yS]
 | false =>
  have h1 := h1 rfl
  subst h1
  have hlt : o < c.size := zb
  simp [loadVar, part, aeZ ha, World.cell?, hb, hlt]
theorem ajN {H0 : Heap} (hsub : ∀ x ∈ H0, x ∈ H) {next : Nat} (hm : MRel C ρ H next w) {t : TypeId} {a r : AV} {v : Value} (h : (ao3 P H0 t a).Leaf r) (ha : VR C ρ H w a v) :
  ∃ v', (Instr.loadAt t v).run P w = .ok v' w ∧ VR C ρ H w r v' := by
 have data : ∀ (b o : Nat) (c : Array Value) (e : TypeId) (fr : Nat × Nat) (u : Ty) (y : u.T), w.heap[b]? = some (.cells c e fr) → aFo P t u = true → o + u.size ≤ c.size → Rd (Ok C ρ H w) w u y ((c.toList.drop o).take u.size) →
   ∃ v', (Instr.loadAt t (.pointer (some ⟨b, o, none⟩))).run P w = .ok v' w ∧ VR C ρ H w (.d u y) v' := by
  intro b o c e fr u y hb hty ho hr
  obtain ⟨h1, h2⟩ := akC hty
  obtain ⟨v', h5, h6⟩ := arM (P := P) hty (by simpa using ho) hr
  refine ⟨v', ?_, .d h6⟩
  simp only [Instr.loadAt, Instr.sureAddr, Sem.run_bind, Sem.run_pure, Result.andThen_ok]
  rw [ao2 hb h1 h2 ho (fun h => by cases u <;> first | rfl | cases h)]
  exact h5
 unfold ao3 at h
 split at h
 ·rename_i k off
  split at h
  ·rename_i e cells hf
   have h := T.Leaf.ofO h
   have hk := hsub _ (Heap.find_mem hf)
   obtain ⟨c, hc1, hc2, hc3⟩ := hm.mem k _ hk
   obtain ⟨v', h5, h6⟩ := ajC h hc2 hc3
   cases ha
   refine ⟨v', ?_, h6⟩
   simp only [Instr.loadAt, Instr.sureAddr, Sem.run_bind, Sem.run_pure, Result.andThen_ok]
   have hlen := hc2.length
   unfold auV at h
   split at h
   ·rename_i n hag hsz
    split at h
    ·rename_i hle
     rw [ao2 hc1 hag hsz (by have := Nat.le_of_ble_eq_true hle; simp at hlen; omega) (fun h => by cases h)]
     exact h5
    ·cases h
   ·rename_i n hag hsz
    have hlt : off < cells.length := (zw.1 h).1
    have hlt' : off < c.size := by simp at hlen; omega
    have hp : (part t ⟨c.toList⟩ off).run P w = .ok c[off] w := by simp [part, aeZ hag, hlt']
    rw [hp] at h5
    simp only [loadVar, Sem.run_bind, aeZ hag, Result.andThen_ok, yy, if_false, run_load, World.cell?, hc1]
    simp [hlt'] at h5 ⊢
    exact h5
   ·cases h
  ·cases h
 ·rename_i k i
  split at h
  ·rename_i e u l hf
   split at h
   ·rename_i hty
    cases h
    have hk := hsub _ (Heap.find_mem hf)
    obtain ⟨c, hc1, hc2, hc3, hc4, hc5⟩ := hm.mem k _ hk
    cases ha with
    | eptr hk' hi =>
     have hu' := Heap.mem_unique hm.nodup hk hk'
     injection hu' with hu1 hu2 hu3
     subst hu1; subst hu2
     have hu3 := eq_of_heq hu3
     subst hu3
     have hle : (i + 1) * u.size ≤ l.length * u.size := zC _ hi
     rw [zV] at hle
     have := RdL.getD (fun x cs => Rd.length u x cs) u.dflt l _ i hc4 hi
     rw [ab8 _ _ _ _ hle] at this
     exact data _ _ _ _ _ _ _ hc1 hty zb this
   ·split at h
    ·rename_i n e' hu
     split at h
     ·rename_i hty
      cases h with
      | need hp h =>
       cases h
       have hk := hsub _ (Heap.find_mem hf)
       obtain ⟨c, hc1, hc2, hc3, hc4, hc5⟩ := hm.mem k _ hk
       cases ha with
       | eptr hk' hi =>
        have hu' := Heap.mem_unique hm.nodup hk hk'
        injection hu' with hu1 hu2 hu3
        subst hu1; subst hu2
        have hu3 := eq_of_heq hu3
        subst hu3
        have hle : (i + n) * u.size ≤ l.length * u.size := zC _ hp
        rw [zX] at hle
        have h1 := RdL.take_drop (fun x cs => Rd.length u x cs) l _ i n hc4
        rw [ab8 _ _ _ _ hle] at h1
        exact data _ _ _ _ _ _ _ hc1 hty (by show _ + n * u.size ≤ _; omega) ⟨by rw [zY, yf]; omega, h1⟩
     ·cases h
    ·cases h
  ·cases h
 ·rename_i k i f
  split at h
  ·rename_i e u l hf
   split at h
   ·rename_i o v y hn
    split at h
    ·rename_i hty
     cases h
     have hk := hsub _ (Heap.find_mem hf)
     obtain ⟨c, hc1, hc2, hc3, hc4, hc5⟩ := hm.mem k _ hk
     cases ha with
     | efp hk' hi ho =>
      have hu' := Heap.mem_unique hm.nodup hk hk'
      injection hu' with hu1 hu2 hu3
      subst hu1; subst hu2
      have hu3 := eq_of_heq hu3
      subst hu3
      obtain ⟨rfl, rfl⟩ : _ ∧ _ := by
       have := (aLd hn).symm.trans ho
       injection this with this
       injection this with t1 t2
       exact ⟨t1, t2⟩
      have hle : (i + 1) * u.size ≤ l.length * u.size := zC _ hi
      rw [zV] at hle
      have := RdL.getD (fun x cs => Rd.length u x cs) u.dflt l _ i hc4 hi
      rw [ab8 _ _ _ _ hle] at this
      obtain ⟨h1, h2⟩ := aFd _ _ _ _ _ _ _ hn this
      rw [xJ, yP, zT, yl zb] at h1
      exact data _ _ _ _ _ _ _ hc1 hty zb h1
    ·cases h
   ·cases h
  ·cases h
 ·rename_i u x
  split at h
  ·rename_i hty
   cases h
   cases ha with
   | dptr hb hc ho hr => exact data _ _ _ _ _ _ _ hc hty ho hr
  ·cases h
 ·cases h
end
open Go Go.RowKit
theorem adM {α : Type} (l : List α) (n : Nat) : (aaX l n).length = n * l.length := by
 induction n with
 | zero => simp [aaX]
 | succ n ih => simp [aaX, ih, zV, xj]
theorem asH {α : Type} (l : List α) : ∀ (n i : Nat), i < n * l.length → (aaX l n)[i]? = l[i % l.length]?
 | 0, i, h => by simp at h
 | n + 1, i, h => by
  simp only [aaX]
  by_cases hi : i < l.length
  ·rw [List.getElem?_append_left hi, yo hi]
  ·rw [List.getElem?_append_right zb, asH l n (i - l.length) (by rw [zV] at h; omega)]
   rw [show i % l.length = (i - l.length) % l.length from Nat.mod_eq_sub_mod zb]
theorem apB {α : Type} (l : List α) : ∀ (n c : Nat), n ≤ c → (aaX l c).take (n * l.length) = aaX l n
 | 0, c, _ => by simp [aaX]
 | n + 1, 0, h => by omega
 | n + 1, c + 1, h => by
  simp only [aaX]
  rw [we, zr (by rw [zV]; omega), ← apB l n c zb]
  congr 2
  rw [zV]; omega
theorem adJ (z : Array Value) (n : Nat) : (madeCells z (n * z.size)).toList = aaX z.toList n := by
 apply List.ext_getElem?
 intro i
 by_cases hi : i < n * z.size
 ·rw [asH z.toList n i (by simpa using hi)]
  have hpos : 0 < z.size := by
   rcases zL z.size with h | h
   ·rw [h] at hi; simp at hi
   ·exact h
  have hm : i % z.size < z.size := xl _ hpos
  simp [madeCells, hi, hm]
 ·rw [xX (by simp [madeCells]; omega), xX (by rw [adM]; simp; omega)]
theorem RdL.replicate {α : Type} {R : α → List Value → Prop} {x : α} {cs : List Value} (h : R x cs) : ∀ n, RdL R (List.replicate n x) (aaX cs n)
 | 0 => rfl
 | n + 1 => by
  rw [wu]
  exact ⟨cs, aaX cs n, rfl, h, RdL.replicate h n⟩
section
variable {C : Ctx} {ρ : Nat → Nat} {H : Heap} {w : World} {P : Program} {G : World → Prop}
theorem VRs.rep {as : List AV} {vs : List Value} (h : VRs C ρ H w as vs) : ∀ n, VRs C ρ H w (aaX as n) (aaX vs n)
 | 0 => .nil
 | n + 1 => h.append (VRs.rep h n)
theorem af0 {α : Type} {l : List α} {x : α} : ∀ {n : Nat}, x ∈ aaX l n → x ∈ l
 | 0, h => by simp [aaX] at h
 | n + 1, h => by
  rcases zE.1 h with h | h
  ·exact h
  ·exact af0 h
theorem Rd.noSl {ok ok' : Nat → Prop} {w w' : World} : ∀ (t : Ty) (x : t.T) (cs : List Value), noSl t = true → Rd ok w t x cs → Rd ok' w' t x cs
 | .int _, _, _, _, h => h
 | .bool, _, _, _, h => h
 | .str, _, _, _, h => h
 | .unit, _, _, _, h => h
 | .pair t u, _, _, hn, ⟨c1, c2, e, h1, h2⟩ => by
  simp only [Vg.noSl, zl] at hn
  exact ⟨c1, c2, e, Rd.noSl t _ _ hn.1 h1, Rd.noSl u _ _ hn.2 h2⟩
 | .arr _ t, _, _, hn, ⟨hl, hr⟩ => ⟨hl, RdL.mono (fun x cs => Rd.noSl t x cs hn) _ _ hr⟩
 | .sl _, _, _, hn, _ => by cases hn
theorem aoS {H0 : Heap} (hsub : ∀ x ∈ H0, x ∈ H) {next : Nat} (hm : MRel C ρ H next w) : ∀ (t : Ty) (as : List AV) (vs : List Value) (x : t.T), ahB H0 t as = some x → VRs C ρ H w as vs →
  RdVs (OkL C ρ H w) w t x vs ∧ (apN as = false → RdVs (Ok C ρ H w) w t x vs)
 | .unit, [], vs, x, h, hv => by cases hv; exact ⟨rfl, fun _ => rfl⟩
 | .pair t u, a :: as, vs, x, h, hv => by
  cases hv with
  | cons h1 h2 =>
   simp only [ahB] at h
   split at h
   ·rename_i y hy
    split at h
    ·rename_i z hz
     injection h with h; subst h
     obtain ⟨k1, k2⟩ := aoS hsub hm u as _ z hz h2
     refine ⟨⟨_, _, rfl, anI hsub hm hy h1.soft, k1⟩, fun ho => ?_⟩
     simp only [apN, wM] at ho
     refine ⟨_, _, rfl, ad5 ?_ h1, k2 ho.2⟩
     cases a <;> first | exact hy | cases ho.1
    ·cases h
   ·cases h
 | .int _, _, _, _, h, _ => by simp [ahB] at h
 | .bool, _, _, _, h, _ => by simp [ahB] at h
 | .str, _, _, _, h, _ => by simp [ahB] at h
 | .arr _ _, _, _, _, h, _ => by simp [ahB] at h
 | .sl _, _, _, _, h, _ => by simp [ahB] at h
 | .unit, _ :: _, _, _, h, _ => by simp [ahB] at h
 | .pair _ _, [], _, _, h, _ => by simp [ahB] at h
theorem RdVs.vrs {ok : Nat → Prop} : ∀ (t : Ty) (x : t.T) (vs : List Value), (∀ (u : Ty) (y : u.T) (v : Value), (noSl t = true → noSl u = true) → RdV ok w u y v → RdV (Ok C ρ H w) w u y v) → RdVs ok w t x vs → VRs C ρ H w (aDv t x) vs
 | .unit, _, vs, _, h => by obtain rfl : vs = [] := h; exact .nil
 | .pair t u, x, vs, hk, h => by
  obtain ⟨v, us, e, h1, h2⟩ := h
  subst e
  refine .cons (.d (hk t _ _ (fun h => ?_) h1)) (RdVs.vrs u _ _ (fun u' y' v' hu' => hk u' y' v' (fun h => hu' ?_)) h2)
  ·simp only [noSl, zl] at h; exact h.1
  ·simp only [noSl, zl] at h; exact h.2
 | .int _, _, _, _, h => h.elim
 | .bool, _, _, _, h => h.elim
 | .str, _, _, _, h => h.elim
 | .arr _ _, _, _, _, h => h.elim
 | .sl _, _, _, _, h => h.elim
theorem aq0 {l : List AV} {vs : List Value} (h : VRs C ρ H w l vs) : VR C ρ H w (at3 l) (aJX vs) := by
 cases h with
 | nil => exact .tup .nil
 | cons h1 h2 =>
  cases h2 with
  | nil => exact h1
  | cons h3 h4 => exact .tup (.cons h1 (.cons h3 h4))
theorem apH {ok : Nat → Prop} {e : Bool} {t : Ty} {y : t.T} {vs : List Value} {r : AV × List (Nat × Bk)} (h : (aJi e t y).Leaf r)
  (hk : ∀ (u : Ty) (y : u.T) (v : Value), (noSl t = true → noSl u = true) → RdV ok w u y v → RdV (Ok C ρ H w) w u y v) (hr : RdR e ok w t y vs) : r.2 = [] ∧ VR C ρ H w r.1 (aJX vs) := by
 cases e with
 | false =>
  cases h
  exact ⟨rfl, aq0 (RdVs.vrs _ _ _ hk hr)⟩
 | true =>
  cases t <;> try exact hr.elim
  rename_i u t2
  cases t2 <;> try exact hr.elim
  rename_i t2 t3
  cases t2 <;> try exact hr.elim
  cases t3 <;> try exact hr.elim
  obtain ⟨v, v2, rfl, h1, h2⟩ := hr
  obtain ⟨a, b, c⟩ := y
  have h3 := hk u a v (fun h => by simp only [noSl, zl] at h; exact h.1) h1
  cases b with
  | true =>
   obtain ⟨t, p, rfl⟩ := h2
   cases h with
   | t h => cases h; exact ⟨rfl, .tup (.cons (.d h3) (.cons .nni .nil))⟩
  | false =>
   obtain rfl := h2
   cases h with
   | f h => cases h; exact ⟨rfl, .tup (.cons (.d h3) (.cons .nili .nil))⟩
theorem avZ {e : Bool} {t : Ty} {y : t.T} {r : AV × List (Nat × Bk)} (h : (aJi e t y).Leaf r) : r.2 = [] := by
 cases e with
 | false => cases h; rfl
 | true =>
  cases t <;> try (cases h; done)
  rename_i u t2
  cases t2 <;> try (cases h; done)
  rename_i t2 t3
  cases t2 <;> try (cases h; done)
  cases t3 <;> try (cases h; done)
  obtain ⟨a, b, c⟩ := y
  cases b with
  | true =>
   cases h with
   | t h => cases h; rfl
  | false =>
   cases h with
   | f h => cases h; rfl
theorem akE {f : FuncId} (h : acM P f = true) (args : Array Value) : (callFunc f args).run P w = .ok (.enter f args) w := by
 unfold acM at h
 split at h
 ·rename_i fn hf
  split at h
  ·rename_i c hb
   have hn : (fn.name == "runtime.NumGoroutine") = false := by simpa using h
   simp only [callFunc, Sem.run_bind, run_program, Result.andThen_ok, hf, hn, hb, Option.isNone_some, yy, if_false, Sem.run_pure]
  ·cases h
 ·cases h
theorem aEe {o : Oper} {a : Act} {f : Operand} {args : Array Operand} {ts : Array TypeId} {g : FuncId} {vf vc : List Value} (ho : o.op = .call { callee := .value f, args, argTypes := ts })
  (hf : a.eval f = .func (.func g) ⟨vf⟩ ⟨vc⟩) (he : acM P g = true) : (execOp a.eval o).run P w = .ok (.enter g ⟨vf ++ args.toList.map a.eval ++ vc⟩) w := by
 simp only [execOp, ho, resolve, Deferred.ofValue, hf, Sem.run_bind, Sem.run_pure, Result.andThen_ok, invoke]
 rw [akE he]
 congr 2
 apply Array.ext'
 simp
theorem aNF : ∀ (vs : List Value), VRs C ρ H w (List.replicate vs.length .no) vs
 | [] => .nil
 | _ :: vs => .cons .no (aNF vs)
theorem aLt {next K : Nat} (hm : MRel C ρ H next w) (hK : K ∉ H.keys) (hKn : K < next) {t e : TypeId} {i : TypeInfo} {n c : Int} {kn kc : IntKind} {r : AV} {new : Heap} {R : Value → World → Prop} {Z : Prop}
  (hu : P.underlying t = some (.slice e)) (hi : P.info? e = some i)
  (h : (aId K e i n c).Leaf (r, new)) (val : ∀ v w', (Instr.makeSlice t (.int kn n) (.int kc c)).run P w = .ok v w' → R v w' → Z)
  (hnx : ∀ v ρ' w', MRel C ρ' (new ++ H) next w' → Ext C ρ H w ρ' (new ++ H) w' → VR C ρ' (new ++ H) w' r v → Below w.heap.size w w' → R v w') : Z := by
 unfold aId at h
 split at h
 ·rename_i z hzi
  split at h
  ·rename_i hc
   simp only [zl] at hc
   obtain ⟨⟨hc1, hc3⟩, hone⟩ := hc
   have hc1 := aaD hc1
   have hc3 := Nat.le_of_ble_eq_true hc3
   cases h with
   | need hp' h =>
    cases h
    obtain ⟨p0, p1, p2⟩ := hp'
    subst p1
    have hz1 : z.cells = #[z] := by cases z <;> first | rfl | (exfalso; revert hone; simp [Value.oneCell'])
    have hcb : n ≤ n * (i.bytes : Int) := by
     have h3 : (1 : Int) ≤ (i.bytes : Int) := zb
     have := zy h3 (show 0 ≤ n by omega)
     omega
    have hrun := run_make (P := P) w t e i z hu hi hzi kn kc n n p0 (Int.le_refl _) (by rw [xe]; omega) zb
    have hmade : (madeCells z.cells (n.toNat * i.size)).toList = aaX [z] n.toNat := by
     have := adJ z.cells n.toNat
     rw [hz1] at this ⊢
     rw [hc1]
     simpa using this
    have hlen : (madeCells z.cells (n.toNat * i.size)).toList.length = n.toNat := by rw [hmade, adM]; simp
    obtain ⟨hm', hext⟩ := hm.alloc (c := madeCells z.cells (n.toNat * i.size)) (e := e) (blk := .vars e (List.replicate n.toNat .no)) hK hKn (fun ρ' H' w' he hh => by
     refine ⟨_, hh, ?_, ?_⟩
     ·have := aNF (C := C) (ρ := ρ') (H := H') (w := w') (madeCells z.cells (n.toNat * i.size)).toList
      rw [hlen] at this
      exact this
     ·intro v hv
      rw [hmade] at hv
      have := af0 hv
      simp at this
      subst this
      exact hone)
    refine val _ _ hrun (hnx _ _ _ hm' hext ?_ ((Below.refl _ _).alloc (zj _) _))
    have hkk : K ∈ Heap.keys ([(K, Bk.vars e (List.replicate n.toNat .no))] ++ H) := aaE (b := .vars e (List.replicate n.toNat .no)) zf
    have := VR.sv (o := 0) (C := C) (ρ := upd ρ K w.heap.size) (H := [(K, Bk.vars e (List.replicate n.toNat .no))] ++ H) (w := w.alloc (.cells (madeCells z.cells (n.toNat * i.size)) e)) (n := n.toNat) (cap := n.toNat) hkk (by unfold lim; omega) (zj _)
    rw [aaZ] at this
    exact this
  ·cases h
 ·cases h
theorem aLu {next K : Nat} (hm : MRel C ρ H next w) (hK : K ∉ H.keys) (hKn : K < next) {t : TypeId} {n c : Int} {kn kc : IntKind} {r : AV} {new : Heap} {R : Value → World → Prop} {Z : Prop}
  (h : (aIe P K t n c).Leaf (r, new)) (val : ∀ v w', (Instr.makeSlice t (.int kn n) (.int kc c)).run P w = .ok v w' → R v w' → Z)
  (hnx : ∀ v ρ' w', MRel C ρ' (new ++ H) next w' → Ext C ρ H w ρ' (new ++ H) w' → VR C ρ' (new ++ H) w' r v → Below w.heap.size w w' → R v w') : Z := by
 unfold aIe at h
 split at h
 ·rename_i e hu
  split at h
  ·rename_i i _ hi
   exact aLt hm hK hKn hu hi h val hnx
  ·rename_i u zs i hty hz hi
   split at h
   ·rename_i x hp
    split at h
    ·rename_i hc
     simp only [zl] at hc
     obtain ⟨⟨hc1, hc2⟩, hc3⟩ := hc
     have hc1 := aaD hc1
     have hc2 := aaD hc2
     have hc3 := Nat.le_of_ble_eq_true hc3
     cases h with
     | need hp' h =>
      cases h
      obtain ⟨p0, p1, p2⟩ := hp'
      obtain ⟨z, hz1, hz2, hz3⟩ := acN (C := C) (ρ := ρ) (H := H) (w := w) hz
      have hzi : i.zero = some z := by
       simp only [zeroValue, typeInfo, Sem.run_bind, run_program, Result.andThen_ok, hi, Sem.run_pure] at hz1
       cases hzz : i.zero with
       | none => rw [hzz] at hz1; simp at hz1
       | some z' => rw [hzz] at hz1; simp at hz1; rw [hz1]
      have hzl : z.cells.size = u.size := by have := hz2.length; simp at this; omega
      obtain ⟨c1, c2, e1, hl, h2⟩ := adT _ _ _ _ _ hp hz2
      cases h2
      simp only [yK] at e1
      have hcb : c ≤ c * (i.bytes : Int) := by
       have h3 : (1 : Int) ≤ (i.bytes : Int) := zb
       have := zy h3 (show 0 ≤ c by omega)
       omega
      have hrun := run_make (P := P) w t e i z hu hi hzi kn kc n c p0 p1 (by rw [xe]; omega) zb
      have hmade : (madeCells z.cells (c.toNat * i.size)).toList = aaX z.cells.toList c.toNat := by
       rw [hc1, ← hzl]; exact adJ _ _
      have hmsz : (madeCells z.cells (c.toNat * i.size)).size = c.toNat * u.size := by rw [size_madeCells, hc1]
      have hle : n.toNat * u.size ≤ c.toNat * u.size := zC _ zb
      obtain ⟨hm', hext⟩ := hm.alloc (c := madeCells z.cells (c.toNat * i.size)) (e := e) (blk := .row e u (List.replicate n.toNat x)) hK hKn (fun ρ' H' w' he hh => by
       refine ⟨_, hh, by rw [yF, hmsz]; exact hle, by rw [yF]; unfold lim; omega, ?_, ?_⟩
       ·rw [hmade, yF]
        have : (aaX z.cells.toList c.toNat).take (n.toNat * u.size) = aaX z.cells.toList n.toNat := by
         rw [← hzl]
         have := apB z.cells.toList n.toNat c.toNat zb
         simpa using this
        rw [this, e1]
        exact RdL.replicate (Rd.mono he.data u x _ hl) _
       ·intro v hv
        rw [hmade] at hv
        exact hz3 v (af0 hv))
      refine val _ _ hrun (hnx _ _ _ hm' hext ?_ ((Below.refl _ _).alloc (zj _) _))
      refine .own (e := e) (t := u) (l := List.replicate n.toNat x) (c := madeCells z.cells (c.toNat * i.size)) (fr := (0, 0)) zf zf zb (by unfold maxLen; omega) ?_ (by rw [hmsz, zp]) (Or.inl ?_)
      ·rw [aaZ]; show (w.heap.push _)[w.heap.size]? = _; simp
      ·rw [aaZ]; simp
    ·cases h
   ·cases h
  ·cases h
 ·cases h
theorem aq1 {ok : Nat → Prop} {w' : World} : ∀ l : List UInt8, RdL (Rd ok w' (.int .u8)) (ai2 l) (l.map fun b => Value.int .u8 (b.toNat : Int))
 | [] => rfl
 | b :: l => ⟨[.int .u8 (b.toNat : Int)], _, rfl, ⟨rfl, by show (0 : Int) ≤ ((b.toNat : Nat) : Int); omega, by show ((b.toNat : Nat) : Int) ≤ 255; have := b.toNat_lt; omega⟩, aq1 l⟩
theorem aGA {ok : Nat → Prop} {w' : World} {l : List Int} {b o cap : Nat} {c : Array Value} {e : TypeId} {fr : Nat × Nat} (hok : ok b) (hb : w'.heap[b]? = some (.cells c e fr)) (hcap : l.length ≤ cap) (hlim : l.length ≤ lim)
  (hsz : o + l.length ≤ c.size) (hr : RdL (Rd ok w' (.int .u8)) l ((c.toList.drop o).take l.length)) : RdV ok w' (.sl (.int .u8)) l (.slice (some ⟨b, o, none⟩) l.length cap) := by
 refine ⟨_, ⟨_, cap, rfl, hcap, hlim, Or.inr ⟨b, o, c, e, fr, rfl, hok, hb, ?_, ?_⟩⟩, rfl⟩
 ·show o + l.length * 1 ≤ c.size
  omega
 ·show RdL (Rd ok w' (.int .u8)) l ((c.toList.drop o).take (l.length * 1))
  rw [Nat.mul_one]; exact hr
theorem aBE {next : Nat} (hm : MRel C ρ H next w) {s d : TypeId} {l : List UInt8} {r : AV} {new : Heap} {R : Value → World → Prop} {Z : Prop} (hl : l.length ≤ lim)
  (h : (al8 P s d l).Leaf (r, new)) (val : ∀ v w', (convert s d (.string ⟨⟨l⟩⟩)).run P w = .ok v w' → R v w' → Z)
  (hnx : ∀ v ρ' w', MRel C ρ' (new ++ H) next w' → Ext C ρ H w ρ' (new ++ H) w' → VR C ρ' (new ++ H) w' r v → Below w.heap.size w w' → R v w') : Z := by
 unfold al8 at h
 split at h
 ·rename_i e hs hd
  split at h
  ·rename_i he
   cases h
   have hrun := run_bytes_of_string (P := P) w s d e ⟨⟨l⟩⟩ hs hd he
   have hsz0 : (⟨⟨l⟩⟩ : ByteArray).size = l.length := rfl
   rw [hsz0] at hrun
   have hB : ∃ B, bytesRow ⟨⟨l⟩⟩ (grownCap w l.length 0 e) = B ∧ B.toList.take l.length = (l.map fun b => Value.int .u8 (b.toNat : Int)) ∧ l.length ≤ B.size := ⟨_, rfl, by simp [bytesRow], by simp [bytesRow]⟩
   obtain ⟨B, hB1, hB2, hB3⟩ := hB
   rw [hB1] at hrun
   have hW : ∃ W, w.drew.alloc (.cells B e (B.size, B.size + 1)) = W := ⟨_, rfl⟩
   obtain ⟨W, hW⟩ := hW
   have hb : Below w.heap.size w W := by rw [← hW]; exact ((Below.refl _ _).drew).alloc (zj _) _
   have hheap : W.heap[w.heap.size]? = some (.cells B e (B.size, B.size + 1)) := by rw [← hW]; show (w.heap.push _)[w.heap.size]? = _; simp
   have hWs : w.heap.size < W.heap.size := by rw [← hW]; simp
   rw [hW] at hrun
   refine val _ _ hrun ?_
   obtain ⟨hm', hext⟩ := hm.grow hb
   refine hnx _ ρ _ hm' hext ?_ hb
   have hlen : (ai2 l).length = l.length := by simp [ai2]
   have hge := grownCap_ge w l.length 0 e
   have := aGA (ok := Ok C ρ H W) (w' := W) (l := ai2 l) (b := w.heap.size) (o := 0) (cap := grownCap w l.length 0 e) (c := B) ⟨Or.inr hm.below.size, hWs, fun k hk => by have := hm.key_lt hk; omega⟩ hheap (by rw [hlen]; exact hge) (by rw [hlen]; exact hl) (by rw [hlen]; omega)
    (by rw [hlen, yz, hB2]; exact aq1 l)
   rw [hlen] at this
   exact .d this
  ·cases h
 ·cases h
theorem atI {t ty e : TypeId} {i : TypeInfo} (hu : P.underlying t = some (.slice e)) (hi : P.info? e = some i) (b a : Option Addr) (sLen sCap cap : Nat) (h : sLen ≤ sCap) :
  (Builtin.append_ #[t, t] ty #[.slice b sLen sCap, .slice a 0 cap]).run P w = .ok (.slice b sLen sCap) w := by
 cases a <;> cases b <;> simp [Builtin.append_, run_underlying hu, sizeOf, typeInfo, hi, Builtin.lenOf, Builtin.firstCells, loadCells, loadCellsFrom, h, storeCells]
theorem aqK {e : TypeId} {i : TypeInfo} {zs : List AV} (hi : P.info? e = some i) (hz : ab2 P e = some zs) : ∃ z, i.zero = some z ∧ z.cells.size = zs.length ∧ ∀ v ∈ z.cells.toList, v.oneCell' = true := by
 unfold ab2 at hz
 rw [hi] at hz
 simp only at hz
 split at hz
 ·rename_i z hz'
  split at hz
  ·rename_i ho
   injection hz with hz
   refine ⟨z, hz', ?_, aj0 ho⟩
   rw [← hz]
   have : ∀ l : List Value, (akG l).length = l.length := by
    intro l; induction l with
    | nil => rfl
    | cons v l ih => simp [akG, ih]
   rw [this]; simp
  ·cases hz
 ·cases hz
theorem ac5 {z : Value} {n : Nat} (h : ∀ v ∈ z.cells.toList, v.oneCell' = true) : ∀ v ∈ (Builtin.zeroCells z.cells n).toList, v.oneCell' = true := by
 intro v hv
 have e : Builtin.zeroCells z.cells n = madeCells z.cells (n * z.cells.size) := rfl
 rw [e, adJ] at hv
 exact h v (af0 hv)
theorem aBf {next : Nat} (hm : MRel C ρ H next w) {t ty e : TypeId} {i : TypeInfo} {zs : List AV} {u : Ty} {xs : List u.T} {x : AV} {vx : Value} {r : AV} {new : Heap} {R : Value → World → Prop} {Z : Prop}
  (hu : P.underlying t = some (.slice e)) (hi : P.info? e = some i) (hz : ab2 P e = some zs) (hc1 : i.size = u.size) (hc3 : 1 ≤ i.bytes) (hx : toD (.sl u) x = some xs) (hvx : VR C ρ H w x vx)
  (h : (ajZ i.bytes u xs).Leaf (r, new)) (val : ∀ v w', (Builtin.append_ #[t, t] ty #[.slice none 0 0, vx]).run P w = .ok v w' → R v w' → Z)
  (hnx : ∀ v ρ' w', MRel C ρ' (new ++ H) next w' → Ext C ρ H w ρ' (new ++ H) w' → VR C ρ' (new ++ H) w' r v → Below w.heap.size w w' → R v w') : Z := by
 unfold ajZ at h
 cases h with
 | need hp h =>
  cases h
  obtain ⟨z, hz1, hz2, hz3⟩ := aqK hi hz
  obtain ⟨a', cap', ev, h1, h2, h3⟩ := (ad5 hx hvx).scalar rfl
  injection ev with ev _
  subst ev
  have fin0 : xs = [] → Z := by
   intro h0
   have hrun := atI (P := P) (w := w) (ty := ty) hu hi none a' 0 0 cap' (zj _)
   refine val _ _ (by rw [show List.length xs = 0 by rw [h0]; rfl]; exact hrun) (hnx _ ρ w hm (Ext.refl _ _ _ _) ?_ (Below.refl _ _))
   exact .d (RdV.of_scalar rfl ⟨none, 0, by rw [h0]; rfl, by rw [h0]; exact zj _, h2, Or.inl h0⟩)
  rcases h3 with h3 | ⟨b, o, c, e', fr, ha, hok, hb, hs, hr⟩
  ·exact fin0 h3
  ·by_cases h0 : xs = []
   ·exact fin0 h0
   have hpos : 0 < List.length xs := zN.2 h0
   have hcl := RdL.length (fun x cs => Rd.length u x cs) _ _ hr
   have hmul : List.length xs * 1 ≤ List.length xs * i.bytes := yd _ hc3
   subst ha
   have hrun := run_append_nil (P := P) w t ty e i z hu hi hz1 ⟨b, o, none⟩ (List.length xs) cap' ((c.toList.drop o).take (List.length xs * u.size)) (by rw [hcl, hc1]) (by
    intro j v hj
    have hlt : j < ((c.toList.drop o).take (List.length xs * u.size)).length := (zw.1 hj).1
    rw [af5]
    simp only [World.cell?, hb]
    rw [hcl] at hlt
    rw [zR, if_pos hlt, yJ, zU] at hj
    simpa using hj) hpos zb zb
   have hge := grownCap_ge w (List.length xs) 0 e
   have hB : ∃ B : Array Value, ((c.toList.drop o).take (List.length xs * u.size)).toArray ++ Builtin.zeroCells z.cells (grownCap w (List.length xs) 0 e - List.length xs) = B ∧ B.toList.take (List.length xs * u.size) = (c.toList.drop o).take (List.length xs * u.size) ∧ List.length xs * u.size ≤ B.size :=
    ⟨_, rfl, by simp only [yN]; rw [yr (by rw [hcl]; exact zj _), zr (by rw [hcl]; exact zj _)],
     by rw [xh, xH, hcl]; exact yB _ _⟩
   obtain ⟨B, hB1, hB2, hB3⟩ := hB
   rw [hB1] at hrun
   have hW : ∃ W, w.drew.alloc (.cells B e) = W := ⟨_, rfl⟩
   obtain ⟨W, hW⟩ := hW
   have hbl : Below w.heap.size w W := by rw [← hW]; exact ((Below.refl _ _).drew).alloc (zj _) _
   have hheap : W.heap[w.heap.size]? = some (.cells B e) := by rw [← hW]; show (w.heap.push _)[w.heap.size]? = _; simp
   have hWs : w.heap.size < W.heap.size := by rw [← hW]; simp
   rw [hW] at hrun
   refine val _ _ hrun ?_
   obtain ⟨hm', hext⟩ := hm.grow hbl
   refine hnx _ ρ _ hm' hext (.d (RdV.of_scalar rfl ⟨_, _, rfl, hge, h2, Or.inr ⟨w.heap.size, 0, B, e, _, rfl, ⟨Or.inr hm.below.size, hWs, fun k hk => by have := hm.key_lt hk; omega⟩, hheap, by omega, ?_⟩⟩)) hbl
   rw [yz, hB2]
   exact RdL.mono (fun x cs => Rd.mono (fun b hb => hext.data b hb) u x cs) _ _ hr
theorem aNv {H0 : Heap} (hsub : ∀ x ∈ H0, x ∈ H) {next K : Nat} (hm : MRel C ρ H next w) (hK : K ∉ H.keys) (hKn : K < next) {Γ : Cons} (hΓ : Γ.ok P G) (hG : G w)
  {a : Act} {arg : Operand → AV} (hv : ∀ x, VR C ρ H w (arg x) (a.eval x)) {o : Oper} {r : AV} {new : Heap} (h : (evM P Γ K H0 arg o).Leaf (r, new))
  {nx : Act → World → Prop} {Q : Exit → Act → World → Prop}
  (hnx : ∀ v ρ' w', MRel C ρ' (new ++ H) next w' → Ext C ρ H w ρ' (new ++ H) w' → VR C ρ' (new ++ H) w' r v → Below w.heap.size w w' → nx (a.put o.dst v) w') : o.wp P a w nx Q := by
 have val : ∀ v w', (execOp a.eval o).run P w = .ok (.value v) w' → nx (a.put o.dst v) w' → o.wp P a w nx Q := by
  intro v w' h1 h2
  unfold Oper.wp
  rw [h1]
  exact h2
 have pur : (evP P H0 arg o).Leaf r → new = [] → o.wp P a w nx Q := by
  intro h1 h2
  subst h2
  obtain ⟨v, h3, h4⟩ := aAQ hsub hm h1 hv
  exact val v w h3 (hnx v ρ w hm (Ext.refl _ _ _ _) h4 (Below.refl _ _))
 unfold evM at h
 split at h
 ·rename_i t x ho
  obtain ⟨r', h1, h2⟩ := T.Leaf.bind h
  cases h2
  obtain ⟨v, h3, h4⟩ := ajN hsub hm h1 (hv x)
  exact val v w (by simp [execOp, ho, h3]) (hnx v ρ w hm (Ext.refl _ _ _ _) h4 (Below.refl _ _))
 ·rename_i e ho
  split at h
  ·rename_i zs hz
   cases h
   obtain ⟨z, hz1, hz2, hz3⟩ := acN (C := C) (ρ := ρ) (H := H) (w := w) hz
   obtain ⟨hm', hext⟩ := hm.alloc (c := z.cells) (e := e) (blk := .vars e zs) hK hKn (fun ρ' H' w' he hh => ⟨_, hh, hz2.imp (fun _ _ => he.vr), hz3⟩)
   refine val (.pointer (some ⟨w.heap.size, 0, none⟩)) (w.alloc (.cells z.cells e)) ?_ (hnx _ _ _ hm' hext ?_ ((Below.refl _ _).alloc (zj _) _))
   ·simp [execOp, ho, Instr.alloc, hz1, newVar, newRow]
   ·have := VR.ptr (C := C) (w := w.alloc (.cells z.cells e)) (ρ := upd ρ K w.heap.size) (H := (K, .vars e zs) :: H) (k := K) (off := 0) (by simp [Heap.keys])
    rw [aaZ] at this
    exact this
  ·cases h
 ·rename_i e x ho
  split at h
  ·rename_i cells hc
   cases h
   obtain ⟨hc1, hc2⟩ := afD hc (hv x)
   obtain ⟨hm', hext⟩ := hm.alloc (c := (a.eval x).cells) (e := e) (blk := .vars e cells) hK hKn (fun ρ' H' w' he hh => ⟨_, hh, hc1.imp (fun _ _ => he.vr), hc2⟩)
   refine val (.pointer (some ⟨w.heap.size, 0, none⟩)) (w.alloc (.cells (a.eval x).cells e)) ?_ (hnx _ _ _ hm' hext ?_ ((Below.refl _ _).alloc (zj _) _))
   ·simp [execOp, ho, Instr.box, newVar, newRow]
   ·have := VR.ptr (C := C) (w := w.alloc (.cells (a.eval x).cells e)) (ρ := upd ρ K w.heap.size) (H := (K, .vars e cells) :: H) (k := K) (off := 0) (by simp [Heap.keys])
    rw [aaZ] at this
    exact this
  ·cases h
 ·rename_i t n ps ho
  split at h
  ·rename_i e hu
   split at h
   ·rename_i u zs m hty hz hs
    split at h
    ·rename_i hc
     simp only [zl] at hc
     obtain ⟨⟨⟨hc1, hc2⟩, hc3⟩, hc4⟩ := hc
     have hc1 := aaD hc1
     have hc2 := aaD hc2
     have hc3 := Nat.le_of_ble_eq_true hc3
     have hc4 := Nat.le_of_ble_eq_true hc4
     subst hc1
     split at h
     ·rename_i cells hf
      split at h
      ·rename_i l hp
       obtain ⟨z, hz1, hz2, hz3⟩ := acN (C := C) (ρ := ρ) (H := H) (w := w) hz
       have hzl : z.cells.size = u.size := by have := hz2.length; simp at this; omega
       obtain ⟨rs, hr1, hr2, hr3⟩ := agQ _ _ _ _ _ hf (hz2.rep n) (fun v hv => hz3 v (af0 hv)) (Parts.ofMap hv ps.toList)
       obtain ⟨c1, c2, e1, hl, h2⟩ := adT _ _ _ _ _ hp hr2
       cases h2
       simp only [yK] at e1
       subst e1
       obtain ⟨hl1, hl2⟩ := hl
       have hlen := RdL.length (fun x cs => Rd.length u x cs) _ _ hl2
       rw [hl1] at hlen
       have hexec : (execOp a.eval o).run P w = .ok (.value (.slice (some ⟨w.heap.size, 0, none⟩) n n)) (w.alloc (.cells ⟨rs⟩ e)) := by
        have hmade : (Array.range (n * u.size)).map ((if n * u.size = 0 then #[] else z.cells)[· % (if n * u.size = 0 then #[] else z.cells).size]!) = ⟨aaX z.cells.toList n⟩ := by
         by_cases h0 : n * u.size = 0
         ·apply Array.ext'
          have : aaX z.cells.toList n = [] := yu (by rw [adM]; simp [hzl, h0])
          simp [h0, this]
         ·have := adJ z.cells n
          rw [hzl] at this
          simp only [h0, if_false]
          apply Array.ext'
          exact this
        have hfill : Instr.fill (fun i => some (i * u.size, u.size)) ⟨aaX z.cells.toList n⟩ (ps.map fun x => (x.1, a.eval x.2)).toList = some ⟨rs⟩ := by
         rw [← hr1]; simp
        simp only [execOp, ho, Instr.buildSlice, Sem.run_bind, run_underlying hu, aaO hs, Result.andThen_ok, Sem.run_ite]
        rw [if_neg zb]
        simp only [Sem.run_pure, Result.andThen_ok]
        by_cases h0 : n * u.size = 0
        ·simp only [h0, if_true] at hmade ⊢
         rw [hmade, hfill]
         rfl
        ·simp only [h0, if_false, hz1, Result.andThen_ok] at hmade ⊢
         rw [hmade, hfill]
         rfl
       split at h
       ·cases h
        have hb : Below w.heap.size w (w.alloc (.cells ⟨rs⟩ e)) := (Below.refl _ _).alloc (zj _) _
        obtain ⟨hm', hext⟩ := hm.grow hb
        have hll : List.length l = n := hl1
        refine val _ _ hexec (hnx _ ρ _ hm' hext ?_ hb)
        refine .d (RdV.of_scalar rfl ⟨some ⟨w.heap.size, 0, none⟩, n, by rw [hll], by rw [hll]; exact zj _, by rw [hll]; unfold lim; omega, Or.inr ⟨w.heap.size, 0, ⟨rs⟩, e, (0, 0), rfl, ⟨Or.inr hm.below.size, by simp, fun k hk => by have := hm.key_lt hk; omega⟩, ?_, ?_, ?_⟩⟩)
        ·show (w.heap.push _)[w.heap.size]? = _; simp
        ·show 0 + List.length l * u.size ≤ rs.length; rw [hll]; omega
        ·show RdL _ l ((rs.drop 0).take (List.length l * u.size))
         rw [hll, yz, ← hlen, zv]
         exact RdL.mono (fun x cs => Rd.mono (fun b hb => hext.data b hb) u x cs) _ _ hl2
       cases h
       obtain ⟨hm', hext⟩ := hm.alloc (c := ⟨rs⟩) (e := e) (blk := .row e u l) hK hKn (fun ρ' H' w' he hh => ⟨_, hh, by show List.length l * _ ≤ rs.length; rw [hl1]; omega, by show List.length l ≤ lim; rw [hl1]; unfold lim; omega, by
        show RdL _ l (rs.take (List.length l * u.size))
        rw [hl1, ← hlen, zv]
        exact RdL.mono (fun x cs => Rd.mono he.data u x cs) _ _ hl2, hr3⟩)
       refine val _ _ hexec (hnx _ _ _ hm' hext ?_ ((Below.refl _ _).alloc (zj _) _))
       refine .ox (e := e) (t := u) (l := l) (c := ⟨rs⟩) (fr := (0, 0)) zf (by show 0 + n ≤ List.length l; rw [hl1]; omega) (by unfold maxLen; omega) ?_ (by show (0 + n) * u.size = rs.length; rw [hlen, zp]) (Or.inl ?_)
       ·rw [aaZ]; show (w.heap.push _)[w.heap.size]? = _; simp
       ·rw [aaZ]; simp
      ·cases h
     ·cases h
    ·cases h
   ·cases h
  ·cases h
 ·rename_i s d x ho
  split at h
  ·rename_i l hb hx
   have hvx := hv x
   rw [hx] at hvx
   obtain ⟨e1, hlim⟩ := ad6 hvx
   exact aBE hm hlim h (fun v w' hrun hz => val v w' (by simp [execOp, ho, e1, hrun]) hz) hnx
  ·obtain ⟨r', h1, h2⟩ := T.Leaf.bind h
   cases h2
   exact pur h1 rfl
 ·rename_i t ho
  split at h
  ·rename_i kt et hu
   split at h
   ·rename_i k hk
    cases h
    obtain ⟨hm', hext⟩ := hm.allocO (ob := .map #[] 0) (blk := .dic k []) hK hKn (fun ρ' H' w' he hh => ⟨_, _, hh, trivial⟩)
    refine val (.map (some w.heap.size)) (w.alloc (.map #[] 0)) ?_ (hnx _ _ _ hm' hext ?_ ((Below.refl _ _).alloc (zj _) _))
    ·simp only [execOp, ho]; rfl
    ·have := VR.mp (C := C) (w := w.alloc (.map #[] 0)) (ρ := upd ρ K w.heap.size) (H := (K, .dic k []) :: H) (k := K) (by simp [Heap.keys])
     rw [aaZ] at this
     exact this
   ·cases h
  ·cases h
 ·rename_i t n c ho
  have hn := hv n
  have hc := hv c
  split at h
  ·rename_i kn n' hn'
   rw [hn'] at hn
   split at h
   ·rename_i kc c' hc'
    rw [hc'] at hc
    obtain ⟨en, _⟩ := abD hn
    obtain ⟨ec, _⟩ := abD hc
    exact aLu hm hK hKn (kn := kn) (kc := kc) h (fun v w' hrun hx => val v w' (by simp [execOp, ho, en, ec, hrun]) hx) hnx
   ·cases h
  ·cases h
 ·rename_i f args ts ho
  split at h
  ·rename_i g first caps hg
   split at h
   ·rename_i c hc
    split at h
    ·rename_i hns
     split at h
     ·rename_i x hx
      cases h with
      | need hp h =>
       have hf := hv f
       rw [hg] at hf
       generalize hvf : a.eval f = vf at hf
       cases hf with
       | fn h1 h2 =>
        obtain ⟨he, hcon⟩ := Cons.find_ok hΓ hc
        obtain ⟨k1, k2⟩ := aoS hsub hm _ _ _ _ hx ((h1.append (VRs.ofMap hv args.toList)).append h2)
        unfold Oper.wp
        rw [aEe ho hvf he]
        show Calls P g _ w _
        have hlt : ∀ b, OkL C ρ H w b → b < w.heap.size := by
         rintro b (hb | ⟨k, hk, e⟩)
         ·exact hb.2.1
         ·subst e; exact hm.key_lt hk
        by_cases hsl : noSl c.res = true
        ·refine (hcon w (OkL C ρ H w) _ x hG hlt k1 hp).mono ?_
         rintro e w' ⟨rs, rfl, hr, hb⟩
         obtain ⟨hm', hext⟩ := hm.grow hb
         obtain ⟨e0, h0⟩ := apH h (fun u y v hu hy => by
          obtain ⟨cs, h5, h6⟩ := hy
          exact ⟨cs, Rd.noSl _ _ _ (hu hsl) h5, h6⟩) hr
         obtain rfl : new = [] := e0
         exact hnx _ ρ w' hm' hext h0 hb
        ·have hno : apN (first ++ args.toList.map arg ++ caps) = false := by
          cases hh : apN (first ++ args.toList.map arg ++ caps) with
          | false => rfl
          | true => rw [hh] at hns; simp at hns; exact absurd hns hsl
         refine (hcon w (Ok C ρ H w) _ x hG (fun b hb => hb.2.1) (k2 hno) hp).mono ?_
         rintro e w' ⟨rs, rfl, hr, hb⟩
         obtain ⟨hm', hext⟩ := hm.grow hb
         obtain ⟨e0, h0⟩ := apH h (fun u y v _ hy => hy.mono (by
          rintro b (hb' | ⟨hb1, hb2⟩)
          ·exact ⟨(hext.data b hb').1, rfl⟩
          ·exact ⟨⟨Or.inr (zt hm.below.size hb1), hb2, fun k hk e => by have := hm.key_lt hk; omega⟩, rfl⟩)) hr
         obtain rfl : new = [] := e0
         exact hnx _ ρ w' hm' hext h0 hb
     ·cases h
    ·cases h
   ·cases h
  ·cases h
 ·rename_i args ts ho
  unfold ayK at h
  split at h
  case h_2 => cases h
  rename_i t t2 x hts hl
  split at h
  case h_2 => cases h
  rename_i htt
  have htt := aaD htt
  subst htt
  split at h
  case h_2 => cases h
  rename_i e hu
  split at h
  case h_2 => cases h
  rename_i i hi
  split at h
  case h_2 => cases h
  rename_i u zs hty hz
  split at h
  case h_2 => cases h
  rename_i hc
  simp only [zl] at hc
  obtain ⟨⟨⟨hc1, hc2⟩, hc3⟩, hc4⟩ := hc
  split at h
  case h_2 => cases h
  rename_i xs hxs
  obtain ⟨y1, y2, hargs, hy1, hy2⟩ : ∃ y1 y2, args.toList = [y1, y2] ∧ arg y1 = .nsl ∧ arg y2 = x := by
   match hq : args.toList, hl with
   | [y1, y2], hl => simp at hl; exact ⟨y1, y2, rfl, hl.1, hl.2⟩
   | [], hl => simp at hl
   | [_], hl => simp at hl
   | _ :: _ :: _ :: _, hl => simp at hl
  have e1 : args.map a.eval = #[a.eval y1, a.eval y2] := by apply Array.ext'; simp [hargs]
  have e2 : ts = #[t, t] := by apply Array.ext'; simp [hts]
  have hv1 := hv y1
  rw [hy1] at hv1
  have ev1 : a.eval y1 = .slice none 0 0 := by generalize a.eval y1 = v at hv1; cases hv1; rfl
  have hv2 := hv y2
  rw [hy2] at hv2
  refine aBf (ty := o.type) hm hu hi hz (aaD hc1) (Nat.le_of_ble_eq_true hc3) hxs hv2 h (fun v w' hrun hx => val v w' ?_ hx) hnx
  subst e2
  simp [execOp, ho, resolve, invoke, builtin, e1, ev1, hrun]
 ·obtain ⟨r', h1, h2⟩ := T.Leaf.bind h
  cases h2
  exact pur h1 rfl
end
open Go Go.RowKit
def over {α : Type} (l : List α) (o : Nat) (xs : List α) : List α := l.take o ++ xs ++ l.drop (o + xs.length)
def aOY : (t : Ty) → t.T → Nat → (u : Ty) → u.T → Option t.T
 | .pair t _, x, 0, u, y => match u.as t y with
  | some z => some (z, x.2)
  | none => none
 | .pair _ r, x, n + 1, u, y => match aOY r x.2 n u y with
  | some z => some (x.1, z)
  | none => none
 | _, _, _, _, _ => none
def aNS (t : Ty) (x : t.T) (f : Nat) (u : Ty) (y : u.T) : Option t.T := match f / 1024 with
 | 0 => aOY t x f u y
 | j + 1 => match aF2 t x (f % 1024) with
  | some (_, ⟨.arr n v, l⟩) => match u.as v y, Nat.blt j n with
   | some z, true => aOY t x (f % 1024) (.arr n v) (List.set (α := v.T) l j z)
   | _, _ => none
  | _ => none
def aqR (P : Program) (σ : St) (t : TypeId) (a x : AV) : T St :=
 match a with
 | .ptr k off => match σ.H.find k, cellsOf x, aa6 P t with
  | some (.vars e cells), some cs, some n => match Nat.beq cs.length n && Nat.ble (off + n) cells.length with
   | true => .ok { σ with H := σ.H.up k (.vars e (over cells off cs)) }
   | false => .bad
  | _, _, _ => .bad
 | .eptr k i => match σ.H.find k, aa6 P t with
  | some (.row e u l), some n => match Nat.beq n u.size with
   | true => match toD u x with
    | some y => .ok { σ with H := σ.H.up k (.row e u (l.set i y)) }
    | none => .bad
   | false => .bad
  | _, _ => .bad
 | .efp k i f => match σ.H.find k, aa6 P t with
  | some (.row e u l), some n => match aLe u f with
   | some (_, v) => match Nat.beq n v.size with
    | true => match toD v x with
     | some y => match aNS u (l.getD i u.dflt) f v y with
      | some z => .ok { σ with H := σ.H.up k (.row e u (l.set i z)) }
      | none => .bad
     | none => .bad
    | false => .bad
   | none => .bad
  | _, _ => .bad
 | _ => .bad
def aC8 (σ : St) (dst : Option Nat) (e : TypeId) (bytes : Nat) (u : Ty) (xs : List u.T) (k off len : Nat) : T St :=
 match σ.H.find k with
 | some (.row e' u' l) => match Nat.beq e e' with
  | true => match (u'.sl).as (.sl u) l with
   | some (l : List u.T) => .need ((len + xs.length) * bytes ≤ 140737488355328) (.ite xs.isEmpty (.ok (σ.put dst (.ox k off len)))
     (.ok (({ σ with H := (σ.next, .row e u ((l.drop off).take len ++ xs)) :: σ.H, next := σ.next + 1 } : St).put dst (.own σ.next 0 (len + xs.length)))))
   | none => .bad
  | false => .bad
 | _ => .bad
def am1 (σ : St) (dst : Option Nat) (e : TypeId) (bytes : Nat) (u : Ty) (xs : List u.T) (s : AV) : T St :=
 match s with
 | .nsl => .need (xs.length * bytes ≤ 140737488355328) (.ite xs.isEmpty (.ok (σ.put dst .nsl))
   (.ok (({ σ with H := (σ.next, .row e u xs) :: σ.H, next := σ.next + 1 } : St).put dst (.own σ.next 0 xs.length))))
 | .own k 0 len => match σ.H.find k with
  | some (.row e' u' l) => match Nat.beq e e' with
   | true => match (u'.sl).as (.sl u) l with
    | some (l : List u.T) => .need ((len + xs.length) * bytes ≤ 140737488355328)
      (.ok (({ σ with slots := aa1 (neK k) aeG σ.slots, H := (σ.next, .row e u (l.take len ++ xs)) :: σ.H.keep (neK k) aeG, next := σ.next + 1 } : St).put dst (.own σ.next 0 (len + xs.length))))
    | none => .bad
   | false => .bad
  | _ => .bad
 | .ox k off len => aC8 σ dst e bytes u xs k off len
 | _ => .bad
def ayJ (σ : St) (dst : Option Nat) (e : TypeId) (u : Ty) (xs : List u.T) (k len : Nat) : T St :=
 match σ.H.find k with
 | some (.row e' u' l) => match Nat.beq e e' with
  | true => match (u'.sl).as (.sl u) l with
   | some (l : List u.T) => .need (len + xs.length ≤ l.length) (.ok (({ σ with H := σ.H.up k (.row e u (over l len xs)) } : St).put dst (.own k 0 (len + xs.length))))
   | none => .bad
  | false => .bad
 | _ => .bad
def aBO (s x : AV) : Option (Nat × Nat) :=
 match s, x with
 | .own k 0 len, .own k' _ _ => match Nat.beq k k' with
  | true => some (k, len)
  | false => none
 | _, _ => none
def ayH (P : Program) (σ : St) (dst : Option Nat) (t : TypeId) (s x : AV) : T St :=
 match P.underlying t with
 | some (.slice e) => match P.info? e with
  | some i => match aGd P 20 e, ab2 P e with
   | some u, some zs => match Nat.beq i.size u.size && Nat.beq zs.length u.size && Nat.ble 1 i.bytes && Nat.ble 1 u.size with
    | true => match aJU σ.H (.sl u) x with
     | some (xs : List u.T) => match aBO s x with
      | some (k, len) => ayJ σ dst e u xs k len
      | none => am1 σ dst e i.bytes u xs s
     | none => .bad
    | false => .bad
   | _, _ => .bad
  | none => .bad
 | _ => .bad
def aEi (σ : St) (dst : Option Nat) (e : TypeId) (bytes : Nat) (u : Ty) (y : u.T) (n : Int) : T St :=
 .need (1 ≤ n ∧ n * (bytes : Int) ≤ 140737488355328) (.ok (({ σ with H := (σ.next, .row e u (List.replicate n.toNat y)) :: σ.H, next := σ.next + 1 } : St).put dst (.own σ.next 0 n.toNat)))
def aC7 (P : Program) (σ : St) (dst : Option Nat) (t v : TypeId) (s x : AV) : T St :=
 match P.underlying t, P.underlying v with
 | some (.slice e), some (.int _) => match P.info? e with
  | some i => match aGd P 20 e, ab2 P e with
   | some u, some zs => match pack u zs with
    | some (y, []) => match Nat.beq i.size u.size && Nat.beq zs.length u.size && Nat.ble 1 i.bytes && Nat.ble 1 u.size with
     | true => match s, x with
      | .nsl, .d (.int _) n => aEi σ dst e i.bytes u y n
      | _, _ => .bad
     | false => .bad
    | _ => .bad
   | _, _ => .bad
  | none => .bad
 | _, _ => .bad
def atK (P : Program) (σ : St) (dst : Option Nat) (t v : TypeId) (s x : AV) : T St :=
 match P.underlying t, P.underlying v with
 | some (.slice e), some .string => match P.info? e with
  | some i => match aGd P 20 e, ab2 P e with
   | some (.int .u8), some zs => match Nat.beq i.size 1 && Nat.beq zs.length 1 && Nat.ble 1 i.bytes with
    | true => match x with
     | .d .str l => am1 σ dst e i.bytes (.int .u8) (ai2 l) s
     | _ => .bad
    | false => .bad
   | _, _ => .bad
  | none => .bad
 | _, _ => .bad
def aJe (P : Program) (σ : St) (dst : Option Nat) (t : TypeId) (d x : AV) : T St :=
 match P.underlying t with
 | some (.slice e) => match d with
  | .own k off len => match σ.H.find k with
   | some (.row e' u l) => match aa6 P e with
    | some n => match Nat.beq n u.size with
     | true => match aJU σ.H (.sl u) x with
      | some (xs : List u.T) => .ok (({ σ with H := σ.H.up k (.row e' u (over l off (xs.take len))) } : St).put dst (aFk (min xs.length len)))
      | none => .bad
     | false => .bad
    | none => .bad
   | _ => .bad
  | _ => .bad
 | _ => .bad
section
variable {C : Ctx} {ρ : Nat → Nat} {H : Heap} {w : World} {P : Program}
theorem MRel.mono {next next' : Nat} (h : MRel C ρ H next w) (hn : next ≤ next') : MRel C ρ H next' w :=
 ⟨h.below, h.nodup, fun k hk => zZ (h.lt k hk) hn, h.inj, h.low, h.mem⟩
theorem VRs.over {as bs : List AV} {vs us : List Value} (h : VRs C ρ H w as vs) (h' : VRs C ρ H w bs us) (o : Nat) : VRs C ρ H w (over as o bs) (over vs o us) := by
 unfold Vg.over
 rw [h'.length]
 exact ((h.take o).append h').append (h.drop _)
theorem aaV {α : Type} (l : List α) (o : Nat) (xs : List α) (h : o + xs.length ≤ l.length) : (over l o xs).length = l.length := by
 unfold over; simp; omega
theorem agK {α : Type} {l : List α} {o : Nat} {xs : List α} {x : α} (h : x ∈ over l o xs) : x ∈ l ∨ x ∈ xs := by
 unfold over at h
 rcases zE.1 h with h | h
 ·rcases zE.1 h with h | h
  ·exact Or.inl (yI h)
  ·exact Or.inr h
 ·exact Or.inl (yT h)
theorem RdL.append {α : Type} {R : α → List Value → Prop} : ∀ (l m : List α) (cs ds : List Value), RdL R l cs → RdL R m ds → RdL R (l ++ m) (cs ++ ds)
 | [], m, cs, ds, h, h' => by simp [RdL] at h; subst h; exact h'
 | x :: xs, m, cs, ds, ⟨c1, c2, e, h1, h2⟩, h' => by
  subst e
  exact ⟨c1, c2 ++ ds, by simp, h1, RdL.append xs m c2 ds h2 h'⟩
theorem RdL.drop {α : Type} {R : α → List Value → Prop} {n : Nat} (hn : ∀ x cs, R x cs → cs.length = n) (l : List α) (cs : List Value) (a : Nat) (h : RdL R l cs) : RdL R (l.drop a) (cs.drop (a * n)) := by
 have := RdL.take_drop hn l cs a (l.drop a).length h
 rw [zv] at this
 rw [zr (by rw [yf, RdL.length hn l cs h, yf, Nat.sub_mul]; omega)] at this
 exact this
theorem RdL.take {α : Type} {R : α → List Value → Prop} {n : Nat} (hn : ∀ x cs, R x cs → cs.length = n) (l : List α) (cs : List Value) (a : Nat) (h : RdL R l cs) : RdL R (l.take a) (cs.take (a * n)) := by
 have := RdL.take_drop hn l cs 0 a h
 simpa using this
theorem RdL.over {α : Type} {R : α → List Value → Prop} {n : Nat} (hn : ∀ x cs, R x cs → cs.length = n) (l m : List α) (cs ds : List Value) (o : Nat) (h : RdL R l cs) (h' : RdL R m ds) :
  RdL R (Vg.over l o m) (Vg.over cs (o * n) ds) := by
 unfold Vg.over
 have hl := RdL.length hn m ds h'
 rw [hl, ← zX]
 exact RdL.append _ _ _ _ (RdL.append _ _ _ _ (RdL.take hn l cs o h) h') (RdL.drop hn l cs _ h)
theorem awY {α : Type} (l : List α) (i : Nat) (x : α) (h : i < l.length) : l.set i x = over l i [x] := by
 unfold over
 rw [List.set_eq_take_append_cons_drop, if_pos h]
 simp
theorem ajH {α : Type} (l : List α) (N o : Nat) (xs : List α) (h : o + xs.length ≤ N) : (over l o xs).take N = over (l.take N) o xs ∨ l.length < o := by
 by_cases ho : l.length < o
 ·exact Or.inr ho
 left
 unfold over
 rw [we, we, yP, xJ]
 simp only [zJ, zY, yP]
 rw [yl (show o ≤ l.length by omega), Nat.min_eq_right (show o ≤ N by omega), zr (show xs.length ≤ N - o by omega), yl (show o ≤ N by omega)]
theorem anK {ok : Nat → Prop} {w : World} : ∀ {t : Ty} {x : t.T} {n o : Nat} {u : Ty} {y : u.T} {z : t.T} {cs ys : List Value}, aOY t x n u y = some z → aNh t n = some (o, u) → Rd ok w t x cs → Rd ok w u y ys → Rd ok w t z (over cs o ys) ∧ o + u.size ≤ t.size
 | .pair t r, x, 0, o, u, y, z, cs, ys, h, ho, hx, hy => by
  simp only [aOY] at h
  split at h
  ·rename_i z' hz
   injection h with h
   subst h
   obtain ⟨e, e2⟩ := Ty.as_some hz
   subst e
   subst e2
   simp only [aNh] at ho
   injection ho with ho
   injection ho with ho _
   subst ho
   obtain ⟨c1, c2, rfl, h1, h2⟩ := hx
   have l1 := Rd.length _ _ _ h1
   have l2 := Rd.length _ _ _ hy
   refine ⟨⟨ys, c2, ?_, hy, h2⟩, by simp [Ty.size]⟩
   unfold over
   rw [List.take_zero, xb, zp, l2, ← l1, List.drop_left]
  ·cases h
 | .pair t r, x, n + 1, o, u, y, z, cs, ys, h, ho, hx, hy => by
  simp only [aOY] at h
  split at h
  ·rename_i z' hz
   injection h with h
   subst h
   simp only [aNh] at ho
   split at ho
   ·rename_i o' v' ho'
    injection ho with ho
    injection ho with e1 e2
    subst e1; subst e2
    obtain ⟨c1, c2, rfl, h1, h2⟩ := hx
    have l1 := Rd.length _ _ _ h1
    obtain ⟨h3, h4⟩ := anK hz ho' h2 hy
    refine ⟨⟨c1, over c2 o' ys, ?_, h1, h3⟩, by simp only [Ty.size]; omega⟩
    unfold over
    rw [← l1, we, wI, zr zb, yx zb, xb, yS, wG, yS]
    simp
   ·cases ho
  ·cases h
 | .int _, _, _, _, _, _, _, _, _, h, _, _, _ => by cases h
 | .bool, _, _, _, _, _, _, _, _, h, _, _, _ => by cases h
 | .str, _, _, _, _, _, _, _, _, h, _, _, _ => by cases h
 | .unit, _, _, _, _, _, _, _, _, h, _, _, _ => by cases h
 | .arr _ _, _, _, _, _, _, _, _, _, h, _, _, _ => by cases h
 | .sl _, _, _, _, _, _, _, _, _, h, _, _, _ => by cases h
theorem azZ {α : Type} (l : List α) (a o s : Nat) (xs : List α) (h1 : o + xs.length ≤ s) (h2 : a + s ≤ l.length) : over l (a + o) xs = over l a (over ((l.drop a).take s) o xs) := by
 have hl : (over ((l.drop a).take s) o xs).length = s := by
  rw [aaV _ _ _ (by rw [zY, yf]; omega), zY, yf]; omega
 unfold over at hl ⊢
 rw [hl, yP, yl zb, xJ, zT]
 have e1 : l.take (a + o) = l.take a ++ (l.drop a).take o := by rw [List.take_add]
 have e2 : (l.drop (a + (o + xs.length))).take (s - (o + xs.length)) ++ l.drop (a + s) = l.drop (a + o + xs.length) := by
  have := xn (s - (o + xs.length)) (l.drop (a + (o + xs.length)))
  rw [zT, show a + (o + xs.length) + (s - (o + xs.length)) = a + s by omega] at this
  rw [this, wG]
 rw [e1, ← e2]
 simp [xa]
theorem aBM {ok : Nat → Prop} {w : World} {t : Ty} {x : t.T} {f o : Nat} {u : Ty} {y : u.T} {z : t.T} {cs ys : List Value} (h : aNS t x f u y = some z) (ho : aLe t f = some (o, u)) (hx : Rd ok w t x cs) (hy : Rd ok w u y ys) : Rd ok w t z (over cs o ys) ∧ o + u.size ≤ t.size := by
 unfold aNS at h
 unfold aLe at ho
 split at h
 ·rename_i e; rw [e] at ho; exact anK h ho hx hy
 ·rename_i j e
  rw [e] at ho
  split at h
  ·rename_i o' n v l hn
   simp only [amD hn] at ho
   split at h
   ·rename_i y' hz hb
    simp only [hb] at ho
    injection ho with ho; injection ho with h1 h2
    subst h1; subst h2
    obtain ⟨e1, e2⟩ := Ty.as_some hz
    have e2 : y = y' := e2
    subst e2
    obtain ⟨⟨g1, g2⟩, g3⟩ := afI t x _ o' (.arr n v) l cs hn hx
    have hj : j < n := Nat.le_of_ble_eq_true hb
    have hle : (j + 1) * v.size ≤ n * v.size := zC _ hj
    rw [zV] at hle
    have hl := Rd.length _ _ _ hy
    have hc := Rd.length _ _ _ hx
    simp only [Ty.size] at g3
    have hone : RdL (Rd ok w v) [y] ys := ⟨ys, [], by simp, hy, rfl⟩
    have hset : Rd ok w (.arr n v) (List.set (α := v.T) l j y) (over ((cs.drop o').take (n * v.size)) (j * v.size) ys) := by
     have e3 : ∀ (l : List v.T), l.length = n → RdL (Rd ok w v) l ((cs.drop o').take (n * v.size)) → (l.set j y).length = n ∧ RdL (Rd ok w v) (l.set j y) (over ((cs.drop o').take (n * v.size)) (j * v.size) ys) := fun l g1 g2 => by
      refine ⟨by rw [wy]; exact g1, ?_⟩
      rw [awY l j y (by rw [g1]; exact hj)]
      exact RdL.over (fun x cs => Rd.length v x cs) _ _ _ _ _ g2 hone
     exact e3 l g1 g2
    obtain ⟨q1, q2⟩ := anK h (amD hn) hx hset
    rw [azZ cs o' (j * v.size) (n * v.size) ys zb zb]
    exact ⟨q1, by omega⟩
   ·cases h
  ·cases h
theorem afO {b o : Nat} {c : Array Value} {e : TypeId} {vs : List Value} (hb : w.heap[b]? = some (.cells c e (0, 0))) (ho : o + vs.length ≤ c.size) (h1 : ∀ v ∈ vs, v.oneCell' = true) :
  (storeCells ⟨b, o, none⟩ vs).run P w = .ok () (w.setRow b ⟨over c.toList o vs⟩) := by
 have := run_storeCells_at P b o e vs 0 c w hb (by simpa using ho) h1
 simpa [over] using this
theorem awP {σ σ' : St} {a : Act} {t : TypeId} {x y : AV} {vx vy : Value} (h : (aqR P σ t x y).Leaf σ') (hs : SRel C ρ σ a w) (hx : VR C ρ σ.H w x vx) (hy : VR C ρ σ.H w y vy) :
  ∃ w', (Instr.storeAt t vx vy).run P w = .ok () w' ∧ SRel C ρ σ' a w' ∧ Fr C σ.next ρ σ.H w ρ σ'.H w' ∧ σ'.next = σ.next := by
 have hm := hs.m
 unfold aqR at h
 split at h
 ·rename_i k off
  split at h
  ·rename_i e cells cs n hf hcs hsz
   split at h
   ·rename_i hc
    cases h
    simp only [zl] at hc
    have hc1 := aaD hc.1
    have hc2 := Nat.le_of_ble_eq_true hc.2
    subst hc1
    have hk := Heap.find_mem hf
    obtain ⟨c, hc3, hc4, hc5⟩ := hm.mem k _ hk
    obtain ⟨hy1, hy2⟩ := afD hcs hy
    have hl1 := hy1.length
    have hl2 := hc4.length
    have hfit : off + vy.cells.toList.length ≤ c.toList.length := zb
    obtain ⟨hm', hext⟩ := hm.write (nb := .vars e (over cells off cs)) (c' := ⟨over c.toList off vy.cells.toList⟩) hk hc3 (by show c.size = (over c.toList off vy.cells.toList).length; rw [aaV _ _ _ hfit]; simp) (by intro e t l hh; cases hh)
     (fun H' w' he hh => ⟨_, hh, (hc4.over hy1 off).imp (fun _ _ => he.vr), fun v hv => by
      rcases agK hv with hv | hv
      ·exact hc5 v hv
      ·exact hy2 v hv⟩)
    cases hx
    refine ⟨_, ?_, hs.frame hm' (hext.fr (fun j _ hj => by rwa [Heap.keys_up] at hj)) (fun j hj => by rwa [Heap.keys_up]), hext.fr (fun j _ hj => by rwa [Heap.keys_up] at hj), rfl⟩
    simp only [Instr.storeAt, Instr.sureAddr, Sem.run_bind, Sem.run_pure, Result.andThen_ok, storeVar, aaO hsz, Sem.run_ite]
    rw [if_neg (by simp at hl1; omega)]
    exact afO hc3 (by simpa using hfit) hy2
   ·cases h
  ·cases h
 ·rename_i k i
  split at h
  ·rename_i e u l n hf hsz
   split at h
   ·rename_i hc
    have hc := aaD hc
    subst hc
    split at h
    ·rename_i y' hy'
     cases h
     have hk := Heap.find_mem hf
     obtain ⟨c, hc1, hc2, hc3, hc4, hc5⟩ := hm.mem k _ hk
     have hyr := (ad5 hy' hy).cells
     have hl1 := Rd.length _ _ _ hyr
     have hy2 := Rd.one _ _ _ hyr
     cases hx with
     | eptr hk' hi =>
      have hu' := Heap.mem_unique hm.nodup hk hk'
      injection hu' with hu1 hu2 hu3
      subst hu1; subst hu2
      have hu3 := eq_of_heq hu3
      subst hu3
      have hle : (i + 1) * u.size ≤ l.length * u.size := zC _ hi
      rw [zV] at hle
      have hfit : i * u.size + vy.cells.toList.length ≤ c.toList.length := by rw [hl1]; simp; omega
      obtain ⟨hm', hext⟩ := hm.write (nb := .row e u (l.set i y')) (c' := ⟨over c.toList (i * u.size) vy.cells.toList⟩) hk hc1 (by show c.size = (over c.toList _ _).length; rw [aaV _ _ _ hfit]; simp)
       (by intro e1 t1 l1 hh; injection hh with h1 h2 h3; subst h1; subst h2; have h3 := eq_of_heq h3; subst h3; exact ⟨_, rfl, by simp⟩)
       (fun H' w' he hh => by
        refine ⟨_, hh, by show (l.set i y').length * _ ≤ (over c.toList _ _).length; rw [aaV _ _ _ hfit]; simpa using hc2, by simpa using hc3, ?_, fun v hv => ?_⟩
        ·rw [wy]
         show RdL _ _ ((over c.toList _ _).take _)
         rw [(ajH c.toList (l.length * u.size) (i * u.size) vy.cells.toList (by rw [hl1]; exact hle)).resolve_right zg, awY l i y' hi]
         have hone : RdL (Rd (Ok C ρ H' w') w' u) [y'] vy.cells.toList := ⟨_, [], by simp, Rd.mono he.data u _ _ hyr, rfl⟩
         exact RdL.over (fun x cs => Rd.length u x cs) _ _ _ _ _ (RdL.mono (fun x cs => Rd.mono he.data u x cs) _ _ hc4) hone
        ·rcases agK hv with hv | hv
         ·exact hc5 v hv
         ·exact hy2 v hv)
      refine ⟨_, ?_, hs.frame hm' (hext.fr (fun j _ hj => by rwa [Heap.keys_up] at hj)) (fun j hj => by rwa [Heap.keys_up]), hext.fr (fun j _ hj => by rwa [Heap.keys_up] at hj), rfl⟩
      simp only [Instr.storeAt, Instr.sureAddr, Sem.run_bind, Sem.run_pure, Result.andThen_ok, storeVar, aaO hsz, Sem.run_ite]
      rw [if_neg (by simp at hl1; omega)]
      exact afO hc1 (by simpa using hfit) hy2
    ·cases h
   ·cases h
  ·cases h
 ·rename_i k i f
  split at h
  ·rename_i e u l n hf hsz
   split at h
   ·rename_i o v ho
    split at h
    ·rename_i hc
     have hc := aaD hc
     subst hc
     split at h
     ·rename_i y' hy'
      split at h
      ·rename_i z hz
       cases h
       have hk := Heap.find_mem hf
       obtain ⟨c, hc1, hc2, hc3, hc4, hc5⟩ := hm.mem k _ hk
       have hyr := (ad5 hy' hy).cells
       have hl1 := Rd.length _ _ _ hyr
       have hy2 := Rd.one _ _ _ hyr
       cases hx with
       | efp hk' hi ho' =>
        have hu' := Heap.mem_unique hm.nodup hk hk'
        injection hu' with hu1 hu2 hu3
        subst hu1; subst hu2
        have hu3 := eq_of_heq hu3
        subst hu3
        have ho2 := ho.symm.trans ho'
        injection ho2 with ho2
        injection ho2 with ho2 _
        subst ho2
        have hle : (i + 1) * u.size ≤ l.length * u.size := zC _ hi
        rw [zV] at hle
        have hel := RdL.getD (fun x cs => Rd.length u x cs) u.dflt l _ i hc4 hi
        rw [ab8 _ _ _ _ hle] at hel
        obtain ⟨hz1, hz2⟩ := aBM hz ho hel hyr
        have hlen : c.toList.length = c.size := zf
        have hfit : i * u.size + o + vy.cells.toList.length ≤ c.toList.length := by rw [hl1]; omega
        have hzl := Rd.length _ _ _ hz1
        have hov := azZ c.toList (i * u.size) o u.size vy.cells.toList (by rw [hl1]; exact hz2) zb
        obtain ⟨hm', hext⟩ := hm.write (nb := .row e u (l.set i z)) (c' := ⟨over c.toList (i * u.size + o) vy.cells.toList⟩) hk hc1 (by show c.size = (over c.toList _ _).length; rw [aaV _ _ _ hfit]; simp)
         (by intro e1 t1 l1 hh; injection hh with h1 h2 h3; subst h1; subst h2; have h3 := eq_of_heq h3; subst h3; exact ⟨_, rfl, by simp⟩)
         (fun H' w' he hh => by
          refine ⟨_, hh, by show (l.set i z).length * _ ≤ (over c.toList _ _).length; rw [aaV _ _ _ hfit]; simpa using hc2, by simpa using hc3, ?_, fun v hv => ?_⟩
          ·rw [wy]
           show RdL _ _ ((over c.toList _ _).take _)
           rw [hov, (ajH c.toList (l.length * u.size) (i * u.size) _ (by rw [hzl]; exact hle)).resolve_right zg, awY l i z hi]
           have hone : RdL (Rd (Ok C ρ H' w') w' u) [z] (over ((c.toList.drop (i * u.size)).take u.size) o vy.cells.toList) := ⟨_, [], by simp, Rd.mono he.data u _ _ hz1, rfl⟩
           exact RdL.over (fun x cs => Rd.length u x cs) _ _ _ _ _ (RdL.mono (fun x cs => Rd.mono he.data u x cs) _ _ hc4) hone
          ·rcases agK hv with hv | hv
           ·exact hc5 v hv
           ·exact hy2 v hv)
        refine ⟨_, ?_, hs.frame hm' (hext.fr (fun j _ hj => by rwa [Heap.keys_up] at hj)) (fun j hj => by rwa [Heap.keys_up]), hext.fr (fun j _ hj => by rwa [Heap.keys_up] at hj), rfl⟩
        simp only [Instr.storeAt, Instr.sureAddr, Sem.run_bind, Sem.run_pure, Result.andThen_ok, storeVar, aaO hsz, Sem.run_ite]
        rw [if_neg (by simp at hl1; omega)]
        exact afO hc1 (by simpa using hfit) hy2
      ·cases h
     ·cases h
    ·cases h
   ·cases h
  ·cases h
 ·cases h
theorem VR.sv_inv {k o n cap : Nat} {v : Value} (h : VR C ρ H w (.sv k o n cap) v) : v = .slice (some ⟨ρ k, o, none⟩) n cap ∧ n ≤ lim ∧ n ≤ cap := by
 cases h with
 | sv _ hn hc => exact ⟨rfl, hn, hc⟩
theorem awQ {next : Nat} (hm : MRel C ρ H next w) {u : Ty} {x : AV} {xs : List u.T} {v : Value} (h : aJU H (.sl u) x = some xs) (hx : VR C ρ H w x v) :
  ∃ a cap cs, v = .slice a xs.length cap ∧ RdL (Rd (Ok C ρ H w) w u) xs cs ∧ cs.length = xs.length * u.size ∧ xs.length ≤ lim ∧
   (xs = [] ∨ ∃ b o, a = some ⟨b, o, none⟩ ∧ ∀ j y, cs[j]? = some y → w.cell? ((⟨b, o, none⟩ : Addr).add j) = some y) := by
 have hr := (anI (fun _ h => h) hm h hx).scalar rfl
 obtain ⟨a, cap, e, h1, h2, h3⟩ := hr
 injection e with e _
 subst e
 have hdat : ∃ cs, RdL (Rd (Ok C ρ H w) w u) xs cs ∧ (xs = [] ∨ ∃ b o c e fr, a = some ⟨b, o, none⟩ ∧ w.heap[b]? = some (.cells c e fr) ∧ o + xs.length * u.size ≤ c.size ∧ cs = (c.toList.drop o).take (xs.length * u.size)) := by
  have isd : ∀ x', toD (.sl u) x' = some xs → VR C ρ H w x' (.slice a xs.length cap) → ∃ cs, RdL (Rd (Ok C ρ H w) w u) xs cs ∧ (xs = [] ∨ ∃ b o c e fr, a = some ⟨b, o, none⟩ ∧ w.heap[b]? = some (.cells c e fr) ∧ o + xs.length * u.size ≤ c.size ∧ cs = (c.toList.drop o).take (xs.length * u.size)) := by
   intro x' hx' hv'
   obtain ⟨a', cap', e, h1, h2, h3⟩ := (ad5 hx' hv').scalar rfl
   injection e with e _
   injection e with e _
   subst e
   rcases h3 with h3 | ⟨b, o, c, e, fr, ha, hok, hb, hs, hr⟩
   ·refine ⟨[], ?_, Or.inl h3⟩
    rw [h3]; rfl
   ·exact ⟨_, hr, Or.inr ⟨b, o, c, e, fr, ha, hb, hs, rfl⟩⟩
  by_cases ho : ∃ k off len, x = .own k off len
  ·obtain ⟨k, off, len, rfl⟩ := ho
   simp only [aJU] at h
   split at h
   ·rename_i e v' l hf
    obtain ⟨e1, e2⟩ := Ty.as_some h
    injection e1 with e1
    subst e1
    have e2' : (l.drop off).take len = xs := e2
    have hk := Heap.find_mem hf
    cases hx with
    | own hk' hl hc hmx hb hs ha =>
     have hu := Heap.mem_unique hm.nodup hk hk'
     injection hu with hu1 hu2 hu3
     subst hu1; subst hu2
     have hu3 := eq_of_heq hu3
     subst hu3
     obtain ⟨c, g1, g2, g3, g4, g5⟩ := hm.ownCells hk hl
     rw [e2'] at g2 g3 g5
     refine ⟨_, g5, ?_⟩
     by_cases hnil : xs = []
     ·exact Or.inl hnil
     ·have hpos : 0 < xs.length := zN.2 hnil
      have ha' := ha.resolve_right (fun h => by omega)
      exact Or.inr ⟨ρ k, off * v'.size, c, e, (0, 0), ha', g1, g2, rfl⟩
   ·cases h
  ·by_cases ho2 : ∃ k o n c, x = .sv k o n c
   ·obtain ⟨k, o, n, cc, rfl⟩ := ho2
    simp only [aJU] at h
    split at h
    ·rename_i e cells hf
     split at h
     ·rename_i l _ hoc hp
      injection h with h
      subst h
      have hk := Heap.find_mem hf
      obtain ⟨c, hc, hvs, _⟩ := hm.mem _ _ hk
      obtain ⟨c1, c2, e1, hl, -⟩ := adT _ _ _ _ _ hp (hvs.drop o)
      obtain ⟨hn, hr⟩ := hl
      obtain ⟨ev, hlim, hcap⟩ := VR.sv_inv hx
      injection ev with ea _ _
      obtain ⟨hlt, hle, htk⟩ := RdL.first (fun x cs => Rd.length u x cs) hn hcap hr
      refine ⟨c1.take (n * u.size), htk, Or.inr ⟨ρ k, o, c, e, (0, 0), ea, hc, ?_, ?_⟩⟩
      ·have : c.size - o = c1.length + c2.length := by rw [← zJ, ← e1]; simp
       have hoc := Nat.le_of_ble_eq_true hoc
       have hcl : cells.length = c.size := by rw [hvs.length]; simp
       rw [hlt]; omega
      ·rw [e1, hlt, yr hle]
     ·cases h
    ·cases h
   ·refine isd x ?_ hx
    cases x <;> first | exact h | exact absurd ⟨_, _, _, rfl⟩ ho | exact absurd ⟨_, _, _, _, rfl⟩ ho2
 obtain ⟨cs, hcs, hor⟩ := hdat
 refine ⟨a, cap, cs, rfl, hcs, RdL.length (fun x cs => Rd.length u x cs) _ _ hcs, h2, ?_⟩
 rcases hor with hor | ⟨b, o, c, e, fr, ha, hb, hs, hcs'⟩
 ·exact Or.inl hor
 ·refine Or.inr ⟨b, o, ha, fun j y hj => ?_⟩
  rw [hcs'] at hj
  have hlt : j < ((c.toList.drop o).take (xs.length * u.size)).length := (zw.1 hj).1
  simp only [zY, yf, Array.length_toList] at hlt
  rw [zR, if_pos zb, yJ, zU] at hj
  rw [af5]
  simp [World.cell?, hb, hj]
end
end Go.Vg
