/-
  An evaluator of Go code over plain data, proved sound against the model. Own work; no condition.
-/
import Derived.Calls
import Derived.Orders
import Derived.Below
import Derived.Laws.CopyRow
import Derived.KernelRfl
import Derived.WideKeyPair
import Derived.ChangeKeysEq
set_option linter.unusedVariables false
set_option linter.unusedSimpArgs false
namespace Go
theorem zb {p : Prop} (h : p := by omega) : p := h
theorem zc {p : Prop} (h : p := by decide) : p := h
theorem ze {p : Prop} (h : p := by first | exact True.intro | rfl) : p := h
theorem zf {p : Prop} (h : p := by simp) : p := h
theorem zg {p : Prop} (h : p := by simp; omega) : p := h
theorem zh {p : Prop} (h : p := by dsimp only; omega) : p := h
theorem zi {p : Prop} (h : p := by assumption) : p := h
abbrev vD : Type := List UInt8 × List UInt8 × Unit
abbrev vE : Type := ((Int) × Bool × ((List (List Int)) × (List Int) × (List Int) × Unit) × Unit) ⊕ (((Int) × (List (List UInt8 × Int)) × Unit) ⊕ ((Int × List vD × vD × vD × Int × Unit) × Int × Unit))
abbrev vF : Type := ((Int) × (List Int) × (List Int) × Unit) ⊕ (List Int × List Int × Unit)
abbrev vI : Type := Bool × List Int × Unit
abbrev vJ : Type := (Int) × (Int) × Unit
abbrev vK : Type := ((Int) × Unit) ⊕ (Bool × Unit)
abbrev vL : Type := List Int × Unit
abbrev vN : Type := List UInt8 × Int
abbrev vP : Type := (Int) × Bool × (List Int) × Unit
abbrev vW : Type := Bool × Unit
abbrev vX : Type := List (List Int) × Int × Unit
abbrev vZ : Type := (Int × List vD × vD × vD × Int × Unit) × Int × Unit
abbrev ua : Type := List Int × Bool × Unit
abbrev ub : Type := (Int) × Bool × (List (List Int)) × Unit
abbrev uc : Type := ((Int) × (Int) × Bool × (List Int) × Unit) ⊕ vL
abbrev ue : Type := List UInt8 × Unit
abbrev uf : Type := (Int) × (Int) × (List Int) × Unit
abbrev ug : Type := (Int) × Unit
abbrev uh : Type := List (List Int) × List Int × List Int × Unit
abbrev ui : Type := Int × Unit
abbrev uj : Type := ((Int) × (List Int) × Unit) ⊕ vL
abbrev um : Type := (List Int) × (List Int) × Unit
abbrev uq : Type := List UInt8 × Bool
abbrev ur : Type := vD × Int × Unit
abbrev uu : Type := ((Int) × (List UInt8) × Unit) ⊕ ue
abbrev ux : Type := vI × Unit
abbrev uy : Type := List Int × Int × Unit
abbrev uJ : Type := List Int × List Int × Unit
abbrev uP : Type := ((Int) × (Int) × (Int) × (List Int) × Unit) ⊕ vF
abbrev uQ : Type := (Int) × (List vN) × Unit
abbrev zj := @Nat.le_refl
abbrev zk := @decide_eq_false
abbrev zl := @Bool.and_eq_true
abbrev zm := @decide_eq_true
abbrev zn := @Int.toNat_natCast
abbrev zo := @Array.getD_eq_getD_getElem?
abbrev zp := @Nat.zero_add
abbrev zq := @List.mem_cons
abbrev zr := @List.take_of_length_le
abbrev zt := @Nat.le_trans
abbrev zu := @List.mem_cons_of_mem
abbrev zv := @List.take_length
abbrev zw := @List.getElem?_eq_some_iff
abbrev zx := @List.getElem?_eq_getElem
abbrev zy := @Int.mul_le_mul_of_nonneg_left
abbrev zz := @decide_eq_true_eq
abbrev zC := @Nat.mul_le_mul_right
abbrev zD := @Nat.lt_or_ge
abbrev zE := @List.mem_append
abbrev zG := @List.mem_cons_self
abbrev zH := @List.mem_map
abbrev zI := @Int.mul_le_mul_of_nonneg_right
abbrev zJ := @List.length_append
abbrev zK := @Bool.not_eq_true'
abbrev zL := @Nat.eq_zero_or_pos
abbrev zM := @Int.eq_ofNat_of_zero_le
abbrev zN := @List.length_pos_iff
abbrev zO := @decide_eq_false_iff_not
abbrev zP := @List.getD_eq_getElem?_getD
abbrev zQ := @Int.tdiv_eq_ediv_of_nonneg
abbrev zR := @List.getElem?_take
abbrev zS := @List.length_map
abbrev zT := @List.drop_drop
abbrev zU := @Array.getElem?_toList
abbrev zV := @Nat.succ_mul
abbrev zW := @Array.getElem?_eq_getElem
abbrev zX := @Nat.add_mul
abbrev zY := @List.length_take
abbrev zZ := @Nat.lt_of_lt_of_le
abbrev ya := @Nat.zero_le
abbrev yb := @Int.tmod_eq_emod_of_nonneg
abbrev yc := @Int.lt_of_mul_lt_mul_right
abbrev yd := @Nat.mul_le_mul_left
abbrev ye := @List.mem_singleton
abbrev yf := @List.length_drop
abbrev yg := @Int.emod_add_mul_ediv
abbrev yh := @List.length_cons
abbrev yi := @Int.lt_or_le
abbrev yj := @List.length_singleton
abbrev yk := @List.length_eq_zero_iff
abbrev yl := @Nat.min_eq_left
abbrev ym := @Bool.not_eq_false'
abbrev yn := @List.mem_range
abbrev yo := @Nat.mod_eq_of_lt
abbrev yp := @Nat.lt_succ_self
abbrev yq := @List.all_eq_true
abbrev yr := @List.take_append_of_le_length
abbrev yu := @List.eq_nil_of_length_eq_zero
abbrev yv := @List.drop_eq_getElem_cons
abbrev yw := @Nat.pow_le_pow_right
abbrev yx := @List.drop_of_length_le
abbrev yy := @Bool.false_eq_true
abbrev yz := @List.drop_zero
abbrev yA := @List.nodup_cons
abbrev yB := @Nat.le_add_right
abbrev yC := @List.getElem_mem
abbrev yD := @Array.all_eq_true_iff_forall_mem
abbrev yE := @Int.pow_succ
abbrev yF := @List.length_replicate
abbrev yG := @Int.pow_pos
abbrev yH := @Array.getElem?_setIfInBounds_ne
abbrev yI := @List.mem_of_mem_take
abbrev yJ := @List.getElem?_drop
abbrev yK := @List.append_nil
abbrev yL := @Nat.pow_succ
abbrev yM := @Int.lt_of_mul_lt_mul_left
abbrev yN := @Array.toList_append
abbrev yO := @beq_iff_eq
abbrev yP := @List.take_take
abbrev yQ := @Nat.div_lt_iff_lt_mul
abbrev yR := @Nat.le_succ
abbrev yS := @Nat.add_sub_cancel_left
abbrev yT := @List.mem_of_mem_drop
abbrev yU := @bne_iff_ne
abbrev yV := @List.take_succ_eq_append_getElem
abbrev yW := @Nat.div_eq_of_lt
abbrev yX := @Array.getElem?_eq_some_iff
abbrev yY := @Array.getElem?_setIfInBounds_self_of_lt
abbrev yZ := @Array.getElem?_eq_none
abbrev xa := @List.append_assoc
abbrev xb := @List.nil_append
abbrev xc := @Bool.or_eq_true
abbrev xd := @List.getLast?_eq_getElem?
abbrev xe := @Int.mul_comm
abbrev xf := @Int.natAbs_natCast
abbrev xg := @Nat.testBit_or
abbrev xh := @Array.size_append
abbrev xi := @Int.tmod_nonneg
abbrev xj := @Nat.add_comm
abbrev xl := @Nat.mod_lt
abbrev xm := @Option.getD_some
abbrev xn := @List.take_append_drop
abbrev xo := @Option.isSome_iff_exists
abbrev xp := @Nat.lt_irrefl
abbrev xq := @Nat.mul_div_cancel_left
abbrev xr := @Int.ediv_eq_zero_of_lt
abbrev xu := @Int.emod_lt_of_pos
abbrev xv := @Nat.mul_comm
abbrev xw := @Nat.ble_eq_true_of_le
abbrev xx := @Int.tdiv_nonneg
abbrev xy := @Int.emod_nonneg
abbrev xz := @Option.map_some
abbrev xA := @Int.natCast_mul
abbrev xB := @List.map_append
abbrev xC := @List.mem_filter
abbrev xE := @Int.ediv_nonneg
abbrev xF := @List.range_succ
abbrev xG := @Nat.add_mul_mod_self_right
abbrev xH := @List.size_toArray
abbrev xI := @Int.pow_add
abbrev xJ := @List.drop_take
abbrev xK := @Int.mul_nonneg
abbrev xL := @Int.natAbs_mul
abbrev xM := @List.cons_append
abbrev xN := @Nat.le_of_eq
abbrev xO := @Array.getElem?_replicate
abbrev xP := @Nat.gcd_comm
abbrev xQ := @List.eq_nil_iff_forall_not_mem
abbrev xR := @Bool.eq_iff_iff
abbrev xS := @Int.mul_add
abbrev xU := @List.nodup_nil
abbrev xV := @Nat.zero_mul
abbrev xW := @Int.tmod_add_mul_tdiv
abbrev xX := @List.getElem?_eq_none
abbrev xY := @Nat.add_mul_div_right
abbrev xZ := @Nat.testBit_two_pow_sub_one
abbrev we := @List.take_append
abbrev wg := @Array.toList_extract
abbrev wi := @Option.bind_some
abbrev wj := @Rat.divInt_ofNat
abbrev wk := @List.isPrefixOf_iff_prefix
abbrev wo := @Int.add_mul
abbrev wu := @List.replicate_succ
abbrev wx := @List.extract_eq_take_drop
abbrev wy := @List.length_set
abbrev wz := @Nat.div_lt_self
abbrev wA := @Int.le_of_lt
abbrev wB := @Nat.add_zero
abbrev wC := @Nat.gcd_pos_of_pos_right
abbrev wD := @Int.sub_zero
abbrev wE := @Int.tmod_lt_of_pos
abbrev wF := @Int.mul_zero
abbrev wG := @Nat.add_assoc
abbrev wI := @List.drop_append
abbrev wJ := @List.any_eq_true
abbrev wK := @Int.add_mul_ediv_left
abbrev wM := @Bool.or_eq_false_iff
abbrev wN := @List.drop_eq_nil_iff
abbrev wO := @Nat.not_lt_zero
abbrev wP := @List.mem_append_left
abbrev wQ := @List.head?_cons
abbrev wR := @Int.natAbs_tmod
abbrev wS := @Int.zero_add
abbrev wT := @Int.add_zero
end Go
namespace Go.Vg
open Go Go.RowKit
inductive Ty where
 | int (k : IntKind)
 | bool
 | str
 | unit
 | pair (t u : Ty)
 | arr (n : Nat) (t : Ty)
 | sl (t : Ty)
abbrev vC : Ty := Ty.int IntKind.i64
abbrev vG : Ty := Ty.pair Ty.str (Ty.pair Ty.str Ty.unit)
abbrev vH : Ty := Ty.int IntKind.u32
abbrev vS : Ty := Ty.pair Ty.bool (Ty.pair (Ty.sl vC) Ty.unit)
abbrev vT : Ty := Ty.pair Ty.bool Ty.unit
abbrev vU : Ty := Ty.int IntKind.u64
abbrev vV : Ty := Ty.pair vC Ty.unit
abbrev uk : Ty := Ty.sl vH
abbrev uI : Ty := Ty.sl vC
abbrev uK : Ty := Ty.pair uk Ty.unit
abbrev uM : Ty := Ty.pair vS Ty.unit
abbrev uU : Ty := Ty.bool
abbrev uW : Ty := Ty.arr 2 vC
def Ty.T : Ty → Type
 | .int _ => Int
 | .bool => Bool
 | .str => List UInt8
 | .unit => Unit
 | .pair t u => t.T × u.T
 | .arr _ t => List t.T
 | .sl t => List t.T
def Ty.dec : (t u : Ty) → Decidable (t = u)
 | .int k, .int j => if h : k = j then isTrue (h ▸ rfl) else isFalse (fun e => h (by injection e))
 | .bool, .bool => isTrue rfl
 | .str, .str => isTrue rfl
 | .unit, .unit => isTrue rfl
 | .pair t u, .pair t' u' => match t.dec t', u.dec u' with
  | isTrue h, isTrue h' => isTrue (h ▸ h' ▸ rfl)
  | isFalse h, _ => isFalse (fun e => h (by injection e))
  | _, isFalse h => isFalse (fun e => h (by injection e))
 | .arr n t, .arr m u => match t.dec u with
  | isTrue h => if e : n = m then isTrue (h ▸ e ▸ rfl) else isFalse (fun x => e (by injection x))
  | isFalse h => isFalse (fun e => h (by injection e))
 | .sl t, .sl u => match t.dec u with
  | isTrue h => isTrue (h ▸ rfl)
  | isFalse h => isFalse (fun e => h (by injection e))
 | .int _, .bool | .int _, .str | .int _, .unit | .int _, .pair _ _ | .int _, .arr _ _ | .int _, .sl _ => isFalse (fun e => by cases e)
 | .bool, .int _ | .bool, .str | .bool, .unit | .bool, .pair _ _ | .bool, .arr _ _ | .bool, .sl _ => isFalse (fun e => by cases e)
 | .str, .int _ | .str, .bool | .str, .unit | .str, .pair _ _ | .str, .arr _ _ | .str, .sl _ => isFalse (fun e => by cases e)
 | .unit, .int _ | .unit, .bool | .unit, .str | .unit, .pair _ _ | .unit, .arr _ _ | .unit, .sl _ => isFalse (fun e => by cases e)
 | .pair _ _, .int _ | .pair _ _, .bool | .pair _ _, .str | .pair _ _, .unit | .pair _ _, .arr _ _ | .pair _ _, .sl _ => isFalse (fun e => by cases e)
 | .arr _ _, .int _ | .arr _ _, .bool | .arr _ _, .str | .arr _ _, .unit | .arr _ _, .pair _ _ | .arr _ _, .sl _ => isFalse (fun e => by cases e)
 | .sl _, .int _ | .sl _, .bool | .sl _, .str | .sl _, .unit | .sl _, .pair _ _ | .sl _, .arr _ _ => isFalse (fun e => by cases e)
instance : DecidableEq Ty := Ty.dec
def Ty.as (t u : Ty) (x : t.T) : Option u.T := if h : t = u then some (h ▸ x) else none
theorem Ty.as_some {t u : Ty} {x : t.T} {y : u.T} (h : t.as u x = some y) : ∃ e : t = u, e ▸ x = y := by
 unfold Ty.as at h
 split at h
 ·rename_i e; subst e; exact ⟨rfl, by simpa using h⟩
 ·cases h
def Ty.size : Ty → Nat
 | .int _ | .bool | .str | .sl _ => 1
 | .unit => 0
 | .pair t u => t.size + u.size
 | .arr n t => n * t.size
def Ty.agg : Ty → Bool
 | .unit | .pair _ _ | .arr _ _ => true
 | _ => false
def Ty.dflt : (t : Ty) → t.T
 | .int _ => (0 : Int)
 | .bool => false
 | .str => ([] : List UInt8)
 | .unit => ()
 | .pair t u => (t.dflt, u.dflt)
 | .arr n t => List.replicate n t.dflt
 | .sl _ => []
def RdL {α : Type} (R : α → List Value → Prop) : List α → List Value → Prop
 | [], cs => cs = []
 | x :: xs, cs => ∃ c1 c2, cs = c1 ++ c2 ∧ R x c1 ∧ RdL R xs c2
def lim : Nat := 140737488355328
def Rd (ok : Nat → Prop) (w : World) : (t : Ty) → t.T → List Value → Prop
 | .int k, (x : Int), cs => cs = [.int k x] ∧ k.min ≤ x ∧ x ≤ k.max
 | .bool, (x : Bool), cs => cs = [.bool x]
 | .str, (x : List UInt8), cs => cs = [.string ⟨⟨x⟩⟩] ∧ x.length ≤ lim
 | .unit, _, cs => cs = []
 | .pair t u, x, cs => ∃ c1 c2, cs = c1 ++ c2 ∧ Rd ok w t x.1 c1 ∧ Rd ok w u x.2 c2
 | .arr n t, (x : List t.T), cs => x.length = n ∧ RdL (Rd ok w t) x cs
 | .sl t, (x : List t.T), cs => ∃ a cap, cs = [.slice a x.length cap] ∧ x.length ≤ cap ∧ x.length ≤ lim ∧
   (x = [] ∨ ∃ b o c e fr, a = some ⟨b, o, none⟩ ∧ ok b ∧ w.heap[b]? = some (.cells c e fr) ∧ o + x.length * t.size ≤ c.size ∧
    RdL (Rd ok w t) x ((c.toList.drop o).take (x.length * t.size)))
theorem RdL.mono {α : Type} {R R' : α → List Value → Prop} (h : ∀ x cs, R x cs → R' x cs) : ∀ xs cs, RdL R xs cs → RdL R' xs cs
 | [], _, hc => hc
 | _ :: xs, _, ⟨c1, c2, e, h1, h2⟩ => ⟨c1, c2, e, h _ _ h1, RdL.mono h xs _ h2⟩
theorem Rd.monoC {ok ok' : Nat → Prop} {w w' : World} (h : ∀ b c e fr, ok b → w.heap[b]? = some (.cells c e fr) → ok' b ∧ w'.heap[b]? = w.heap[b]?) :
  ∀ (t : Ty) (x : t.T) (cs : List Value), Rd ok w t x cs → Rd ok' w' t x cs
 | .int _, _, _, hr => hr
 | .bool, _, _, hr => hr
 | .str, _, _, hr => hr
 | .unit, _, _, hr => hr
 | .pair t u, _, _, ⟨c1, c2, e, h1, h2⟩ => ⟨c1, c2, e, Rd.monoC h t _ _ h1, Rd.monoC h u _ _ h2⟩
 | .arr _ t, _, _, ⟨hl, hr⟩ => ⟨hl, RdL.mono (fun x cs => Rd.monoC h t x cs) _ _ hr⟩
 | .sl t, _, _, ⟨a, cap, e, h1, h2, h3⟩ => by
  refine ⟨a, cap, e, h1, h2, ?_⟩
  rcases h3 with h3 | ⟨b, o, c, e, fr, ha, hok, hb, hs, hr⟩
  ·exact Or.inl h3
  ·exact Or.inr ⟨b, o, c, e, fr, ha, (h b c e fr hok hb).1, (h b c e fr hok hb).2.trans hb, hs, RdL.mono (fun x cs => Rd.monoC h t x cs) _ _ hr⟩
theorem Rd.mono {ok ok' : Nat → Prop} {w w' : World} (h : ∀ b, ok b → ok' b ∧ w'.heap[b]? = w.heap[b]?) (t : Ty) (x : t.T) (cs : List Value) (hr : Rd ok w t x cs) : Rd ok' w' t x cs :=
 Rd.monoC (fun b _ _ _ hb _ => h b hb) t x cs hr
theorem RdL.length {α : Type} {R : α → List Value → Prop} {n : Nat} (h : ∀ x cs, R x cs → cs.length = n) :
  ∀ xs cs, RdL R xs cs → cs.length = xs.length * n
 | [], _, hc => by simp [RdL] at hc; simp [hc]
 | _ :: xs, _, ⟨c1, c2, e, h1, h2⟩ => by
  rw [e, zJ, h _ _ h1, RdL.length h xs _ h2, yh, zV, xj]
theorem Rd.length {ok : Nat → Prop} {w : World} : ∀ (t : Ty) (x : t.T) (cs : List Value), Rd ok w t x cs → cs.length = t.size
 | .int _, _, _, ⟨e, _⟩ => by rw [e]; rfl
 | .bool, _, _, e => by rw [show _ = _ from e]; rfl
 | .str, _, _, ⟨e, _⟩ => by rw [e]; rfl
 | .unit, _, _, e => by rw [show _ = _ from e]; rfl
 | .pair t u, _, _, ⟨c1, c2, e, h1, h2⟩ => by rw [e, zJ, Rd.length t _ _ h1, Rd.length u _ _ h2]; rfl
 | .arr n t, _, _, ⟨hl, hr⟩ => by rw [RdL.length (fun x cs => Rd.length t x cs) _ _ hr, hl]; rfl
 | .sl _, _, _, ⟨_, _, e, _⟩ => by rw [e]; rfl
theorem RdL.one {α : Type} {R : α → List Value → Prop} (h : ∀ x cs, R x cs → ∀ v ∈ cs, v.oneCell' = true) :
  ∀ xs cs, RdL R xs cs → ∀ v ∈ cs, v.oneCell' = true
 | [], _, hc, v, hv => by simp [RdL] at hc; subst hc; simp at hv
 | _ :: xs, _, ⟨c1, c2, e, h1, h2⟩, v, hv => by
  subst e
  rcases zE.1 hv with hv | hv
  ·exact h _ _ h1 v hv
  ·exact RdL.one h xs _ h2 v hv
theorem Rd.one {ok : Nat → Prop} {w : World} : ∀ (t : Ty) (x : t.T) (cs : List Value), Rd ok w t x cs → ∀ v ∈ cs, v.oneCell' = true
 | .int _, _, _, ⟨e, _⟩, v, hv => by subst e; simp at hv; subst hv; rfl
 | .bool, _, _, e, v, hv => by rw [show _ = _ from e] at hv; simp at hv; subst hv; rfl
 | .str, _, _, ⟨e, _⟩, v, hv => by subst e; simp at hv; subst hv; rfl
 | .unit, _, _, e, v, hv => by rw [show _ = _ from e] at hv; simp at hv
 | .pair t u, _, _, ⟨c1, c2, e, h1, h2⟩, v, hv => by
  subst e
  rcases zE.1 hv with hv | hv
  ·exact Rd.one t _ _ h1 v hv
  ·exact Rd.one u _ _ h2 v hv
 | .arr _ t, _, _, ⟨_, hr⟩, v, hv => RdL.one (fun x cs => Rd.one t x cs) _ _ hr v hv
 | .sl _, _, _, ⟨_, _, e, _⟩, v, hv => by subst e; simp at hv; subst hv; rfl
def vOf (t : Ty) (cs : List Value) (v : Value) : Prop := if t.agg then v = .agg ⟨cs⟩ else cs = [v]
def RdV (ok : Nat → Prop) (w : World) (t : Ty) (x : t.T) (v : Value) : Prop := ∃ cs, Rd ok w t x cs ∧ vOf t cs v
theorem RdV.monoC {ok ok' : Nat → Prop} {w w' : World} (h : ∀ b c e fr, ok b → w.heap[b]? = some (.cells c e fr) → ok' b ∧ w'.heap[b]? = w.heap[b]?) {t : Ty} {x : t.T} {v : Value}
  (hr : RdV ok w t x v) : RdV ok' w' t x v := let ⟨cs, h1, h2⟩ := hr; ⟨cs, Rd.monoC h t x cs h1, h2⟩
theorem RdV.mono {ok ok' : Nat → Prop} {w w' : World} (h : ∀ b, ok b → ok' b ∧ w'.heap[b]? = w.heap[b]?) {t : Ty} {x : t.T} {v : Value}
  (hr : RdV ok w t x v) : RdV ok' w' t x v := let ⟨cs, h1, h2⟩ := hr; ⟨cs, Rd.mono h t x cs h1, h2⟩
theorem RdV.cells {ok : Nat → Prop} {w : World} {t : Ty} {x : t.T} {v : Value} (hr : RdV ok w t x v) : Rd ok w t x v.cells.toList := by
 obtain ⟨cs, h1, h2⟩ := hr
 unfold vOf at h2
 split at h2
 ·subst h2; exact h1
 ·subst h2
  have := Rd.one t x _ h1 v zf
  cases v <;> first | exact h1 | cases this
def aNh : Ty → Nat → Option (Nat × Ty)
 | .pair t _, 0 => some (0, t)
 | .pair t u, n + 1 => match aNh u n with
  | some (o, v) => some (t.size + o, v)
  | none => none
 | _, _ => none
def aLe (t : Ty) (f : Nat) : Option (Nat × Ty) := match f / 1024 with
 | 0 => aNh t f
 | j + 1 => match aNh t (f % 1024) with
  | some (o, .arr n v) => match Nat.blt j n with
   | true => some (o + j * v.size, v)
   | false => none
  | _ => none
inductive AV where
 /-- a datum -/
 | d (t : Ty) (x : t.T)
 /-- the address of a cell of one of the call's own blocks -/
 | ptr (k off : Nat)
 /-- the address of an element of one of the call's own rows -/
 | eptr (k i : Nat)
 /-- the address of a field of an element of one of the call's own rows -/
 | efp (k i f : Nat)
 /-- the address of a datum that nobody changes -/
 | dptr (t : Ty) (x : t.T)
 /-- a slice of one of the call's own rows -/
 | own (k off len : Nat)
 /-- the same, a slice that is as long as it can be -/
 | ox (k off len : Nat)
 /-- a slice of the first n elements of one of the call's own blocks of variables -/
 | sv (k o n c : Nat)
 /-- the nil slice -/
 | nsl
 /-- the nil pointer -/
 | nilp
 /-- the nil interface value -/
 | nili
 /-- an interface value that is not nil -/
 | nni
 /-- an interface value that holds a datum -/
 | ifc (k : TypeId) (t : Ty) (x : t.T)
 /-- a function value -/
 | fn (f : FuncId) (first caps : List AV)
 /-- the function that a range over a function hands to its iterator; l: the loop's record -/
 | yld (l : Nat)
 /-- one of the call's own maps -/
 | mp (k : Nat)
 /-- a struct or an array whose cells are not all data -/
 | ag (cells : List AV)
 | tup (l : List AV)
 /-- no value yet -/
 | und
 /-- nothing is known -/
 | no
structure LoopA where
 st : LoopState
 pend : Option Code
 slots : List (Nat × AV)
 n : Nat
 ps : Array Tmp
 assign : Code
 body : Code
inductive KK where
 | int (k : IntKind)
 | str
 | two (e : TypeId) (k : IntKind)
 deriving DecidableEq
inductive DK where
 | i (n : Int)
 | s (l : List UInt8)
 | p (a b : Int)
def KK.td : KK → TypeDesc
 | .int k => .int k
 | .str => .string
 | .two e _ => .array 2 e
def KK.has : KK → DK → Bool
 | .int _, .i _ => true
 | .str, .s _ => true
 | .two _ k, .p a b => (decide (k.min ≤ a) && decide (a ≤ k.max)) && (decide (k.min ≤ b) && decide (b ≤ k.max))
 | _, _ => false
def KK.val : KK → DK → Value
 | .int k, .i n => .int k n
 | .str, .s l => .string ⟨⟨l⟩⟩
 | .two _ k, .p a b => .agg #[.int k a, .int k b]
 | _, _ => .bool false
def ayV (P : Program) (kt : TypeId) : Option KK := match P.underlying kt with
 | some (.int k) => some (.int k)
 | some .string => some .str
 | some (.array n e) => match P.underlying e with
  | some (.int k) => match (Nat.beq n 2 && Nat.beq (P.cellsOf e) 1) && (Nat.beq (P.cellsOf kt) 2 && Nat.ble 1 P.types.size) with
   | true => some (.two e k)
   | false => none
  | _ => none
 | _ => none
def KK.ty : KK → Ty
 | .int k => .int k
 | .str => .str
 | .two _ k => .arr 2 (.int k)
def KK.dk : (k : KK) → k.ty.T → DK
 | .int _, n => .i n
 | .str, l => .s l
 | .two _ _, l => .p (List.headD (α := Int) l 0) (List.headD (α := Int) (List.tail (α := Int) l) 0)
def KK.kd : (k : KK) → DK → k.ty.T
 | .int _, .i n => n
 | .str, .s l => l
 | .two _ _, .p a b => ([a, b] : List Int)
 | k, _ => k.ty.dflt
theorem KK.dk_kd : ∀ {k : KK} {n : DK}, k.has n = true → k.dk (k.kd n) = n
 | .int _, .i _, _ => rfl
 | .str, .s _, _ => rfl
 | .two _ _, .p _ _, _ => rfl
 | .int _, .s _, h | .int _, .p _ _, h | .str, .i _, h | .str, .p _ _, h | .two _ _, .i _, h | .two _ _, .s _, h => by cases h
def aI0 (k : KK) (t : Ty) (l : List (k.ty.T × t.T)) : List (DK × AV) := l.map fun x => (k.dk x.1, .d t x.2)
inductive Bk where
 | vars (e : TypeId) (cells : List AV)
 | row (e : TypeId) (t : Ty) (l : List t.T)
 | loop (r : LoopA)
 /-- a map from integers, or from texts -/
 | dic (k : KK) (l : List (DK × AV))
 /-- a map whose entries are data -/
 | dicv (k : KK) (t : Ty) (l : List (k.ty.T × t.T))
 /-- a block of which nothing is known -/
 | any
def acT : List (Nat × AV) → Nat → AV
 | [], _ => .no
 | (k, v) :: r, t => match Nat.beq k t with | true => v | false => acT r t
abbrev Heap := List (Nat × Bk)
def Heap.keys (H : Heap) : List Nat := H.map (·.1)
structure Ctx where
 w0 : World
 okA : Nat → Prop
 lt : ∀ b, okA b → b < w0.heap.size
 /-- the size of memory when the activation began -/
 lo : Nat
 hlo : w0.heap.size ≤ lo
 /-- what is deferred below the marks of ranges over functions -/
 us : List Deferred := []
 /-- which marks there are, if this is known -/
 mks : Option (List Nat) := none
def Ok (C : Ctx) (ρ : Nat → Nat) (H : Heap) (w : World) (b : Nat) : Prop :=
 (C.okA b ∨ C.w0.heap.size ≤ b) ∧ b < w.heap.size ∧ ∀ k ∈ H.keys, ρ k ≠ b
mutual
inductive VR (C : Ctx) (ρ : Nat → Nat) (H : Heap) (w : World) : AV → Value → Prop where
 | d {t : Ty} {x : t.T} {v : Value} (h : RdV (Ok C ρ H w) w t x v) : VR C ρ H w (.d t x) v
 | ptr {k off : Nat} (h : k ∈ H.keys) : VR C ρ H w (.ptr k off) (.pointer (some ⟨ρ k, off, none⟩))
 | eptr {k i : Nat} {e : TypeId} {t : Ty} {l : List t.T} (h : (k, .row e t l) ∈ H) (hi : i < l.length) : VR C ρ H w (.eptr k i) (.pointer (some ⟨ρ k, i * t.size, none⟩))
 | efp {k i f o : Nat} {u : Ty} {e : TypeId} {t : Ty} {l : List t.T} (h : (k, .row e t l) ∈ H) (hi : i < l.length) (ho : aLe t f = some (o, u)) : VR C ρ H w (.efp k i f) (.pointer (some ⟨ρ k, i * t.size + o, none⟩))
 | dptr {t : Ty} {x : t.T} {b o : Nat} {c : Array Value} {e : TypeId} {fr : Nat × Nat} (hb : Ok C ρ H w b) (hc : w.heap[b]? = some (.cells c e fr))
   (ho : o + t.size ≤ c.size) (h : Rd (Ok C ρ H w) w t x ((c.toList.drop o).take t.size)) : VR C ρ H w (.dptr t x) (.pointer (some ⟨b, o, none⟩))
 | own {k off len : Nat} {e : TypeId} {t : Ty} {l : List t.T} {a : Option Addr} {cap : Nat} {c : Array Value} {fr : Nat × Nat} (h : (k, .row e t l) ∈ H) (hl : off + len ≤ l.length) (hc : len ≤ cap) (hm : cap ≤ maxLen)
   (hb : w.heap[ρ k]? = some (.cells c e fr)) (hs : (off + cap) * t.size = c.size) (ha : a = some ⟨ρ k, off * t.size, none⟩ ∨ cap = 0 ∧ off ≠ 0) : VR C ρ H w (.own k off len) (.slice a len cap)
 | ox {k off len : Nat} {e : TypeId} {t : Ty} {l : List t.T} {a : Option Addr} {c : Array Value} {fr : Nat × Nat} (h : (k, .row e t l) ∈ H) (hl : off + len ≤ l.length) (hm : len ≤ maxLen)
   (hb : w.heap[ρ k]? = some (.cells c e fr)) (hs : (off + len) * t.size = c.size) (ha : a = some ⟨ρ k, off * t.size, none⟩ ∨ len = 0 ∧ off ≠ 0) : VR C ρ H w (.ox k off len) (.slice a len len)
 | sv {k o n cap : Nat} (h : k ∈ H.keys) (hn : n ≤ lim) (hc : n ≤ cap) : VR C ρ H w (.sv k o n cap) (.slice (some ⟨ρ k, o, none⟩) n cap)
 | nsl : VR C ρ H w .nsl (.slice none 0 0)
 | nilp : VR C ρ H w .nilp (.pointer none)
 | nili : VR C ρ H w .nili .nilIface
 | nni {t : TypeId} {p : Value} : VR C ρ H w .nni (.iface t p)
 | ifc {k : TypeId} {t : Ty} {x : t.T} {v : Value} (h : RdV (Ok C ρ H w) w t x v) : VR C ρ H w (.ifc k t x) (.iface k v)
 | fn {f : FuncId} {first caps : List AV} {vf vc : List Value} (h1 : VRs C ρ H w first vf) (h2 : VRs C ρ H w caps vc) : VR C ρ H w (.fn f first caps) (.func (.func f) ⟨vf⟩ ⟨vc⟩)
 | yld {l : Nat} (h : l ∈ H.keys) : VR C ρ H w (.yld l) (.func (.yield (ρ l)) #[] #[])
 | mp {k : Nat} (h : k ∈ H.keys) : VR C ρ H w (.mp k) (.map (some (ρ k)))
 | ag {cells : List AV} {vs : List Value} (h : VRs C ρ H w cells vs) (h1 : ∀ v ∈ vs, v.oneCell' = true) : VR C ρ H w (.ag cells) (.agg ⟨vs⟩)
 | tup {l : List AV} {vs : List Value} (h : VRs C ρ H w l vs) : VR C ρ H w (.tup l) (.tuple ⟨vs⟩)
 | und : VR C ρ H w .und undef
 | no {v : Value} : VR C ρ H w .no v
inductive VRs (C : Ctx) (ρ : Nat → Nat) (H : Heap) (w : World) : List AV → List Value → Prop where
 | nil : VRs C ρ H w [] []
 | cons {a : AV} {v : Value} {as : List AV} {vs : List Value} (h : VR C ρ H w a v) (hs : VRs C ρ H w as vs) : VRs C ρ H w (a :: as) (v :: vs)
end
def AV.soft : AV → AV
 | .ox k off len => .own k off len
 | a => a
theorem VR.soft {C : Ctx} {ρ : Nat → Nat} {H : Heap} {w : World} {a : AV} {v : Value} (h : VR C ρ H w a v) : VR C ρ H w a.soft v := by
 cases h with
 | ox h hl hm hb hs ha => exact .own h hl (zj _) hm hb hs ha
 | _ => constructor <;> assumption
def aBt (k : KK) (n : DK) (v : Value) : Prop := k.has n = true ∧ v = k.val n
def MapR (R : AV → Value → Prop) (k : KK) : List (DK × AV) → List MapEntry → Prop
 | [], [] => True
 | x :: l, e :: es => aBt k x.1 e.key ∧ R x.2 e.val ∧ MapR R k l es
 | _, _ => False
def BkR (C : Ctx) (ρ : Nat → Nat) (H : Heap) (w : World) (b : Nat) : Bk → Prop
 | .vars e cells => ∃ c, w.heap[b]? = some (.cells c e (0, 0)) ∧ VRs C ρ H w cells c.toList ∧ ∀ v ∈ c.toList, v.oneCell' = true
 | .row e t l => ∃ c, w.heap[b]? = some (.cells c e (0, 0)) ∧ l.length * t.size ≤ c.size ∧ l.length ≤ lim ∧ RdL (Rd (Ok C ρ H w) w t) l (c.toList.take (l.length * t.size)) ∧ ∀ v ∈ c.toList, v.oneCell' = true
 | .loop r => ∃ fn tmps d, w.heap[b]? = some (.loop { state := r.st, pending := r.pend, fn := fn, tmps := tmps, params := r.ps, assign := r.assign, body := r.body, defers := d }) ∧ tmps.size = r.n ∧
   ∀ t, VR C ρ H w (acT r.slots t) (tmps.getD t undef)
 | .dic k l => ∃ es n, w.heap[b]? = some (.map es n) ∧ MapR (VR C ρ H w) k l es.toList
 | .dicv k t l => ∃ es n, w.heap[b]? = some (.map es n) ∧ MapR (VR C ρ H w) k (aI0 k t l) es.toList
 | .any => ∃ o, w.heap[b]? = some o
open Go Go.RowKit
mutual
/-- Keep the references to blocks of which p holds; what becomes of the others: a slice 'f', else nothing is known. -/
def AV.map (p : Nat → Bool) (f : Nat → Nat → Nat → AV) : AV → AV
 | .ptr k off => match p k with | true => .ptr k off | false => .no
 | .eptr k i => match p k with | true => .eptr k i | false => .no
 | .efp k i g => match p k with | true => .efp k i g | false => .no
 | .own k off len => match p k with | true => .own k off len | false => f k off len
 | .ox k off len => match p k with | true => .ox k off len | false => f k off len
 | .sv k o n c => match p k with | true => .sv k o n c | false => .no
 | .fn g first caps => .fn g (AV.maps p f first) (AV.maps p f caps)
 | .yld l => match p l with | true => .yld l | false => .no
 | .mp k => match p k with | true => .mp k | false => .no
 | .ag cells => .ag (AV.maps p f cells)
 | .tup l => .tup (AV.maps p f l)
 | .d t x => .d t x
 | .dptr t x => .dptr t x
 | .nsl => .nsl
 | .nilp => .nilp
 | .nili => .nili
 | .nni => .nni
 | .ifc k t x => .ifc k t x
 | .und => .und
 | .no => .no
def AV.maps (p : Nat → Bool) (f : Nat → Nat → Nat → AV) : List AV → List AV
 | [] => []
 | a :: as => a.map p f :: AV.maps p f as
end
theorem VR.mapC {C : Ctx} {ρ ρ' : Nat → Nat} {H H' : Heap} {w w' : World} {p : Nat → Bool} {f : Nat → Nat → Nat → AV}
  (hd : ∀ b c e fr, Ok C ρ H w b → w.heap[b]? = some (.cells c e fr) → Ok C ρ' H' w' b ∧ w'.heap[b]? = w.heap[b]?)
  (hk : ∀ k ∈ H.keys, p k = true → k ∈ H'.keys ∧ ρ' k = ρ k)
  (hr : ∀ k e t l, (k, Bk.row e t l) ∈ H → p k = true → ∃ l', (k, Bk.row e t l') ∈ H' ∧ l.length ≤ l'.length ∧
   ∀ c fr, w.heap[ρ k]? = some (.cells c e fr) → ∃ c' fr', w'.heap[ρ k]? = some (.cells c' e fr') ∧ c.size = c'.size)
  (hf : ∀ k off len v, p k = false → VR C ρ H w (.own k off len) v → VR C ρ' H' w' (f k off len) v)
  {x : AV} {v : Value} (h : VR C ρ H w x v) : VR C ρ' H' w' (x.map p f) v := by
 refine VR.rec (motive_1 := fun x v _ => VR C ρ' H' w' (x.map p f) v) (motive_2 := fun xs vs _ => VRs C ρ' H' w' (AV.maps p f xs) vs)
  ?_ ?_ ?_ ?_ ?_ ?_ ?_ ?_ ?_ ?_ ?_ ?_ ?_ ?_ ?_ ?_ ?_ ?_ ?_ ?_ ?_ ?_ h
 ·intro t x v h; exact .d (RdV.monoC hd h)
 ·intro k off h
  simp only [AV.map]
  cases hp : p k
  ·exact .no
  ·obtain ⟨h1, h2⟩ := hk k h hp; rw [← h2]; exact .ptr h1
 ·intro k i e t l h hi
  simp only [AV.map]
  have hkk : k ∈ H.keys := zH.2 ⟨_, h, rfl⟩
  cases hp : p k
  ·exact .no
  ·obtain ⟨l', h1, h2, _⟩ := hr k e t l h hp
   rw [← (hk k hkk hp).2]; exact .eptr h1 zb
 ·intro k i g o u e t l h hi ho
  simp only [AV.map]
  have hkk : k ∈ H.keys := zH.2 ⟨_, h, rfl⟩
  cases hp : p k
  ·exact .no
  ·obtain ⟨l', h1, h2, _⟩ := hr k e t l h hp
   rw [← (hk k hkk hp).2]; exact .efp h1 zb ho
 ·intro t x b o c e fr hb hc ho h
  exact .dptr (hd b c e fr hb hc).1 ((hd b c e fr hb hc).2.trans hc) ho (Rd.monoC hd _ _ _ h)
 ·intro k off len e t l a cap c fr h hl hc hm hb hs ha
  simp only [AV.map]
  have hkk : k ∈ H.keys := zH.2 ⟨_, h, rfl⟩
  cases hp : p k
  ·exact hf k off len _ hp (.own h hl hc hm hb hs ha)
  ·obtain ⟨l', h1, h2, h3⟩ := hr k e t l h hp
   obtain ⟨c', fr', hb', hs'⟩ := h3 c fr hb
   have he := (hk k hkk hp).2
   exact .own (c := c') (fr := fr') h1 zb hc hm (by rw [he]; exact hb') zb (by rw [he]; exact ha)
 ·intro k off len e t l a c fr h hl hm hb hs ha
  simp only [AV.map]
  have hkk : k ∈ H.keys := zH.2 ⟨_, h, rfl⟩
  cases hp : p k
  ·exact hf k off len _ hp (.own h hl (zj _) hm hb hs ha)
  ·obtain ⟨l', h1, h2, h3⟩ := hr k e t l h hp
   obtain ⟨c', fr', hb', hs'⟩ := h3 c fr hb
   have he := (hk k hkk hp).2
   exact .ox (c := c') (fr := fr') h1 zb hm (by rw [he]; exact hb') zb (by rw [he]; exact ha)
 ·intro k o n cap h hn hc
  simp only [AV.map]
  cases hp : p k
  ·exact .no
  ·obtain ⟨h1, h2⟩ := hk k h hp; rw [← h2]; exact .sv h1 hn hc
 ·exact .nsl
 ·exact .nilp
 ·exact .nili
 ·exact .nni
 ·intro k t x v h; exact .ifc (RdV.monoC hd h)
 ·intro g first caps vf vc _ _ h1 h2; exact .fn h1 h2
 ·intro l h
  simp only [AV.map]
  cases hp : p l
  ·exact .no
  ·obtain ⟨h1, h2⟩ := hk l h hp; rw [← h2]; exact .yld h1
 ·intro k h
  simp only [AV.map]
  cases hp : p k
  ·exact .no
  ·obtain ⟨h1, h2⟩ := hk k h hp; rw [← h2]; exact .mp h1
 ·intro cells vs _ h1 h; exact .ag h h1
 ·intro l vs _ h; exact .tup h
 ·exact .und
 ·intro v; exact .no
 ·exact .nil
 ·intro a v as vs _ _ h hs; exact .cons h hs
theorem VR.map {C : Ctx} {ρ ρ' : Nat → Nat} {H H' : Heap} {w w' : World} {p : Nat → Bool} {f : Nat → Nat → Nat → AV}
  (hd : ∀ b, Ok C ρ H w b → Ok C ρ' H' w' b ∧ w'.heap[b]? = w.heap[b]?)
  (hk : ∀ k ∈ H.keys, p k = true → k ∈ H'.keys ∧ ρ' k = ρ k)
  (hr : ∀ k e t l, (k, Bk.row e t l) ∈ H → p k = true → ∃ l', (k, Bk.row e t l') ∈ H' ∧ l.length ≤ l'.length ∧
   ∀ c fr, w.heap[ρ k]? = some (.cells c e fr) → ∃ c' fr', w'.heap[ρ k]? = some (.cells c' e fr') ∧ c.size = c'.size)
  (hf : ∀ k off len v, p k = false → VR C ρ H w (.own k off len) v → VR C ρ' H' w' (f k off len) v)
  {x : AV} {v : Value} (h : VR C ρ H w x v) : VR C ρ' H' w' (x.map p f) v := VR.mapC (fun b _ _ _ hb _ => hd b hb) hk hr hf h
theorem AV.map_true (f : Nat → Nat → Nat → AV) (x : AV) : x.map (fun _ => true) f = x := by
 refine AV.rec (motive_1 := fun x => x.map (fun _ => true) f = x) (motive_2 := fun xs => AV.maps (fun _ => true) f xs = xs) ?_ ?_ ?_ ?_ ?_ ?_ ?_ ?_ ?_ ?_ ?_ ?_ ?_ ?_ ?_ ?_ ?_ ?_ ?_ ?_ ?_ ?_ x <;>
  intros <;> simp_all [AV.map, AV.maps]
theorem VRs.map {C : Ctx} {ρ ρ' : Nat → Nat} {H H' : Heap} {w w' : World} {p : Nat → Bool} {f : Nat → Nat → Nat → AV}
  (h : ∀ x v, VR C ρ H w x v → VR C ρ' H' w' (x.map p f) v) : ∀ {xs : List AV} {vs : List Value}, VRs C ρ H w xs vs → VRs C ρ' H' w' (AV.maps p f xs) vs
 | _, _, .nil => .nil
 | _, _, .cons h1 h2 => .cons (h _ _ h1) (VRs.map h h2)
theorem VRs.imp {C : Ctx} {ρ ρ' : Nat → Nat} {H H' : Heap} {w w' : World}
  (h : ∀ x v, VR C ρ H w x v → VR C ρ' H' w' x v) : ∀ {xs : List AV} {vs : List Value}, VRs C ρ H w xs vs → VRs C ρ' H' w' xs vs
 | _, _, .nil => .nil
 | _, _, .cons h1 h2 => .cons (h _ _ h1) (VRs.imp h h2)
structure Fr (C : Ctx) (n : Nat) (ρ : Nat → Nat) (H : Heap) (w : World) (ρ' : Nat → Nat) (H' : Heap) (w' : World) : Prop where
 data : ∀ b, Ok C ρ H w b → Ok C ρ' H' w' b ∧ w'.heap[b]? = w.heap[b]?
 keys : ∀ k, k < n → k ∈ H'.keys → k ∈ H.keys ∧ ρ' k = ρ k
 rows : ∀ k e t l, k < n → (k, Bk.row e t l) ∈ H → k ∈ H'.keys → ∃ l', (k, Bk.row e t l') ∈ H' ∧ l.length ≤ l'.length ∧
   ∀ c fr, w.heap[ρ k]? = some (.cells c e fr) → ∃ c' fr', w'.heap[ρ k]? = some (.cells c' e fr') ∧ c.size = c'.size
 size : w.heap.size ≤ w'.heap.size
theorem Fr.refl (C : Ctx) (n : Nat) (ρ : Nat → Nat) (H : Heap) (w : World) : Fr C n ρ H w ρ H w :=
 ⟨fun _ h => ⟨h, rfl⟩, fun _ _ h => ⟨h, rfl⟩, fun _ _ _ l _ h _ => ⟨l, h, zj _, fun c fr h => ⟨c, fr, h, rfl⟩⟩, zj _⟩
theorem Fr.trans {C : Ctx} {n n' : Nat} {ρ ρ' ρ'' : Nat → Nat} {H H' H'' : Heap} {w w' w'' : World} (hn : n ≤ n')
  (h : Fr C n ρ H w ρ' H' w') (g : Fr C n' ρ' H' w' ρ'' H'' w'') : Fr C n ρ H w ρ'' H'' w'' := by
 refine ⟨fun b hb => ?_, fun k hk hm => ?_, fun k e t l hk hm hm'' => ?_, zt h.size g.size⟩
 ·obtain ⟨h1, h2⟩ := h.data b hb
  obtain ⟨g1, g2⟩ := g.data b h1
  exact ⟨g1, g2.trans h2⟩
 ·obtain ⟨g1, g2⟩ := g.keys k zb hm
  obtain ⟨h1, h2⟩ := h.keys k hk g1
  exact ⟨h1, g2.trans h2⟩
 ·obtain ⟨g1, g2⟩ := g.keys k zb hm''
  obtain ⟨l', h1, h2, h3⟩ := h.rows k e t l hk hm g1
  obtain ⟨l'', g3, g4, g5⟩ := g.rows k e t l' zb h1 hm''
  refine ⟨l'', g3, by omega, fun c fr hc => ?_⟩
  obtain ⟨c', fr', hc', hs⟩ := h3 c fr hc
  rw [← (h.keys k hk g1).2] at hc' ⊢
  obtain ⟨c'', fr'', hc'', hs'⟩ := g5 c' fr' hc'
  exact ⟨c'', fr'', hc'', by omega⟩
structure St where
 slots : List (Nat × AV)
 H : Heap
 next : Nat
 n : Nat
def del : List (Nat × AV) → Nat → List (Nat × AV)
 | [], _ => []
 | (k, v) :: r, t => match Nat.beq k t with | true => del r t | false => (k, v) :: del r t
theorem ab6 {a b : Nat} (h : Nat.beq a b = false) : a ≠ b := fun e => by subst e; simp at h
theorem aaD {a b : Nat} (h : Nat.beq a b = true) : a = b := Nat.eq_of_beq_eq_true h
theorem arX {a b : Nat} (h : a ≠ b) : Nat.beq a b = false := by
 cases e : Nat.beq a b with
 | false => rfl
 | true => exact absurd (aaD e) h
theorem alH {l : List (Nat × AV)} {t u : Nat} (h : t ≠ u) : acT (del l t) u = acT l u := by
 induction l with
 | nil => rfl
 | cons x r ih =>
  obtain ⟨k, v⟩ := x
  simp only [del, acT]
  cases hb : Nat.beq k t with
  | true =>
   have : Nat.beq k u = false := by have := aaD hb; subst this; exact arX h
   simp only [this]; exact ih
  | false => simp only [acT]; rw [ih]
def St.put (σ : St) (dst : Option Nat) (v : AV) : St :=
 match dst with
 | none => σ
 | some t => match Nat.blt t σ.n with
  | true => { σ with slots := (t, v) :: del σ.slots t }
  | false => σ
structure MRel (C : Ctx) (ρ : Nat → Nat) (H : Heap) (next : Nat) (w : World) : Prop where
 below : Below C.w0.heap.size C.w0 w
 nodup : H.keys.Nodup
 lt : ∀ k ∈ H.keys, k < next
 inj : ∀ k ∈ H.keys, ∀ k' ∈ H.keys, ρ k = ρ k' → k = k'
 low : ∀ k ∈ H.keys, C.w0.heap.size ≤ ρ k
 mem : ∀ k b, (k, b) ∈ H → BkR C ρ H w (ρ k) b
def Dfs (C : Ctx) (ρ : Nat → Nat) (H : Heap) (w : World) (l : List Deferred) : Prop :=
 C.lo ≤ w.heap.size ∧ ∃ ds : List Nat, l = ds.map (fun d => { target := .collected d, args := #[] }) ++ C.us ∧ ds.Nodup ∧ (∀ d ∈ ds, (C.lo ≤ d ∧ ∀ k ∈ H.keys, ρ k ≠ d) ∧ w.heap[d]? = some (.deferred (some []))) ∧ ∀ x, C.mks = some x → ds = x
theorem Dfs.ok {C : Ctx} {ρ : Nat → Nat} {H : Heap} {w : World} {d : Nat} (h : C.lo ≤ d ∧ ∀ k ∈ H.keys, ρ k ≠ d) (hd : w.heap[d]? = some (.deferred (some []))) : Ok C ρ H w d :=
 ⟨Or.inr (zt C.hlo h.1), (yX.1 hd).1, h.2⟩
theorem Dfs.mono {C : Ctx} {ρ ρ' : Nat → Nat} {H H' : Heap} {w w' : World} {l : List Deferred} (hd : ∀ b, Ok C ρ H w b → Ok C ρ' H' w' b ∧ w'.heap[b]? = w.heap[b]?) (hsz : w.heap.size ≤ w'.heap.size) (h : Dfs C ρ H w l) : Dfs C ρ' H' w' l := by
 obtain ⟨h0, ds, h1, h2, h3, hmk⟩ := h
 refine ⟨zt h0 hsz, ds, h1, h2, fun d hm => ?_, hmk⟩
 obtain ⟨h4, h5⟩ := h3 d hm
 obtain ⟨h6, h7⟩ := hd d (Dfs.ok h4 h5)
 exact ⟨⟨h4.1, h6.2.2⟩, h7.trans h5⟩
theorem Dfs.nil {C : Ctx} {ρ : Nat → Nat} {H : Heap} {w : World} (h : C.lo ≤ w.heap.size) (hu : C.us = []) (hm : C.mks = none) : Dfs C ρ H w [] := ⟨h, [], by rw [hu]; rfl, xU, fun _ h => (by cases h), fun x hx => by rw [hm] at hx; cases hx⟩
structure SRel (C : Ctx) (ρ : Nat → Nat) (σ : St) (a : Act) (w : World) : Prop where
 m : MRel C ρ σ.H σ.next w
 slots : ∀ t, VR C ρ σ.H w (acT σ.slots t) (a.tmps.getD t undef)
 size : a.tmps.size = σ.n
 defers : Dfs C ρ σ.H w a.defers
theorem SRel.put {C : Ctx} {ρ : Nat → Nat} {σ : St} {a : Act} {w : World} {dst : Option Nat} {x : AV} {v : Value}
  (h : SRel C ρ σ a w) (hv : VR C ρ σ.H w x v) : SRel C ρ (σ.put dst x) (a.put dst v) w := by
 cases dst with
 | none => exact h
 | some t =>
  simp only [St.put, Act.put]
  cases hb : Nat.blt t σ.n with
  | false =>
   have hge : σ.n ≤ t := by
    have : ¬ t < σ.n := fun hlt => by simp [Nat.blt, xw hlt] at hb
    omega
   have : a.tmps.setIfInBounds t v = a.tmps := by
    rw [Array.setIfInBounds, dif_neg (by rw [h.size]; omega)]
   simp only [this]
   exact h
  | true =>
   have hlt : t < σ.n := Nat.le_of_ble_eq_true hb
   refine ⟨h.m, fun u => ?_, by simp [h.size], h.defers⟩
   simp only [acT]
   cases hu : Nat.beq t u with
   | true =>
    have := aaD hu; subst this
    simp only
    rw [show (a.tmps.setIfInBounds t v).getD t undef = v by
     simp [Array.getD, h.size, hlt]]
    exact hv
   | false =>
    have hne := ab6 hu
    simp only
    rw [alH hne]
    rw [show (a.tmps.setIfInBounds t v).getD u undef = a.tmps.getD u undef by
     simp only [zo]; rw [yH hne]]
    exact h.slots u
theorem SRel.frame {C : Ctx} {ρ ρ' : Nat → Nat} {σ : St} {H' : Heap} {next' : Nat} {a : Act} {w w' : World}
  (h : SRel C ρ σ a w) (hm : MRel C ρ' H' next' w') (hf : Fr C σ.next ρ σ.H w ρ' H' w') (hk : ∀ k ∈ σ.H.keys, k ∈ H'.keys) :
  SRel C ρ' { σ with H := H', next := next' } a w' := by
 refine ⟨hm, fun t => ?_, h.size, h.defers.mono hf.data hf.size⟩
 have := VR.map (p := fun _ => true) (f := fun _ _ _ => .no) hf.data (fun k hkk _ => ⟨hk k hkk, (hf.keys k (h.m.lt k hkk) (hk k hkk)).2⟩)
  (fun k e t l hmem _ => hf.rows k e t l (h.m.lt k (zH.2 ⟨_, hmem, rfl⟩)) hmem (hk k (zH.2 ⟨_, hmem, rfl⟩))) (fun _ _ _ _ h => by cases h) (h.slots t)
 rw [AV.map_true] at this
 exact this
open Go Go.RowKit
structure Ext (C : Ctx) (ρ : Nat → Nat) (H : Heap) (w : World) (ρ' : Nat → Nat) (H' : Heap) (w' : World) : Prop where
 data : ∀ b, Ok C ρ H w b → Ok C ρ' H' w' b ∧ w'.heap[b]? = w.heap[b]?
 keys : ∀ k ∈ H.keys, k ∈ H'.keys ∧ ρ' k = ρ k
 rows : ∀ k e t l, (k, Bk.row e t l) ∈ H → ∃ l', (k, Bk.row e t l') ∈ H' ∧ l.length ≤ l'.length ∧
   ∀ c fr, w.heap[ρ k]? = some (.cells c e fr) → ∃ c' fr', w'.heap[ρ k]? = some (.cells c' e fr') ∧ c.size = c'.size
 size : w.heap.size ≤ w'.heap.size
theorem Ext.refl (C : Ctx) (ρ : Nat → Nat) (H : Heap) (w : World) : Ext C ρ H w ρ H w :=
 ⟨fun _ h => ⟨h, rfl⟩, fun _ h => ⟨h, rfl⟩, fun _ _ _ l h => ⟨l, h, zj _, fun c fr h => ⟨c, fr, h, rfl⟩⟩, zj _⟩
theorem Ext.vr {C : Ctx} {ρ ρ' : Nat → Nat} {H H' : Heap} {w w' : World} (h : Ext C ρ H w ρ' H' w') {x : AV} {v : Value}
  (hv : VR C ρ H w x v) : VR C ρ' H' w' x v := by
 have := VR.map (p := fun _ => true) (f := fun _ _ _ => .no) h.data (fun k hk _ => h.keys k hk) (fun k e t l hm _ => h.rows k e t l hm) (fun _ _ _ _ h => by cases h) hv
 rwa [AV.map_true] at this
theorem aaE {H : Heap} {k : Nat} {b : Bk} (h : (k, b) ∈ H) : k ∈ H.keys := zH.2 ⟨_, h, rfl⟩
theorem Ext.trans {C : Ctx} {ρ ρ' ρ'' : Nat → Nat} {H H' H'' : Heap} {w w' w'' : World}
  (h : Ext C ρ H w ρ' H' w') (g : Ext C ρ' H' w' ρ'' H'' w'') : Ext C ρ H w ρ'' H'' w'' := by
 refine ⟨fun b hb => ?_, fun k hk => ?_, fun k e t l hm => ?_, zt h.size g.size⟩
 ·obtain ⟨h1, h2⟩ := h.data b hb
  obtain ⟨g1, g2⟩ := g.data b h1
  exact ⟨g1, g2.trans h2⟩
 ·obtain ⟨h1, h2⟩ := h.keys k hk
  obtain ⟨g1, g2⟩ := g.keys k h1
  exact ⟨g1, g2.trans h2⟩
 ·obtain ⟨l', h1, h2, h3⟩ := h.rows k e t l hm
  obtain ⟨l'', g1, g2, g3⟩ := g.rows k e t l' h1
  refine ⟨l'', g1, by omega, fun c fr hc => ?_⟩
  obtain ⟨c', fr', hc', hs⟩ := h3 c fr hc
  have hk := (h.keys k (aaE hm)).2
  rw [← hk] at hc'
  obtain ⟨c'', fr'', hc'', hs'⟩ := g3 c' fr' hc'
  exact ⟨c'', fr'', by rw [← hk]; exact hc'', by omega⟩
theorem Ext.fr {C : Ctx} {n : Nat} {ρ ρ' : Nat → Nat} {H H' : Heap} {w w' : World} (h : Ext C ρ H w ρ' H' w')
  (hn : ∀ k, k < n → k ∈ H'.keys → k ∈ H.keys) : Fr C n ρ H w ρ' H' w' :=
 ⟨h.data, fun k hk hm => ⟨hn k hk hm, (h.keys k (hn k hk hm)).2⟩, fun k e t l _ hm _ => h.rows k e t l hm, h.size⟩
theorem MapR.imp {R R' : AV → Value → Prop} {k : KK} (h : ∀ x v, R x v → R' x v) : ∀ {l : List (DK × AV)} {es : List MapEntry}, MapR R k l es → MapR R' k l es
 | [], [], _ => trivial
 | _ :: _, _ :: _, ⟨h1, h2, h3⟩ => ⟨h1, h _ _ h2, MapR.imp h h3⟩
 | [], _ :: _, h => h.elim
 | _ :: _, [], h => h.elim
theorem BkR.ext {C : Ctx} {ρ ρ' : Nat → Nat} {H H' : Heap} {w w' : World} {b b' : Nat} {x : Bk} (h : Ext C ρ H w ρ' H' w')
  (hb : w'.heap[b']? = w.heap[b]?) (hx : BkR C ρ H w b x) : BkR C ρ' H' w' b' x := by
 cases x with
 | vars e cells =>
  obtain ⟨c, h1, h2, h3⟩ := hx
  exact ⟨c, hb.trans h1, h2.imp (fun _ _ => h.vr), h3⟩
 | row e t l =>
  obtain ⟨c, h1, h2, h3, h4, h5⟩ := hx
  exact ⟨c, hb.trans h1, h2, h3, RdL.mono (fun x cs => Rd.mono h.data t x cs) _ _ h4, h5⟩
 | loop r =>
  obtain ⟨fn, tmps, d, h1, h2, h3⟩ := hx
  exact ⟨fn, tmps, d, hb.trans h1, h2, fun t => h.vr (h3 t)⟩
 | dic k l => obtain ⟨es, n, h1, h2⟩ := hx; exact ⟨es, n, hb.trans h1, h2.imp (fun _ _ => h.vr)⟩
 | dicv k t l => obtain ⟨es, n, h1, h2⟩ := hx; exact ⟨es, n, hb.trans h1, h2.imp (fun _ _ => h.vr)⟩
 | any => obtain ⟨o, h1⟩ := hx; exact ⟨o, hb.trans h1⟩
theorem BkR.block {C : Ctx} {ρ : Nat → Nat} {H : Heap} {w : World} {b : Nat} {x : Bk} (h : BkR C ρ H w b x) :
  ∃ o, w.heap[b]? = some o := by
 cases x with
 | vars e cells => obtain ⟨c, h1, _⟩ := h; exact ⟨_, h1⟩
 | row e t l => obtain ⟨c, h1, _⟩ := h; exact ⟨_, h1⟩
 | loop r => obtain ⟨fn, tmps, d, h1, _⟩ := h; exact ⟨_, h1⟩
 | dic k l => obtain ⟨es, n, h1, _⟩ := h; exact ⟨_, h1⟩
 | dicv k t l => obtain ⟨es, n, h1, _⟩ := h; exact ⟨_, h1⟩
 | any => exact h
theorem ac1 {w : World} {b : Nat} {o : Obj} (h : w.heap[b]? = some o) : b < w.heap.size := (yX.1 h).1
theorem MRel.key_lt {C : Ctx} {ρ : Nat → Nat} {H : Heap} {next : Nat} {w : World} (hm : MRel C ρ H next w) {k : Nat} (hk : k ∈ H.keys) : ρ k < w.heap.size := by
 obtain ⟨⟨k', b⟩, hb, e⟩ := zH.1 hk
 subst e
 obtain ⟨o, h⟩ := (hm.mem k' b hb).block
 exact ac1 h
def upd (ρ : Nat → Nat) (K b : Nat) : Nat → Nat := fun k => match Nat.beq k K with | true => b | false => ρ k
theorem aaZ (ρ : Nat → Nat) (K b : Nat) : upd ρ K b K = b := by simp [upd]
theorem adH (ρ : Nat → Nat) {K b k : Nat} (h : k ≠ K) : upd ρ K b k = ρ k := by simp [upd, arX h]
theorem MRel.allocO {C : Ctx} {ρ : Nat → Nat} {H : Heap} {next : Nat} {w : World} {K : Nat} {ob : Obj} {blk : Bk}
  (hm : MRel C ρ H next w) (hK : K ∉ H.keys) (hlt : K < next)
  (hb : ∀ (ρ' : Nat → Nat) (H' : Heap) (w' : World), Ext C ρ H w ρ' H' w' → w'.heap[w.heap.size]? = some ob → BkR C ρ' H' w' w.heap.size blk) :
  MRel C (upd ρ K w.heap.size) ((K, blk) :: H) next (w.alloc ob) ∧
   Ext C ρ H w (upd ρ K w.heap.size) ((K, blk) :: H) (w.alloc ob) := by
 have hne : ∀ k ∈ H.keys, k ≠ K := fun k hk e => hK (e ▸ hk)
 have hn0 : C.w0.heap.size ≤ w.heap.size := hm.below.size
 have hext : Ext C ρ H w (upd ρ K w.heap.size) ((K, blk) :: H) (w.alloc ob) := by
  refine ⟨fun b hb => ?_, fun k hk => ⟨zu _ hk, adH _ (hne k hk)⟩, fun k e' t l hmem => ⟨l, zu _ hmem, zj _, fun c' fr hc => ⟨c', fr, ?_, rfl⟩⟩, by simp⟩
  ·obtain ⟨h1, h2, h3⟩ := hb
   refine ⟨⟨h1, by simp; omega, fun k hk => ?_⟩, Below.heap_alloc _ _ _ h2⟩
   rcases zq.1 hk with rfl | hk
   ·simp only [aaZ]; omega
   ·have hk' : k ∈ H.keys := hk
    rw [adH _ (hne k hk')]; exact h3 k hk'
  ·rw [Below.heap_alloc _ _ _ (ac1 hc)]; exact hc
 refine ⟨⟨hm.below.alloc hn0 _, ?_, ?_, ?_, ?_, ?_⟩, hext⟩
 ·exact yA.2 ⟨hK, hm.nodup⟩
 ·intro k hk
  rcases zq.1 hk with rfl | hk
  ·exact hlt
  ·exact hm.lt k hk
 ·intro k hk k' hk' heq
  rcases zq.1 hk with rfl | hk1 <;> rcases zq.1 hk' with rfl | hk1'
  ·rfl
  ·have hk2 : k' ∈ H.keys := hk1'
   simp only [aaZ, adH _ (hne k' hk2)] at heq
   have := hm.key_lt hk2; omega
  ·have hk2 : k ∈ H.keys := hk1
   simp only [aaZ, adH _ (hne k hk2)] at heq
   have := hm.key_lt hk2; omega
  ·have hk2 : k ∈ H.keys := hk1
   have hk3 : k' ∈ H.keys := hk1'
   rw [adH _ (hne k hk2), adH _ (hne k' hk3)] at heq
   exact hm.inj k hk2 k' hk3 heq
 ·intro k hk
  rcases zq.1 hk with rfl | hk
  ·simp only [aaZ]; exact hn0
  ·have hk2 : k ∈ H.keys := hk
   rw [adH _ (hne k hk2)]; exact hm.low k hk2
 ·intro k b hkb
  rcases zq.1 hkb with heq | hkb
  ·injection heq with h1 h2; subst h1; subst h2
   simp only [aaZ]
   exact hb _ _ _ hext (by show (w.heap.push _)[w.heap.size]? = _; simp)
  ·have hk2 := aaE hkb
   rw [adH _ (hne k hk2)]
   exact (hm.mem k b hkb).ext hext (Below.heap_alloc _ _ _ (hm.key_lt hk2))
theorem MRel.alloc {C : Ctx} {ρ : Nat → Nat} {H : Heap} {next : Nat} {w : World} {K : Nat} {c : Array Value} {e : TypeId} {blk : Bk}
  (hm : MRel C ρ H next w) (hK : K ∉ H.keys) (hlt : K < next)
  (hb : ∀ (ρ' : Nat → Nat) (H' : Heap) (w' : World), Ext C ρ H w ρ' H' w' → w'.heap[w.heap.size]? = some (.cells c e (0, 0)) → BkR C ρ' H' w' w.heap.size blk) :
  MRel C (upd ρ K w.heap.size) ((K, blk) :: H) next (w.alloc (.cells c e)) ∧
   Ext C ρ H w (upd ρ K w.heap.size) ((K, blk) :: H) (w.alloc (.cells c e)) := hm.allocO hK hlt hb
def Heap.up : Heap → Nat → Bk → Heap
 | [], _, _ => []
 | (j, x) :: r, k, b => match Nat.beq j k with | true => (j, b) :: r | false => (j, x) :: Heap.up r k b
theorem Heap.keys_up (H : Heap) (k : Nat) (b : Bk) : (H.up k b).keys = H.keys := by
 induction H with
 | nil => rfl
 | cons x r ih =>
  obtain ⟨j, y⟩ := x
  simp only [Heap.up]
  cases Nat.beq j k with
  | true => rfl
  | false => simp only [Heap.keys, List.map_cons] at ih ⊢; rw [ih]
theorem Heap.mem_up_same {H : Heap} {k : Nat} {b : Bk} (h : k ∈ H.keys) : (k, b) ∈ H.up k b := by
 induction H with
 | nil => simp [Heap.keys] at h
 | cons x r ih =>
  obtain ⟨j, y⟩ := x
  simp only [Heap.up]
  cases hb : Nat.beq j k with
  | true => have := aaD hb; subst this; exact zG
  | false =>
   have hne := ab6 hb
   rcases zq.1 h with e | h
   ·exact absurd e.symm hne
   ·exact zu _ (ih h)
theorem Heap.mem_up_ne {H : Heap} {k j : Nat} {b x : Bk} (hne : j ≠ k) : (j, x) ∈ H.up k b ↔ (j, x) ∈ H := by
 induction H with
 | nil => simp [Heap.up]
 | cons y r ih =>
  obtain ⟨i, z⟩ := y
  simp only [Heap.up]
  cases hb : Nat.beq i k with
  | true =>
   have := aaD hb; subst this
   simp [hne]
  | false => simp only [zq, ih]
theorem Heap.mem_up_eq {H : Heap} {k : Nat} {b x : Bk} (hn : H.keys.Nodup) (h : (k, x) ∈ H.up k b) : x = b := by
 induction H with
 | nil => simp [Heap.up] at h
 | cons y r ih =>
  obtain ⟨i, z⟩ := y
  have hn' := yA.1 hn
  simp only [Heap.up] at h
  cases hb : Nat.beq i k with
  | true =>
   rw [hb] at h
   have := aaD hb; subst this
   rcases zq.1 h with e | h
   ·injection e
   ·exact absurd (aaE (H := r) h) hn'.1
  | false =>
   rw [hb] at h
   rcases zq.1 h with e | h
   ·injection e with e1 e2; exact absurd e1.symm (ab6 hb)
   ·exact ih hn'.2 h
theorem Heap.mem_unique {H : Heap} {k : Nat} {x y : Bk} (hn : H.keys.Nodup) (hx : (k, x) ∈ H) (hy : (k, y) ∈ H) : x = y := by
 induction H with
 | nil => simp at hx
 | cons z r ih =>
  obtain ⟨i, u⟩ := z
  have hn' := yA.1 hn
  rcases zq.1 hx with e | hx1 <;> rcases zq.1 hy with e' | hy1
  ·injection e with _ e2; injection e' with _ e4; rw [e2, e4]
  ·injection e with e1 _; subst e1; exact absurd (aaE (H := r) hy1) hn'.1
  ·injection e' with e1 _; subst e1; exact absurd (aaE (H := r) hx1) hn'.1
  ·exact ih hn'.2 hx1 hy1
theorem MRel.write {C : Ctx} {ρ : Nat → Nat} {H : Heap} {next : Nat} {w : World} {k : Nat} {ob nb : Bk} {c c' : Array Value} {e : TypeId}
  (hm : MRel C ρ H next w) (hk : (k, ob) ∈ H) (hc : w.heap[ρ k]? = some (.cells c e (0, 0))) (hs : c.size = c'.size)
  (hrow : ∀ e t l, ob = .row e t l → ∃ l', nb = .row e t l' ∧ l.length ≤ l'.length)
  (hb : ∀ (H' : Heap) (w' : World), Ext C ρ H w ρ H' w' → w'.heap[ρ k]? = some (.cells c' e (0, 0)) → BkR C ρ H' w' (ρ k) nb) :
  MRel C ρ (H.up k nb) next (w.setRow (ρ k) c') ∧ Ext C ρ H w ρ (H.up k nb) (w.setRow (ρ k) c') := by
 have hkk := aaE hk
 have hext : Ext C ρ H w ρ (H.up k nb) (w.setRow (ρ k) c') := by
  refine ⟨fun b hb => ?_, fun j hj => ⟨by rw [Heap.keys_up]; exact hj, rfl⟩, fun j e' t l hmem => ?_, by simp⟩
  ·obtain ⟨h1, h2, h3⟩ := hb
   exact ⟨⟨h1, by simpa using h2, fun j hj => h3 j (by rwa [Heap.keys_up] at hj)⟩, setRow_other _ _ _ _ (fun e => h3 k hkk e.symm)⟩
  ·by_cases hj : j = k
   ·subst hj
    have := Heap.mem_unique hm.nodup hk hmem
    obtain ⟨l', hl, hle⟩ := hrow e' t l this
    refine ⟨l', by rw [← hl]; exact Heap.mem_up_same hkk, hle, fun c1 fr1 h1 => ?_⟩
    rw [hc] at h1; injection h1 with h1; injection h1 with h1 h2 h3
    subst h1; subst h2; subst h3
    exact ⟨c', (0, 0), setRow_heap _ _ _ _ _ _ hc, hs⟩
   ·refine ⟨l, (Heap.mem_up_ne hj).2 hmem, zj _, fun c1 fr1 h1 => ⟨c1, fr1, ?_, rfl⟩⟩
    rw [setRow_other _ _ _ _ (fun e => hj (hm.inj j (aaE hmem) k hkk e))]; exact h1
 refine ⟨⟨?_, ?_, ?_, ?_, ?_, ?_⟩, hext⟩
 ·exact hm.below.trans ⟨rfl, rfl, rfl, by simp, fun i hi => setRow_other _ _ _ _ (fun e => by have := hm.low k hkk; omega)⟩
 ·rw [Heap.keys_up]; exact hm.nodup
 ·rw [Heap.keys_up]; exact hm.lt
 ·rw [Heap.keys_up]; exact hm.inj
 ·rw [Heap.keys_up]; exact hm.low
 ·intro j b hjb
  by_cases hj : j = k
  ·subst hj
   rw [Heap.mem_up_eq hm.nodup hjb]
   exact hb _ _ hext (setRow_heap _ _ _ _ _ _ hc)
  ·have hjb' := (Heap.mem_up_ne hj).1 hjb
   exact (hm.mem j b hjb').ext hext (setRow_other _ _ _ _ (fun e => hj (hm.inj j (aaE hjb') k hkk e)))
def aa1 (p : Nat → Bool) (f : Nat → Nat → Nat → AV) : List (Nat × AV) → List (Nat × AV)
 | [] => []
 | (t, v) :: r => (t, v.map p f) :: aa1 p f r
theorem amP (p : Nat → Bool) (f : Nat → Nat → Nat → AV) (l : List (Nat × AV)) (t : Nat) : acT (aa1 p f l) t = (acT l t).map p f := by
 induction l with
 | nil => rfl
 | cons x r ih =>
  obtain ⟨k, v⟩ := x
  simp only [aa1, acT]
  cases Nat.beq k t <;> simp [ih]
def LoopA.map (p : Nat → Bool) (f : Nat → Nat → Nat → AV) (r : LoopA) : LoopA := { r with slots := aa1 p f r.slots }
def aIb (p : Nat → Bool) (f : Nat → Nat → Nat → AV) : List (DK × AV) → List (DK × AV)
 | [] => []
 | (n, v) :: r => (n, v.map p f) :: aIb p f r
theorem MapR.map {R R' : AV → Value → Prop} {p : Nat → Bool} {f : Nat → Nat → Nat → AV} {k : KK} (h : ∀ x v, R x v → R' (x.map p f) v) : ∀ {l : List (DK × AV)} {es : List MapEntry}, MapR R k l es → MapR R' k (aIb p f l) es
 | [], [], _ => trivial
 | _ :: _, _ :: _, ⟨h1, h2, h3⟩ => ⟨h1, h _ _ h2, MapR.map h h3⟩
 | [], _ :: _, h => h.elim
 | _ :: _, [], h => h.elim
theorem MapR.impD {R R' : AV → Value → Prop} {k : KK} {t : Ty} (h : ∀ (x : t.T) v, R (.d t x) v → R' (.d t x) v) : ∀ {l : List (k.ty.T × t.T)} {es : List MapEntry}, MapR R k (aI0 k t l) es → MapR R' k (aI0 k t l) es
 | [], [], _ => trivial
 | _ :: _, _ :: _, ⟨h1, h2, h3⟩ => ⟨h1, h _ _ h2, MapR.impD h h3⟩
 | [], _ :: _, h => h.elim
 | _ :: _, [], h => h.elim
def Bk.map (p : Nat → Bool) (f : Nat → Nat → Nat → AV) : Bk → Bk
 | .vars e cells => .vars e (AV.maps p f cells)
 | .row e t l => .row e t l
 | .loop r => .loop (r.map p f)
 | .dic k l => .dic k (aIb p f l)
 | .dicv k t l => .dicv k t l
 | .any => .any
def Heap.keep (p : Nat → Bool) (f : Nat → Nat → Nat → AV) : Heap → Heap
 | [] => []
 | (k, b) :: r => match p k with | true => (k, b.map p f) :: Heap.keep p f r | false => Heap.keep p f r
theorem Heap.mem_keep {p : Nat → Bool} {f : Nat → Nat → Nat → AV} {H : Heap} {k : Nat} {b : Bk} :
  (k, b) ∈ H.keep p f ↔ p k = true ∧ ∃ b', (k, b') ∈ H ∧ b = b'.map p f := by
 induction H with
 | nil => simp [Heap.keep]
 | cons x r ih =>
  obtain ⟨j, y⟩ := x
  simp only [Heap.keep]
  cases hp : p j with
  | true =>
   simp only [zq, ih]
   constructor
   ·rintro (e | ⟨h1, b', h2, h3⟩)
    ·injection e with e1 e2; subst e1; exact ⟨hp, y, Or.inl rfl, e2⟩
    ·exact ⟨h1, b', Or.inr h2, h3⟩
   ·rintro ⟨h1, b', h2 | h2, h3⟩
    ·injection h2 with e1 e2; subst e1; subst e2; exact Or.inl (by rw [h3])
    ·exact Or.inr ⟨h1, b', h2, h3⟩
  | false =>
   simp only [ih, zq]
   constructor
   ·rintro ⟨h1, b', h2, h3⟩; exact ⟨h1, b', Or.inr h2, h3⟩
   ·rintro ⟨h1, b', h2 | h2, h3⟩
    ·injection h2 with e1 e2; subst e1; rw [hp] at h1; cases h1
    ·exact ⟨h1, b', h2, h3⟩
theorem Heap.keys_keep {p : Nat → Bool} {f : Nat → Nat → Nat → AV} {H : Heap} {k : Nat} :
  k ∈ (H.keep p f).keys ↔ p k = true ∧ k ∈ H.keys := by
 constructor
 ·intro h
  obtain ⟨⟨k', b⟩, hb, e⟩ := zH.1 h
  subst e
  obtain ⟨h1, b', h2, _⟩ := Heap.mem_keep.1 hb
  exact ⟨h1, aaE h2⟩
 ·rintro ⟨h1, h2⟩
  obtain ⟨⟨k', b⟩, hb, e⟩ := zH.1 h2
  subst e
  exact aaE (Heap.mem_keep.2 ⟨h1, b, hb, rfl⟩)
theorem Heap.nodup_keep {p : Nat → Bool} {f : Nat → Nat → Nat → AV} {H : Heap} (h : H.keys.Nodup) : (H.keep p f).keys.Nodup := by
 induction H with
 | nil => simp [Heap.keep, Heap.keys]
 | cons x r ih =>
  obtain ⟨j, y⟩ := x
  have h' := yA.1 h
  simp only [Heap.keep]
  cases hp : p j with
  | true => exact yA.2 ⟨fun hm => h'.1 (Heap.keys_keep.1 hm).2, ih h'.2⟩
  | false => exact ih h'.2
theorem BkR.mapC {C : Ctx} {ρ ρ' : Nat → Nat} {H H' : Heap} {w w' : World} {p : Nat → Bool} {f : Nat → Nat → Nat → AV} {b b' : Nat} {x : Bk}
  (hd : ∀ b c e fr, Ok C ρ H w b → w.heap[b]? = some (.cells c e fr) → Ok C ρ' H' w' b ∧ w'.heap[b]? = w.heap[b]?)
  (hv : ∀ x v, VR C ρ H w x v → VR C ρ' H' w' (x.map p f) v)
  (hb : w'.heap[b']? = w.heap[b]?) (hx : BkR C ρ H w b x) : BkR C ρ' H' w' b' (x.map p f) := by
 cases x with
 | vars e cells =>
  obtain ⟨c, h1, h2, h3⟩ := hx
  exact ⟨c, hb.trans h1, VRs.map hv h2, h3⟩
 | row e t l =>
  obtain ⟨c, h1, h2, h3, h4, h5⟩ := hx
  exact ⟨c, hb.trans h1, h2, h3, RdL.mono (fun x cs => Rd.monoC hd t x cs) _ _ h4, h5⟩
 | loop r =>
  obtain ⟨fn, tmps, d, h1, h2, h3⟩ := hx
  exact ⟨fn, tmps, d, hb.trans h1, h2, fun t => by simp only [LoopA.map, amP]; exact hv _ _ (h3 t)⟩
 | dic k l => obtain ⟨es, n, h1, h2⟩ := hx; exact ⟨es, n, hb.trans h1, h2.map hv⟩
 | dicv k t l => obtain ⟨es, n, h1, h2⟩ := hx; exact ⟨es, n, hb.trans h1, h2.impD fun x => hv (.d t x)⟩
 | any => obtain ⟨o, h1⟩ := hx; exact ⟨o, hb.trans h1⟩
theorem BkR.map {C : Ctx} {ρ ρ' : Nat → Nat} {H H' : Heap} {w w' : World} {p : Nat → Bool} {f : Nat → Nat → Nat → AV} {b b' : Nat} {x : Bk}
  (hd : ∀ b, Ok C ρ H w b → Ok C ρ' H' w' b ∧ w'.heap[b]? = w.heap[b]?)
  (hv : ∀ x v, VR C ρ H w x v → VR C ρ' H' w' (x.map p f) v)
  (hb : w'.heap[b']? = w.heap[b]?) (hx : BkR C ρ H w b x) : BkR C ρ' H' w' b' (x.map p f) := BkR.mapC (fun b _ _ _ h _ => hd b h) hv hb hx
theorem RdL.take_drop {α : Type} {R : α → List Value → Prop} {n : Nat} (hn : ∀ x cs, R x cs → cs.length = n) :
  ∀ (l : List α) (cs : List Value) (a b : Nat), RdL R l cs → RdL R ((l.drop a).take b) ((cs.drop (a * n)).take (b * n)) := by
 have ht : ∀ (l : List α) (cs : List Value) (b : Nat), RdL R l cs → RdL R (l.take b) (cs.take (b * n)) := by
  intro l
  induction l with
  | nil => intro cs b h; simp [RdL] at h; subst h; simp [RdL]
  | cons x xs ih =>
   intro cs b h
   obtain ⟨c1, c2, e, h1, h2⟩ := h
   cases b with
   | zero => simp [RdL]
   | succ b =>
    refine ⟨c1, c2.take (b * n), ?_, h1, ih _ _ h2⟩
    rw [e, we, hn _ _ h1, zV, zr (by rw [hn _ _ h1]; omega)]
    congr 2; omega
 have hdr : ∀ (l : List α) (cs : List Value) (a : Nat), RdL R l cs → RdL R (l.drop a) (cs.drop (a * n)) := by
  intro l
  induction l with
  | nil => intro cs a h; simp [RdL] at h; subst h; simp [RdL]
  | cons x xs ih =>
   intro cs a h
   cases a with
   | zero => simpa using h
   | succ a =>
    obtain ⟨c1, c2, e, h1, h2⟩ := h
    have := ih c2 a h2
    rw [List.drop_succ_cons]
    have h0 : c1.drop ((a + 1) * n) = [] := yx (by rw [hn _ _ h1, zV]; omega)
    rw [e, wI, hn _ _ h1, h0, xb]
    rw [show (a + 1) * n - n = a * n by rw [zV]; omega]
    exact this
 intro l cs a b h
 exact ht _ _ _ (hdr _ _ _ h)
theorem RdL.first {α : Type} {R : α → List Value → Prop} {sz n c : Nat} (hn : ∀ x cs, R x cs → cs.length = sz) {l : List α} {cs : List Value} (hl : l.length = c) (h : n ≤ c) (hr : RdL R l cs) :
  (l.take n).length = n ∧ n * sz ≤ cs.length ∧ RdL R (l.take n) (cs.take (n * sz)) := by
 have h1 := RdL.length hn l cs hr
 have h2 := RdL.take_drop hn l cs 0 n hr
 rw [yz, xV, yz] at h2
 exact ⟨by rw [zY, hl]; omega, by rw [h1, hl]; exact zC _ h, h2⟩
open Go Go.RowKit
def neK (k : Nat) : Nat → Bool := fun j => match Nat.beq j k with | true => false | false => true
theorem agL {k j : Nat} (h : neK k j = true) : j ≠ k := by
 unfold neK at h
 cases e : Nat.beq j k with
 | true => rw [e] at h; cases h
 | false => exact ab6 e
theorem aAd {k j : Nat} (h : neK k j = false) : j = k := by
 unfold neK at h
 cases e : Nat.beq j k with
 | true => exact aaD e
 | false => rw [e] at h; cases h
def aeG : Nat → Nat → Nat → AV := fun _ _ _ => .no
def adY (t : Ty) (l : List t.T) : Nat → Nat → Nat → AV := fun _ off len => .d (.sl t) ((l.drop off).take len)
theorem SRel.keepTo {C : Ctx} {ρ ρ' : Nat → Nat} {σ : St} {H' : Heap} {next' : Nat} {a : Act} {w w' : World} {p : Nat → Bool} {f : Nat → Nat → Nat → AV}
  (h : SRel C ρ σ a w) (hm : MRel C ρ' H' next' w') (hv : ∀ x v, VR C ρ σ.H w x v → VR C ρ' H' w' (x.map p f) v) (hd : ∀ b, Ok C ρ σ.H w b → Ok C ρ' H' w' b ∧ w'.heap[b]? = w.heap[b]?) (hsz : w.heap.size ≤ w'.heap.size) :
  SRel C ρ' { slots := aa1 p f σ.slots, H := H', next := next', n := σ.n } a w' :=
 ⟨hm, fun t => by rw [amP]; exact hv _ _ (h.slots t), h.size, h.defers.mono hd hsz⟩
theorem Ok.keep {C : Ctx} {ρ : Nat → Nat} {H : Heap} {w : World} {p : Nat → Bool} {f : Nat → Nat → Nat → AV} {b : Nat} (h : Ok C ρ H w b) : Ok C ρ (H.keep p f) w b :=
 ⟨h.1, h.2.1, fun k hk => h.2.2 k (Heap.keys_keep.1 hk).2⟩
theorem ab8 {α : Type} (c : List α) (N a b : Nat) (h : a + b ≤ N) : ((c.take N).drop a).take b = (c.drop a).take b := by
 rw [xJ, yP, yl zb]
theorem MRel.ownCells {C : Ctx} {ρ : Nat → Nat} {H : Heap} {next : Nat} {w : World} (hm : MRel C ρ H next w) {k off len : Nat} {e : TypeId} {t : Ty} {l : List t.T}
  (hk : (k, .row e t l) ∈ H) (hl : off + len ≤ l.length) : ∃ c, w.heap[ρ k]? = some (.cells c e (0, 0)) ∧ off * t.size + ((l.drop off).take len).length * t.size ≤ c.size ∧ ((l.drop off).take len).length = len ∧ len ≤ lim ∧
   RdL (Rd (Ok C ρ H w) w t) ((l.drop off).take len) ((c.toList.drop (off * t.size)).take (((l.drop off).take len).length * t.size)) := by
 obtain ⟨c, h1, h2, h3, h4, _⟩ := hm.mem k _ hk
 have hlen : ((l.drop off).take len).length = len := zg
 have hle : (off + len) * t.size ≤ l.length * t.size := zC _ hl
 rw [zX] at hle
 refine ⟨c, h1, by rw [hlen]; omega, hlen, by omega, ?_⟩
 have := RdL.take_drop (fun x cs => Rd.length t x cs) l _ off len h4
 rw [ab8 _ _ _ _ hle] at this
 rw [hlen]
 exact this
theorem MRel.thaw {C : Ctx} {ρ : Nat → Nat} {H : Heap} {next : Nat} {w : World} (hm : MRel C ρ H next w) {k : Nat} {e : TypeId} {t : Ty} {l : List t.T}
  (hk : (k, .row e t l) ∈ H) : MRel C ρ (H.keep (neK k) (adY t l)) next w ∧
   (∀ x v, VR C ρ H w x v → VR C ρ (H.keep (neK k) (adY t l)) w (x.map (neK k) (adY t l)) v) ∧
   ∀ n, Fr C n ρ H w ρ (H.keep (neK k) (adY t l)) w := by
 have hkk := aaE hk
 have hd : ∀ b, Ok C ρ H w b → Ok C ρ (H.keep (neK k) (adY t l)) w b ∧ w.heap[b]? = w.heap[b]? := fun b hb => ⟨hb.keep, rfl⟩
 have hokk : Ok C ρ (H.keep (neK k) (adY t l)) w (ρ k) :=
  ⟨Or.inr (hm.low k hkk), hm.key_lt hkk, fun j hj e => by
   obtain ⟨h1, h2⟩ := Heap.keys_keep.1 hj
   exact agL h1 (hm.inj j h2 k hkk e)⟩
 have hrows : ∀ j e' t' l', (j, Bk.row e' t' l') ∈ H → neK k j = true → (j, Bk.row e' t' l') ∈ H.keep (neK k) (adY t l) :=
  fun j e' t' l' hj hp => Heap.mem_keep.2 ⟨hp, _, hj, rfl⟩
 have hv : ∀ x v, VR C ρ H w x v → VR C ρ (H.keep (neK k) (adY t l)) w (x.map (neK k) (adY t l)) v := by
  intro x v hx
  refine VR.map hd (fun j hj hp => ⟨Heap.keys_keep.2 ⟨hp, hj⟩, rfl⟩) (fun j e' t' l' hj hp => ⟨l', hrows j e' t' l' hj hp, zj _, fun c fr h => ⟨c, fr, h, rfl⟩⟩) ?_ hx
  intro j off len v hp hov
  have := aAd hp
  subst this
  cases hov with
  | own h hl hc hmx hb hs ha =>
   have hu := Heap.mem_unique hm.nodup hk h
   injection hu with hu1 hu2 hu3
   subst hu1; subst hu2
   have hu3 := eq_of_heq hu3
   subst hu3
   obtain ⟨c, h1, h2, h3, h4, h5⟩ := hm.ownCells hk hl
   refine .d ⟨_, ⟨_, _, by rw [h3], by rw [h3]; exact hc, by rw [h3]; exact h4, ?_⟩, rfl⟩
   by_cases hnil : (l.drop off).take len = []
   ·exact Or.inl hnil
   ·have hpos : 0 < len := by
     rw [← h3]; exact zN.2 hnil
    have ha' := ha.resolve_right (fun h => by omega)
    exact Or.inr ⟨ρ j, off * t.size, c, e, (0, 0), ha', hokk, h1, h2, RdL.mono (fun x cs => Rd.mono hd t x cs) _ _ h5⟩
 refine ⟨⟨hm.below, Heap.nodup_keep hm.nodup, fun j hj => hm.lt j (Heap.keys_keep.1 hj).2, fun j hj j' hj' => hm.inj j (Heap.keys_keep.1 hj).2 j' (Heap.keys_keep.1 hj').2,
  fun j hj => hm.low j (Heap.keys_keep.1 hj).2, fun j b hj => ?_⟩, hv, fun n => ⟨hd, fun j _ hj => ⟨(Heap.keys_keep.1 hj).2, rfl⟩, fun j e' t' l' _ hj hj' => ⟨l', hrows j e' t' l' hj (Heap.keys_keep.1 hj').1, zj _, fun c fr h => ⟨c, fr, h, rfl⟩⟩, zj _⟩⟩
 obtain ⟨_, b', hb', e'⟩ := Heap.mem_keep.1 hj
 subst e'
 exact (hm.mem j b' hb').map hd hv rfl
theorem MRel.swap {C : Ctx} {ρ : Nat → Nat} {H : Heap} {next : Nat} {w w' : World} (hm : MRel C ρ H next w) {k K B : Nat} {e : TypeId} {t : Ty} {l l' : List t.T}
  (hk : (k, .row e t l) ∈ H) (hK : K ∉ H.keys) (hlt : K < next) (hB : B = ρ k ∨ w.heap.size ≤ B) (hg : w.grownBy w' (some (ρ k)))
  (hb : ∀ (ρ' : Nat → Nat) (H' : Heap), (∀ b, Ok C ρ H w b → Ok C ρ' H' w' b ∧ w'.heap[b]? = w.heap[b]?) → BkR C ρ' H' w' B (.row e t l')) :
  MRel C (upd ρ K B) ((K, .row e t l') :: H.keep (neK k) aeG) next w' ∧
   (∀ x v, VR C ρ H w x v → VR C (upd ρ K B) ((K, .row e t l') :: H.keep (neK k) aeG) w' (x.map (neK k) aeG) v) ∧
   ∀ n, n ≤ K → Fr C n ρ H w (upd ρ K B) ((K, .row e t l') :: H.keep (neK k) aeG) w' := by
 have hkk := aaE hk
 have hne : ∀ j ∈ H.keys, j ≠ K := fun j hj e => hK (e ▸ hj)
 have hlow := hm.low k hkk
 have hn0 : C.w0.heap.size ≤ w.heap.size := hm.below.size
 have hBlow : C.w0.heap.size ≤ B := by rcases hB with h | h <;> omega
 have hBne : ∀ j ∈ H.keys, j ≠ k → ρ j ≠ B := by
  intro j hj hjk e
  rcases hB with h | h
  ·exact hjk (hm.inj j hj k hkk (e.trans h))
  ·have := hm.key_lt hj; omega
 have hblk : ∀ j ∈ H.keys, j ≠ k → w'.heap[ρ j]? = w.heap[ρ j]? := fun j hj hjk =>
  hg.block _ (hm.key_lt hj) (fun e => by injection e with e; exact hjk (hm.inj j hj k hkk e))
 have hd : ∀ b, Ok C ρ H w b → Ok C (upd ρ K B) ((K, .row e t l') :: H.keep (neK k) aeG) w' b ∧ w'.heap[b]? = w.heap[b]? := by
  rintro b ⟨h1, h2, h3⟩
  refine ⟨⟨h1, zZ h2 hg.size, fun j hj => ?_⟩, hg.block _ h2 (fun e => by injection e with e; exact h3 k hkk e.symm)⟩
  rcases zq.1 hj with rfl | hj
  ·simp only [aaZ]
   rcases hB with h | h
   ·rw [h]; exact h3 k hkk
   ·omega
  ·obtain ⟨_, h5⟩ := Heap.keys_keep.1 hj
   rw [adH _ (hne j h5)]; exact h3 j h5
 have hrows : ∀ j e' t' l'', (j, Bk.row e' t' l'') ∈ H → neK k j = true → (j, Bk.row e' t' l'') ∈ ((K, Bk.row e t l') :: H.keep (neK k) aeG) :=
  fun j e' t' l'' hj hp => zu _ (Heap.mem_keep.2 ⟨hp, _, hj, rfl⟩)
 have hv : ∀ x v, VR C ρ H w x v → VR C (upd ρ K B) ((K, .row e t l') :: H.keep (neK k) aeG) w' (x.map (neK k) aeG) v := by
  intro x v hx
  refine VR.map hd (fun j hj hp => ⟨zu _ (Heap.keys_keep.2 ⟨hp, hj⟩), adH _ (hne j hj)⟩)
   (fun j e' t' l'' hj hp => ⟨l'', hrows j e' t' l'' hj hp, zj _, fun c fr h => ⟨c, fr, ?_, rfl⟩⟩) (fun _ _ _ _ _ _ => .no) hx
  rw [hblk j (aaE hj) (agL hp)]; exact h
 refine ⟨⟨?_, ?_, ?_, ?_, ?_, ?_⟩, hv, fun n hn => ⟨hd, fun j hjn hj => ?_, fun j e' t' l'' hjn hj hj' => ?_, hg.size⟩⟩
 ·exact hm.below.grown hg hn0 (fun j e => by injection e with e; omega)
 ·exact yA.2 ⟨fun h => hK (Heap.keys_keep.1 h).2, Heap.nodup_keep hm.nodup⟩
 ·intro j hj
  rcases zq.1 hj with rfl | hj
  ·exact hlt
  ·exact hm.lt j (Heap.keys_keep.1 hj).2
 ·intro j hj j' hj' heq
  rcases zq.1 hj with rfl | hj1 <;> rcases zq.1 hj' with rfl | hj1'
  ·rfl
  ·obtain ⟨h4, h5⟩ := Heap.keys_keep.1 hj1'
   simp only [aaZ, adH _ (hne j' h5)] at heq
   exact absurd heq.symm (hBne j' h5 (agL h4))
  ·obtain ⟨h4, h5⟩ := Heap.keys_keep.1 hj1
   simp only [aaZ, adH _ (hne j h5)] at heq
   exact absurd heq (hBne j h5 (agL h4))
  ·obtain ⟨_, h5⟩ := Heap.keys_keep.1 hj1
   obtain ⟨_, h7⟩ := Heap.keys_keep.1 hj1'
   rw [adH _ (hne j h5), adH _ (hne j' h7)] at heq
   exact hm.inj j h5 j' h7 heq
 ·intro j hj
  rcases zq.1 hj with rfl | hj
  ·simp only [aaZ]; exact hBlow
  ·obtain ⟨_, h5⟩ := Heap.keys_keep.1 hj
   rw [adH _ (hne j h5)]; exact hm.low j h5
 ·intro j b hj
  rcases zq.1 hj with heq | hj
  ·injection heq with h1 h2; subst h1; subst h2
   simp only [aaZ]
   exact hb _ _ hd
  ·obtain ⟨h4, b', hb', e'⟩ := Heap.mem_keep.1 hj
   subst e'
   have h5 := aaE hb'
   rw [adH _ (hne j h5)]
   exact (hm.mem j b' hb').map hd hv (hblk j h5 (agL h4))
 ·rcases zq.1 hj with rfl | hj
  ·omega
  ·obtain ⟨_, h5⟩ := Heap.keys_keep.1 hj
   exact ⟨h5, adH _ (hne j h5)⟩
 ·rcases zq.1 hj' with rfl | hj'
  ·omega
  ·obtain ⟨h4, h5⟩ := Heap.keys_keep.1 hj'
   refine ⟨l'', hrows j e' t' l'' hj h4, zj _, fun c fr h => ⟨c, fr, ?_, rfl⟩⟩
   rw [hblk j h5 (agL h4)]; exact h
open Go Go.RowKit
inductive T (α : Type) where
 | ok (a : α)
 | ite (b : Bool) (x y : T α)
 | need (p : Prop) [d : Decidable p] (x : T α)
 | bad
def al1 (b : Bool) (x y : Prop) : Prop := match b with | true => x | false => y
def T.holds {α : Type} : T α → (α → Prop) → Prop
 | .ok a, K => K a
 | .ite b x y, K => al1 b (x.holds K) (y.holds K)
 | @T.need _ p _ x, K => p ∧ x.holds K
 | .bad, _ => False
def T.bind {α β : Type} : T α → (α → T β) → T β
 | .ok a, f => f a
 | .ite b x y, f => .ite b (x.bind f) (y.bind f)
 | @T.need _ p d x, f => @T.need _ p d (x.bind f)
 | .bad, _ => .bad
def T.ofO {α : Type} : Option α → T α
 | some a => .ok a
 | none => .bad
def T.toO {α : Type} : T α → Option α
 | .ok a => some a
 | .ite b x y => match b with
  | true => x.toO
  | false => y.toO
 | @T.need _ _ d x => match d with
  | isTrue _ => x.toO
  | isFalse _ => none
 | .bad => none
theorem T.holds_toO {α : Type} {x : T α} {a : α} {K : α → Prop} (h : x.toO = some a) (hk : K a) : x.holds K := by
 induction x with
 | ok b => simp only [T.toO, Option.some.injEq] at h; subst h; exact hk
 | ite b x y hx hy =>
  simp only [T.toO] at h
  cases b
  ·exact hy h
  ·exact hx h
 | @need p d x hx =>
  simp only [T.toO] at h
  cases d with
  | isTrue hp => exact ⟨hp, hx h⟩
  | isFalse hp => cases h
 | bad => cases h
inductive T.Leaf {α : Type} : T α → α → Prop where
 | ok {a : α} : T.Leaf (.ok a) a
 | t {x y : T α} {a : α} (h : T.Leaf x a) : T.Leaf (.ite true x y) a
 | f {x y : T α} {a : α} (h : T.Leaf y a) : T.Leaf (.ite false x y) a
 | need {p : Prop} {d : Decidable p} {x : T α} {a : α} (hp : p) (h : T.Leaf x a) : T.Leaf (@T.need _ p d x) a
theorem T.leaf {α : Type} {x : T α} {K : α → Prop} (h : x.holds K) : ∃ a, x.Leaf a ∧ K a := by
 induction x with
 | ok a => exact ⟨a, .ok, h⟩
 | ite b x y hx hy =>
  simp only [T.holds] at h
  cases b
  ·obtain ⟨a, h1, h2⟩ := hy h; exact ⟨a, .f h1, h2⟩
  ·obtain ⟨a, h1, h2⟩ := hx h; exact ⟨a, .t h1, h2⟩
 | need p x hx => obtain ⟨a, h1, h2⟩ := hx h.2; exact ⟨a, .need h.1 h1, h2⟩
 | bad => exact h.elim
theorem T.Leaf.bind {α β : Type} {x : T α} {f : α → T β} {b : β} (h : (x.bind f).Leaf b) : ∃ a, x.Leaf a ∧ (f a).Leaf b := by
 induction x with
 | ok a => exact ⟨a, .ok, h⟩
 | ite c x y hx hy =>
  simp only [T.bind] at h
  cases h with
  | t h => obtain ⟨a, h1, h2⟩ := hx h; exact ⟨a, .t h1, h2⟩
  | f h => obtain ⟨a, h1, h2⟩ := hy h; exact ⟨a, .f h1, h2⟩
 | need p x hx =>
  simp only [T.bind] at h
  cases h with
  | need hp h => obtain ⟨a, h1, h2⟩ := hx h; exact ⟨a, .need hp h1, h2⟩
 | bad => cases h
theorem T.Leaf.ofO {α : Type} {o : Option α} {a : α} (h : (T.ofO o).Leaf a) : o = some a := by
 cases o with
 | none => cases h
 | some b => cases h; rfl
def ax8 : Value → AV
 | .bool b => .d .bool b
 | .int k n => match decide (k.min ≤ n) && decide (n ≤ k.max) with | true => .d (.int k) n | false => .no
 | .string s => match Nat.ble s.data.toList.length lim with | true => .d .str s.data.toList | false => .no
 | .slice none 0 0 => .nsl
 | .pointer none => .nilp
 | .nilIface => .nili
 | _ => .no
def akG : List Value → List AV
 | [] => []
 | v :: vs => ax8 v :: akG vs
def aBg : List Value → Bool
 | [] => true
 | v :: vs => match v.oneCell' with | true => aBg vs | false => false
def aoH : Value → AV
 | .agg cs => match aBg cs.toList with | true => .ag (akG cs.toList) | false => .no
 | v => ax8 v
def St.eval (σ : St) : Operand → AV
 | .tmp t => acT σ.slots t
 | .const v => aoH v
 | .func f => .fn f [] []
 | .global _ => .no
def Heap.find : Heap → Nat → Option Bk
 | [], _ => none
 | (j, b) :: r, k => match Nat.beq j k with | true => some b | false => Heap.find r k
theorem Heap.find_mem {H : Heap} {k : Nat} {b : Bk} (h : H.find k = some b) : (k, b) ∈ H := by
 induction H with
 | nil => cases h
 | cons x r ih =>
  obtain ⟨j, y⟩ := x
  simp only [Heap.find] at h
  cases hb : Nat.beq j k with
  | true => rw [hb] at h; have := aaD hb; subst this; injection h with h; subst h; exact zG
  | false => rw [hb] at h; exact zu _ (ih h)
def aH4 : (t : Ty) → Option t.T
 | .sl _ => some []
 | _ => none
def aEQ (t : Ty) : List AV → Option (t.T × List AV)
 | .d u x :: r => match u.as t x with
  | some y => some (y, r)
  | none => none
 | .nsl :: r => match aH4 t with
  | some y => some (y, r)
  | none => none
 | _ => none
def pack : (t : Ty) → List AV → Option (t.T × List AV)
 | .int k => aEQ (.int k)
 | .bool => aEQ .bool
 | .str => aEQ .str
 | .sl t => aEQ (.sl t)
 | .unit => fun r => some ((), r)
 | .pair t u => fun r => match pack t r with
  | some (x, r') => match pack u r' with
   | some (y, r'') => some ((x, y), r'')
   | none => none
  | none => none
 | .arr n t => packN (pack t) n
where packN {α : Type} (f : List AV → Option (α × List AV)) : Nat → List AV → Option (List α × List AV)
 | 0, r => some ([], r)
 | n + 1, r => match f r with
  | some (x, r') => match packN f n r' with
   | some (xs, r'') => some (x :: xs, r'')
   | none => none
  | none => none
def unpack : (t : Ty) → t.T → List AV
 | .int k, x => [.d (.int k) x]
 | .bool, x => [.d .bool x]
 | .str, x => [.d .str x]
 | .sl t, x => [.d (.sl t) x]
 | .unit, _ => []
 | .pair t u, x => unpack t x.1 ++ unpack u x.2
 | .arr n t, x => unpackN (unpack t) t.dflt n x
where unpackN {α : Type} (f : α → List AV) (d : α) : Nat → List α → List AV
 | 0, _ => []
 | n + 1, l => f (l.headD d) ++ unpackN f d n l.tail
def toD (t : Ty) : AV → Option t.T
 | .d u x => u.as t x
 | .nsl => aH4 t
 | .ag cells => match t.agg with
  | true => match pack t cells with
   | some (x, []) => some x
   | _ => none
  | false => none
 | _ => none
def aJU (H : Heap) (t : Ty) : AV → Option t.T
 | .own k off len => match t with
  | .sl u => match H.find k with
   | some (.row _ v l) => (v.sl).as (.sl u) ((l.drop off).take len)
   | _ => none
  | _ => none
 | .sv k o n c => match t with
  | .sl u => match H.find k with
   | some (.vars _ cells) => match Nat.ble o cells.length, pack (.arr c u) (cells.drop o) with
    | true, some (l, _) => some (List.take n l)
    | _, _ => none
   | _ => none
  | _ => none
 | x => toD t x
def cellsOf : AV → Option (List AV)
 | .d t x => some (unpack t x)
 | .ag cells => some cells
 | .ptr k off => some [.ptr k off]
 | .efp k i f => some [.efp k i f]
 | .own k off len => some [.own k off len]
 | .ox k off len => some [.ox k off len]
 | .sv k o n c => some [.sv k o n c]
 | .nsl => some [.nsl]
 | .fn f a b => some [.fn f a b]
 | .yld l => some [.yld l]
 | .mp k => some [.mp k]
 | .nilp => some [.nilp]
 | .nili => some [.nili]
 | .nni => some [.nni]
 | .ifc k t x => some [.ifc k t x]
 | _ => none
def aGd (P : Program) : Nat → TypeId → Option Ty
 | 0, _ => none
 | n + 1, t => match P.underlying t with
  | some (.int k) => some (.int k)
  | some .bool => some .bool
  | some .string => some .str
  | some (.slice e) => (aGd P n e).map .sl
  | some (.array m e) => (aGd P n e).map (.arr m)
  | some (.struct fs) => tyFs (aGd P n) fs.toList 0
  | _ => none
where tyFs (f : TypeId → Option Ty) : List Field → Nat → Option Ty
 | [], _ => some .unit
 | x :: r, off => match Nat.beq x.offset off with
  | true => match f x.type with
   | some t => (tyFs f r (off + t.size)).map (.pair t)
   | none => none
  | false => none
def aFV (P : Program) (t : TypeId) : Option Bool :=
 match P.underlying t with
 | some (.struct _) | some (.array _ _) => some true
 | some _ => some false
 | none => none
def aa6 (P : Program) (t : TypeId) : Option Nat := (P.info? t).map (·.size)
def aNE : List AV → Bool
 | [] => false
 | .nsl :: _ => true
 | _ :: r => aNE r
def aJC (P : Program) (t : TypeId) (cells : List AV) : AV :=
 match aGd P 20 t with
 | some u => match u.agg with
  | true => match aNE cells with
   | true => .ag cells
   | false => match pack u cells with
    | some (x, []) => .d u x
    | _ => .ag cells
  | false => .ag cells
 | none => .ag cells
def auV (P : Program) (t : TypeId) (cells : List AV) (off : Nat) : Option AV :=
 match aFV P t, aa6 P t with
 | some true, some n => match Nat.ble (off + n) cells.length with
  | true => some (aJC P t ((cells.drop off).take n))
  | false => none
 | some false, some _ => cells[off]?
 | _, _ => none
open Go Go.RowKit
section
variable {C : Ctx} {ρ : Nat → Nat} {H : Heap} {w : World}
theorem RdV.scalar {ok : Nat → Prop} {t : Ty} {x : t.T} {v : Value} (ht : t.agg = false) (h : RdV ok w t x v) : Rd ok w t x [v] := by
 obtain ⟨cs, h1, h2⟩ := h
 simp only [vOf, ht] at h2
 simp at h2
 subst h2; exact h1
theorem RdV.of_scalar {ok : Nat → Prop} {t : Ty} {x : t.T} {v : Value} (ht : t.agg = false) (h : Rd ok w t x [v]) : RdV ok w t x v :=
 ⟨[v], h, by simp [vOf, ht]⟩
theorem VR.datum {t : Ty} {x : t.T} {v : Value} (h : VR C ρ H w (.d t x) v) : RdV (Ok C ρ H w) w t x v := by
 cases h with
 | d h => exact h
theorem VR.as {t u : Ty} {x : t.T} {y : u.T} {v : Value} (h : VR C ρ H w (.d t x) v) (e : t.as u x = some y) : RdV (Ok C ρ H w) w u y v := by
 obtain ⟨e, he⟩ := Ty.as_some e
 subst e
 subst he
 exact h.datum
theorem VRs.length {as : List AV} {vs : List Value} (h : VRs C ρ H w as vs) : as.length = vs.length := by
 induction as generalizing vs with
 | nil => cases h; rfl
 | cons a as ih =>
  cases h with
  | cons h1 h2 => simp [ih h2]
theorem VRs.append {as bs : List AV} {vs us : List Value} (h : VRs C ρ H w as vs) (h' : VRs C ρ H w bs us) : VRs C ρ H w (as ++ bs) (vs ++ us) := by
 induction as generalizing vs with
 | nil => cases h; exact h'
 | cons a as ih =>
  cases h with
  | cons h1 h2 => exact .cons h1 (ih h2)
theorem VRs.get {as : List AV} {vs : List Value} (h : VRs C ρ H w as vs) {i : Nat} {a : AV} (ha : as[i]? = some a) : ∃ v, vs[i]? = some v ∧ VR C ρ H w a v := by
 induction as generalizing vs i with
 | nil => simp at ha
 | cons b as ih =>
  cases h with
  | cons h1 h2 =>
   cases i with
   | zero => simp at ha; subst ha; exact ⟨_, rfl, h1⟩
   | succ i => simpa using ih h2 (by simpa using ha)
theorem VRs.drop {as : List AV} {vs : List Value} (h : VRs C ρ H w as vs) (n : Nat) : VRs C ρ H w (as.drop n) (vs.drop n) := by
 induction n generalizing as vs with
 | zero => exact h
 | succ n ih =>
  cases h with
  | nil => simp; exact .nil
  | cons h1 h2 => simpa using ih h2
theorem VRs.take {as : List AV} {vs : List Value} (h : VRs C ρ H w as vs) (n : Nat) : VRs C ρ H w (as.take n) (vs.take n) := by
 induction n generalizing as vs with
 | zero => simp; exact .nil
 | succ n ih =>
  cases h with
  | nil => simp; exact .nil
  | cons h1 h2 => simpa using VRs.cons h1 (ih h2)
theorem amX (v : Value) : VR C ρ H w (ax8 v) v := by
 unfold ax8
 split
 ·exact .d ⟨_, rfl, rfl⟩
 ·rename_i k n
  split
  ·rename_i h
   simp only [zl, zz] at h
   exact .d ⟨_, ⟨rfl, h.1, h.2⟩, rfl⟩
  ·exact .no
 ·rename_i s
  split
  ·rename_i h
   exact .d ⟨_, ⟨rfl, Nat.le_of_ble_eq_true h⟩, rfl⟩
  ·exact .no
 ·exact .nsl
 ·exact .nilp
 ·exact .nili
 ·exact .no
theorem ak0 (vs : List Value) : VRs C ρ H w (akG vs) vs := by
 induction vs with
 | nil => exact .nil
 | cons v vs ih => exact .cons (amX v) ih
theorem aj0 {vs : List Value} (h : aBg vs = true) : ∀ v ∈ vs, v.oneCell' = true := by
 induction vs with
 | nil => intro v hv; cases hv
 | cons u vs ih =>
  intro v hv
  simp only [aBg] at h
  cases hu : u.oneCell' with
  | false => rw [hu] at h; cases h
  | true =>
   rw [hu] at h
   rcases zq.1 hv with rfl | hv
   ·exact hu
   ·exact ih h v hv
theorem al6 {α : Type} {R : α → List Value → Prop} {f : α → List AV} {d : α} (hf : ∀ x cs, R x cs → VRs C ρ H w (f x) cs) :
  ∀ (l : List α) (cs : List Value), RdL R l cs → VRs C ρ H w (unpack.unpackN f d l.length l) cs
 | [], cs, h => by simp [RdL] at h; subst h; exact .nil
 | x :: xs, cs, ⟨c1, c2, e, h1, h2⟩ => by
  subst e
  exact (hf x c1 h1).append (al6 hf xs c2 h2)
theorem agE : ∀ (t : Ty) (x : t.T) (cs : List Value), Rd (Ok C ρ H w) w t x cs → VRs C ρ H w (unpack t x) cs
 | .int k, x, cs, h => by obtain ⟨e, h'⟩ := h; subst e; exact .cons (.d ⟨_, ⟨rfl, h'⟩, rfl⟩) .nil
 | .bool, x, cs, h => by obtain rfl : cs = [.bool x] := h; exact .cons (.d ⟨_, rfl, rfl⟩) .nil
 | .str, x, cs, h => by obtain ⟨e, h'⟩ := h; subst e; exact .cons (.d ⟨_, ⟨rfl, h'⟩, rfl⟩) .nil
 | .sl t, x, cs, h => by
  have h0 := h
  obtain ⟨a, cap, e, _⟩ := h
  subst e
  exact .cons (.d ⟨_, h0, rfl⟩) .nil
 | .unit, x, cs, h => by obtain rfl : cs = [] := h; exact .nil
 | .pair t u, x, cs, h => by
  obtain ⟨c1, c2, e, h1, h2⟩ := h
  subst e
  exact (agE t _ _ h1).append (agE u _ _ h2)
 | .arr n t, x, cs, h => by
  obtain ⟨e, h'⟩ := h
  have := al6 (d := t.dflt) (fun x cs => agE t x cs) x cs h'
  rw [e] at this
  exact this
theorem arN {α : Type} {R : α → List Value → Prop} {f : List AV → Option (α × List AV)}
  (hf : ∀ cells x r vs, f cells = some (x, r) → VRs C ρ H w cells vs → ∃ c1 c2, vs = c1 ++ c2 ∧ R x c1 ∧ VRs C ρ H w r c2) :
  ∀ (n : Nat) (cells : List AV) (xs : List α) (r : List AV) (vs : List Value), pack.packN f n cells = some (xs, r) → VRs C ρ H w cells vs →
   xs.length = n ∧ ∃ c1 c2, vs = c1 ++ c2 ∧ RdL R xs c1 ∧ VRs C ρ H w r c2
 | 0, cells, xs, r, vs, h, hv => by
  simp only [pack.packN] at h
  injection h with h; injection h with h1 h2; subst h1; subst h2
  exact ⟨rfl, [], vs, rfl, rfl, hv⟩
 | n + 1, cells, xs, r, vs, h, hv => by
  simp only [pack.packN] at h
  split at h
  ·rename_i x r' hx
   split at h
   ·rename_i ys r'' hy
    injection h with h; injection h with h1 h2; subst h1; subst h2
    obtain ⟨c1, c2, e, h1, h2⟩ := hf _ _ _ _ hx hv
    obtain ⟨hl, d1, d2, e', h3, h4⟩ := arN hf n _ _ _ _ hy h2
    refine ⟨by simp [hl], c1 ++ d1, d2, by rw [e, e', xa], ⟨c1, d1, rfl, h1, h3⟩, h4⟩
   ·cases h
  ·cases h
theorem alG {ok : Nat → Prop} {t : Ty} {y : t.T} (h : aH4 t = some y) : Rd ok w t y [.slice none 0 0] := by
 cases t <;> first | cases h | skip
 exact ⟨none, 0, rfl, zj _, ya _, Or.inl rfl⟩
theorem aiC {t : Ty} (ht : t.agg = false) {cells : List AV} {x : t.T} {r : List AV} {vs : List Value} (h : aEQ t cells = some (x, r)) (hv : VRs C ρ H w cells vs) :
  ∃ c1 c2, vs = c1 ++ c2 ∧ Rd (Ok C ρ H w) w t x c1 ∧ VRs C ρ H w r c2 := by
 unfold aEQ at h
 split at h
 ·rename_i u y r'
  split at h
  ·rename_i z hz
   injection h with h; injection h with h1 h2; subst h1; subst h2
   cases hv with
   | cons h1 h2 => exact ⟨[_], _, rfl, (VR.as h1 hz).scalar ht, h2⟩
  ·cases h
 ·rename_i r'
  split at h
  ·rename_i z hz
   injection h with h; injection h with h1 h2; subst h1; subst h2
   cases hv with
   | cons h1 h2 => cases h1; exact ⟨[_], _, rfl, alG hz, h2⟩
  ·cases h
 ·cases h
theorem adT : ∀ (t : Ty) (cells : List AV) (x : t.T) (r : List AV) (vs : List Value), pack t cells = some (x, r) → VRs C ρ H w cells vs →
  ∃ c1 c2, vs = c1 ++ c2 ∧ Rd (Ok C ρ H w) w t x c1 ∧ VRs C ρ H w r c2 := by
 intro t
 induction t with
 | int k => intro cells x r vs h hv; exact aiC rfl h hv
 | bool => intro cells x r vs h hv; exact aiC rfl h hv
 | str => intro cells x r vs h hv; exact aiC rfl h hv
 | unit =>
  intro cells x r vs h hv
  simp only [pack] at h
  injection h with h; injection h with h1 h2; subst h2
  exact ⟨[], vs, rfl, rfl, hv⟩
 | pair t u iht ihu =>
  intro cells x r vs h hv
  simp only [pack] at h
  split at h
  ·rename_i y r' hy
   split at h
   ·rename_i z r'' hz
    injection h with h; injection h with h1 h2; subst h1; subst h2
    obtain ⟨c1, c2, e, h1, h2⟩ := iht _ _ _ _ hy hv
    obtain ⟨d1, d2, e', h3, h4⟩ := ihu _ _ _ _ hz h2
    exact ⟨c1 ++ d1, d2, by rw [e, e', xa], ⟨c1, d1, rfl, h1, h3⟩, h4⟩
   ·cases h
  ·cases h
 | arr n t iht =>
  intro cells x r vs h hv
  simp only [pack] at h
  obtain ⟨hl, c1, c2, e, h1, h2⟩ := arN (R := Rd (Ok C ρ H w) w t) (fun cells x r vs hh hvv => iht cells x r vs hh hvv) n cells x r vs h hv
  exact ⟨c1, c2, e, ⟨hl, h1⟩, h2⟩
 | sl t iht => intro cells x r vs h hv; exact aiC rfl h hv
theorem aAc {t : Ty} {y : t.T} (h : aH4 t = some y) : t.agg = false := by cases t <;> first | rfl | cases h
theorem ad5 {t : Ty} {a : AV} {x : t.T} {v : Value} (h : toD t a = some x) (hv : VR C ρ H w a v) : RdV (Ok C ρ H w) w t x v := by
 unfold toD at h
 split at h
 ·exact VR.as hv h
 ·cases hv; exact RdV.of_scalar (aAc h) (alG h)
 ·split at h
  ·rename_i hag
   split at h
   ·rename_i y hp
    injection h with h; subst h
    cases hv with
    | ag hvs _ =>
     obtain ⟨c1, c2, e, h1, h2⟩ := adT _ _ _ _ _ hp hvs
     cases h2
     simp at e
     subst e
     exact ⟨_, h1, by simp [vOf, hag]⟩
   ·cases h
  ·cases h
 ·cases h
def OkL (C : Ctx) (ρ : Nat → Nat) (H : Heap) (w : World) (b : Nat) : Prop := Ok C ρ H w b ∨ ∃ k ∈ H.keys, ρ k = b
theorem RdV.lend {t : Ty} {x : t.T} {v : Value} (h : RdV (Ok C ρ H w) w t x v) : RdV (OkL C ρ H w) w t x v := h.mono (fun _ hb => ⟨Or.inl hb, rfl⟩)
theorem anI {H0 : Heap} (hsub : ∀ x ∈ H0, x ∈ H) {next : Nat} (hm : MRel C ρ H next w) {t : Ty} {a : AV} {x : t.T} {v : Value} (h : aJU H0 t a = some x) (hv : VR C ρ H w a v) : RdV (OkL C ρ H w) w t x v := by
 unfold aJU at h
 split at h
 ·rename_i k off len
  split at h
  ·rename_i u
   split at h
   ·rename_i e v' l hf
    obtain ⟨e1, e2⟩ := Ty.as_some h
    injection e1 with e1
    subst e1
    subst e2
    have hk := hsub _ (Heap.find_mem hf)
    cases hv with
    | own hk' hl hc hmx hb hs ha =>
     have hu := Heap.mem_unique hm.nodup hk hk'
     injection hu with hu1 hu2 hu3
     subst hu1; subst hu2
     have hu3 := eq_of_heq hu3
     subst hu3
     obtain ⟨c, h1, h2, h3, h4, h5⟩ := hm.ownCells hk hl
     refine ⟨_, ⟨_, _, by rw [h3], by rw [h3]; exact hc, by rw [h3]; exact h4, ?_⟩, rfl⟩
     by_cases hnil : (l.drop off).take len = []
     ·exact Or.inl hnil
     ·have hpos : 0 < len := by rw [← h3]; exact zN.2 hnil
      have ha' := ha.resolve_right (fun h => by omega)
      exact Or.inr ⟨ρ k, off * v'.size, c, e, (0, 0), ha', Or.inr ⟨k, aaE hk, rfl⟩, h1, h2, RdL.mono (fun x cs => Rd.mono (fun b hb => ⟨Or.inl hb, rfl⟩) _ x cs) _ _ h5⟩
   ·cases h
  ·cases h
 ·rename_i k o n cc
  split at h
  ·rename_i u
   split at h
   ·rename_i e cells hf
    split at h
    ·rename_i l _ hoc hp
     injection h with h
     subst h
     have hk := hsub _ (Heap.find_mem hf)
     obtain ⟨c, hc, hvs, _⟩ := hm.mem _ _ hk
     obtain ⟨c1, c2, e1, hl, -⟩ := adT _ _ _ _ _ hp (hvs.drop o)
     obtain ⟨hn, hr⟩ := hl
     have hsz := RdL.length (fun x cs => Rd.length u x cs) _ _ hr
     cases hv with
     | sv hk' hlim hcap =>
      obtain ⟨hlt, hle, htk⟩ := RdL.first (fun x cs => Rd.length u x cs) hn hcap hr
      refine ⟨[.slice (some ⟨ρ k, o, none⟩) n cc], ⟨_, cc, by rw [hlt], by rw [hlt]; exact hcap, by rw [hlt]; exact hlim, Or.inr ⟨ρ k, o, c, e, (0, 0), rfl, Or.inr ⟨k, aaE hk, rfl⟩, hc, ?_, ?_⟩⟩, rfl⟩
      ·have : c.size - o = c1.length + c2.length := by rw [← zJ, ← e1]; simp
       have hoc := Nat.le_of_ble_eq_true hoc
       have hcl : cells.length = c.size := by rw [hvs.length]; simp
       rw [hlt]; omega
      ·rw [e1, hlt, yr hle]
       exact RdL.mono (fun x cs => Rd.mono (fun b hb => ⟨Or.inl hb, rfl⟩) _ x cs) _ _ htk
    ·cases h
   ·cases h
  ·cases h
 ·exact (ad5 h hv).lend
theorem afD {a : AV} {cells : List AV} {v : Value} (h : cellsOf a = some cells) (hv : VR C ρ H w a v) :
  VRs C ρ H w cells v.cells.toList ∧ ∀ u ∈ v.cells.toList, u.oneCell' = true := by
 unfold cellsOf at h
 split at h <;> first | (injection h with h; subst h) | skip
 ·exact ⟨agE _ _ _ hv.datum.cells, Rd.one _ _ _ hv.datum.cells⟩
 ·cases hv with
  | ag h1 h2 => exact ⟨h1, h2⟩
 ·cases hv with
  | ptr hk => exact ⟨.cons (.ptr hk) .nil, by simp [Value.cells, Value.oneCell']⟩
 ·have hv' := hv
  cases hv with
  | efp _ _ _ => exact ⟨.cons hv' .nil, by simp [Value.cells, Value.oneCell']⟩
 ·have hv' := hv
  cases hv with
  | own _ _ _ _ _ _ _ => exact ⟨.cons hv' .nil, by simp [Value.cells, Value.oneCell']⟩
 ·have hv' := hv
  cases hv with
  | ox _ _ _ _ _ _ => exact ⟨.cons hv' .nil, by simp [Value.cells, Value.oneCell']⟩
 ·have hv' := hv
  cases hv with
  | sv _ _ _ => exact ⟨.cons hv' .nil, by simp [Value.cells, Value.oneCell']⟩
 ·have hv' := hv
  cases hv with
  | nsl => exact ⟨.cons hv' .nil, by simp [Value.cells, Value.oneCell']⟩
 ·have hv' := hv
  cases hv with
  | fn _ _ => exact ⟨.cons hv' .nil, by simp [Value.cells, Value.oneCell']⟩
 ·have hv' := hv
  cases hv with
  | yld _ => exact ⟨.cons hv' .nil, by simp [Value.cells, Value.oneCell']⟩
 ·have hv' := hv
  cases hv with
  | mp _ => exact ⟨.cons hv' .nil, by simp [Value.cells, Value.oneCell']⟩
 ·have hv' := hv
  cases hv with
  | nilp => exact ⟨.cons hv' .nil, by simp [Value.cells, Value.oneCell']⟩
 ·have hv' := hv
  cases hv with
  | nili => exact ⟨.cons hv' .nil, by simp [Value.cells, Value.oneCell']⟩
 ·have hv' := hv
  cases hv with
  | nni => exact ⟨.cons hv' .nil, by simp [Value.cells, Value.oneCell']⟩
 ·have hv' := hv
  cases hv with
  | ifc _ => exact ⟨.cons hv' .nil, by simp [Value.cells, Value.oneCell']⟩
 ·cases h
theorem afB (v : Value) : VR C ρ H w (aoH v) v := by
 unfold aoH
 split
 ·rename_i cs
  split
  ·rename_i h
   exact .ag (ak0 _) (aj0 h)
  ·exact .no
 ·exact amX v
theorem SRel.eval {σ : St} {a : Act} (h : SRel C ρ σ a w) (x : Operand) : VR C ρ σ.H w (σ.eval x) (a.eval x) := by
 cases x with
 | tmp t => exact h.slots t
 | const v => exact afB v
 | func f => exact .fn .nil .nil
 | global g => exact .no
theorem al2 {P : Program} {t : TypeId} {cells : List AV} {vs : List Value} (h : VRs C ρ H w cells vs) (h1 : ∀ v ∈ vs, v.oneCell' = true) :
  VR C ρ H w (aJC P t cells) (.agg ⟨vs⟩) := by
 unfold aJC
 split
 ·split
  ·rename_i hag
   split
   ·exact .ag h h1
   split
   ·rename_i x hp
    obtain ⟨c1, c2, e, h3, h4⟩ := adT _ _ _ _ _ hp h
    cases h4
    simp at e
    subst e
    exact .d ⟨_, h3, by simp [vOf, hag]⟩
   ·exact .ag h h1
  ·exact .ag h h1
 ·exact .ag h h1
end
open Go Go.RowKit
theorem auN (k : IntKind) (n : Int) : k.min ≤ k.wrap n ∧ k.wrap n ≤ k.max := by
 cases k <;> simp [IntKind.wrap, IntKind.min, IntKind.max, IntKind.bits, IntKind.signed] <;> (try split) <;> omega
theorem afT (k : IntKind) : k.min ≤ 0 ∧ 0 ≤ k.max := by
 cases k <;> simp [IntKind.min, IntKind.max, IntKind.bits, IntKind.signed]
theorem auQ {lo hi x y : Int} (h0 : lo ≤ 0) (h1 : 0 ≤ hi) (hl : lo ≤ x) (hh : x ≤ hi) : lo ≤ x.tmod y ∧ x.tmod y ≤ hi := by
 rcases Int.le_total 0 x with h | h
 ·have a := xi y h
  have b : x.tmod y ≤ x := by
   have e := xW x y
   rcases Int.le_total 0 y with hy | hy
   ·have := xK hy (xx h hy); omega
   ·have h2 : x.tdiv y ≤ 0 := Int.tdiv_nonpos_of_nonneg_of_nonpos h hy
    have := Int.mul_nonneg_of_nonpos_of_nonpos hy h2; omega
  omega
 ·have a : x.tmod y ≤ 0 := by
   have := xi y (show 0 ≤ -x by omega)
   rw [Int.neg_tmod] at this; omega
  have b : x ≤ x.tmod y := by
   have e := xW x y
   rcases Int.le_total 0 y with hy | hy
   ·have h2 : x.tdiv y ≤ 0 := by
     have := xx (show 0 ≤ -x by omega) hy
     rw [Int.neg_tdiv] at this; omega
    have := Int.mul_nonpos_of_nonneg_of_nonpos hy h2; omega
   ·have h2 : 0 ≤ x.tdiv y := by
     have := xx (show 0 ≤ -x by omega) (show 0 ≤ -y by omega)
     rw [Int.neg_tdiv, Int.tdiv_neg] at this; omega
    have := Int.mul_nonpos_of_nonpos_of_nonneg hy h2; omega
  omega
theorem avO {k : IntKind} {x : Int} {n : Nat} (hl : k.min ≤ x) (hh : x ≤ k.max) : k.min ≤ x.fdiv (2 ^ n) ∧ x.fdiv (2 ^ n) ≤ k.max := by
 have hp : (0 : Int) < 2 ^ n := yG zb
 obtain ⟨h0, h1⟩ := afT k
 rw [Int.fdiv_eq_ediv_of_nonneg _ (wA hp)]
 have e := Int.mul_ediv_add_emod x (2 ^ n)
 have m0 := xy x (Int.ne_of_gt hp)
 have m1 := xu x hp
 generalize hq : x / 2 ^ n = q at *
 generalize (2 : Int) ^ n = p at *
 rcases Int.le_total 0 q with h | h
 ·have : q ≤ p * q := by
   have := zI (show (1 : Int) ≤ p by omega) h; omega
  omega
 ·rcases Int.lt_or_eq_of_le h with h | h
  ·have : p * q ≤ q := by
    have := Int.mul_le_mul_of_nonpos_right (show (1 : Int) ≤ p by omega) (show q ≤ 0 by omega); omega
   have h2 : x ≤ q ∨ q < x := zb
   rcases h2 with h2 | h2
   ·constructor
    ·omega
    ·omega
   ·have h3 : p * q ≤ p * (-1) := zy zb zb
    constructor
    ·have : p * q + p > x := zb
     have h4 : p * (q + 1) ≤ q + 1 := by
      have := Int.mul_le_mul_of_nonpos_right (show (1 : Int) ≤ p by omega) (show q + 1 ≤ 0 by omega); omega
     have h5 : p * (q + 1) = p * q + p := by rw [xS, Int.mul_one]
     omega
    ·omega
  ·omega
def aR4 (op : BinOp) (k : IntKind) (x y : Int) : T AV :=
 match op with
 | .add => .ok (.d (.int k) (k.wrap (x + y)))
 | .sub => .ok (.d (.int k) (k.wrap (x - y)))
 | .mul => .ok (.d (.int k) (k.wrap (x * y)))
 | .quo => .need (y ≠ 0) (.ok (.d (.int k) (k.wrap (x.tdiv y))))
 | .rem => .need (y ≠ 0) (.ok (.d (.int k) (x.tmod y)))
 | .eql => .ok (.d .bool (x == y))
 | .neq => .ok (.d .bool (x != y))
 | .lss => .ok (.d .bool (decide (x < y)))
 | .leq => .ok (.d .bool (decide (x ≤ y)))
 | .gtr => .ok (.d .bool (decide (x > y)))
 | .geq => .ok (.d .bool (decide (x ≥ y)))
 | .and => .ok (.d (.int k) (k.wrap (BitVec.ofInt k.bits x &&& BitVec.ofInt k.bits y).toNat))
 | .or => .ok (.d (.int k) (k.wrap (BitVec.ofInt k.bits x ||| BitVec.ofInt k.bits y).toNat))
 | .xor => .ok (.d (.int k) (k.wrap (BitVec.ofInt k.bits x ^^^ BitVec.ofInt k.bits y).toNat))
 | _ => .bad
def aMh (op : BinOp) (k : IntKind) (x y : Int) : T AV :=
 match op with
 | .shl => .need (0 ≤ y) (.ok (.d (.int k) (k.wrap (x * 2 ^ (min y.toNat k.bits)))))
 | .shr => .need (0 ≤ y) (.ok (.d (.int k) (x.fdiv (2 ^ (min y.toNat k.bits)))))
 | _ => .bad
def aIl : BinOp → Bool
 | .shl | .shr => true
 | _ => false
def aR2 (op : BinOp) (x y : List UInt8) : T AV :=
 match op with
 | .add => .need (x.length + y.length ≤ lim) (.ok (.d .str (x ++ y)))
 | .eql => .ok (.d .bool (x == y))
 | .neq => .ok (.d .bool (!(x == y)))
 | .lss => .ok (.d .bool (Op.bytesLess x y))
 | .leq => .ok (.d .bool (Op.bytesLess x y || x == y))
 | .gtr => .ok (.d .bool (!(Op.bytesLess x y || x == y)))
 | .geq => .ok (.d .bool (!(Op.bytesLess x y)))
 | _ => .bad
def aQz (op : BinOp) (k j : IntKind) (x y : Int) : T AV :=
 match aIl op with
 | true => aMh op k x y
 | false => if k = j then aR4 op k x y else .bad
def aR5 (op : BinOp) (x y : Bool) : T AV :=
 match op with
 | .eql => .ok (.d .bool (x == y))
 | .neq => .ok (.d .bool (!(x == y)))
 | _ => .bad
def aQV (op : BinOp) : (t : Ty) → t.T → (u : Ty) → u.T → T AV
 | .int k, x, .int j, y => aQz op k j x y
 | .bool, x, .bool, y => aR5 op x y
 | .str, x, .str, y => aR2 op x y
 | _, _, _, _ => .bad
section
variable {C : Ctx} {ρ : Nat → Nat} {H : Heap} {w : World} {P : Program}
theorem abD {k : IntKind} {x : Int} {v : Value} (h : VR C ρ H w (.d (.int k) x) v) : v = .int k x ∧ k.min ≤ x ∧ x ≤ k.max := by
 have := h.datum.scalar rfl
 obtain ⟨e, h'⟩ := this
 injection e with e _
 exact ⟨e, h'⟩
theorem adX {x : Bool} {v : Value} (h : VR C ρ H w (.d .bool x) v) : v = .bool x := by
 have : [v] = [Value.bool x] := h.datum.scalar rfl
 injection this
theorem ad6 {x : List UInt8} {v : Value} (h : VR C ρ H w (.d .str x) v) : v = .string ⟨⟨x⟩⟩ ∧ x.length ≤ lim := by
 have := h.datum.scalar rfl
 obtain ⟨e, h'⟩ := this
 injection e with e _
 exact ⟨e, h'⟩
theorem auP {k : IntKind} {x : Int} (h : k.min ≤ x) (h' : x ≤ k.max) : VR C ρ H w (.d (.int k) x) (.int k x) := .d ⟨_, ⟨rfl, h, h'⟩, rfl⟩
theorem abK {x : Bool} : VR C ρ H w (.d .bool x) (.bool x) := .d ⟨_, rfl, rfl⟩
theorem auO {x : List UInt8} (h : x.length ≤ lim) : VR C ρ H w (.d .str x) (.string ⟨⟨x⟩⟩) := .d ⟨_, ⟨rfl, h⟩, rfl⟩
theorem ag0 {k : IntKind} {x : Int} : VR C ρ H w (.d (.int k) (k.wrap x)) (.int k (k.wrap x)) := auP (auN k x).1 (auN k x).2
theorem aFM {op : BinOp} {k : IntKind} {x y : Int} {r : AV} (hx : k.min ≤ x ∧ x ≤ k.max) (hsh : aIl op = false) (h : (aR4 op k x y).Leaf r) (xt : TypeId) :
  ∃ v, (binOp op xt (.int k x) (.int k y)).run P w = .ok v w ∧ VR C ρ H w r v := by
 cases op
 case add => cases h; exact ⟨.int k (k.wrap (x + y)), by simp only [binOp, ne_eq, not_true_eq_false, if_false, Op.intArith]; rfl, ag0⟩
 case sub => cases h; exact ⟨.int k (k.wrap (x - y)), by simp only [binOp, ne_eq, not_true_eq_false, if_false, Op.intArith]; rfl, ag0⟩
 case mul => cases h; exact ⟨.int k (k.wrap (x * y)), by simp only [binOp, ne_eq, not_true_eq_false, if_false, Op.intArith]; rfl, ag0⟩
 case eql => cases h; exact ⟨.bool (x == y), by simp only [binOp, ne_eq, not_true_eq_false, if_false, Op.intCmp]; rfl, abK⟩
 case neq => cases h; exact ⟨.bool (x != y), by simp only [binOp, ne_eq, not_true_eq_false, if_false, Op.intCmp]; rfl, abK⟩
 case lss => cases h; exact ⟨.bool (decide (x < y)), by simp only [binOp, ne_eq, not_true_eq_false, if_false, Op.intCmp]; rfl, abK⟩
 case leq => cases h; exact ⟨.bool (decide (x ≤ y)), by simp only [binOp, ne_eq, not_true_eq_false, if_false, Op.intCmp]; rfl, abK⟩
 case gtr => cases h; exact ⟨.bool (decide (x > y)), by simp only [binOp, ne_eq, not_true_eq_false, if_false, Op.intCmp]; rfl, abK⟩
 case geq => cases h; exact ⟨.bool (decide (x ≥ y)), by simp only [binOp, ne_eq, not_true_eq_false, if_false, Op.intCmp]; rfl, abK⟩
 case and => cases h; exact ⟨.int k (k.wrap (BitVec.ofInt k.bits x &&& BitVec.ofInt k.bits y).toNat), by simp only [binOp, ne_eq, not_true_eq_false, if_false, Op.intBits]; rfl, ag0⟩
 case or => cases h; exact ⟨.int k (k.wrap (BitVec.ofInt k.bits x ||| BitVec.ofInt k.bits y).toNat), by simp only [binOp, ne_eq, not_true_eq_false, if_false, Op.intBits]; rfl, ag0⟩
 case xor => cases h; exact ⟨.int k (k.wrap (BitVec.ofInt k.bits x ^^^ BitVec.ofInt k.bits y).toNat), by simp only [binOp, ne_eq, not_true_eq_false, if_false, Op.intBits]; rfl, ag0⟩
 case quo =>
  cases h with
  | need hp h => cases h; exact ⟨.int k (k.wrap (x.tdiv y)), by simp only [binOp, ne_eq, not_true_eq_false, if_false, Op.intDiv, if_neg hp]; rfl, ag0⟩
 case rem =>
  cases h with
  | need hp h => cases h; exact ⟨.int k (x.tmod y), by simp only [binOp, ne_eq, not_true_eq_false, if_false, Op.intDiv, if_neg hp]; rfl, auP (auQ (afT k).1 (afT k).2 hx.1 hx.2).1 (auQ (afT k).1 (afT k).2 hx.1 hx.2).2⟩
 all_goals cases h
theorem ay5 {op : BinOp} {k j : IntKind} {x y : Int} {r : AV} (hx : k.min ≤ x ∧ x ≤ k.max) (h : (aMh op k x y).Leaf r) (xt : TypeId) :
  ∃ v, (binOp op xt (.int k x) (.int j y)).run P w = .ok v w ∧ VR C ρ H w r v := by
 cases op
 case shl =>
  cases h with
  | need hp h => cases h; exact ⟨.int k (k.wrap (x * 2 ^ (min y.toNat k.bits))), by simp only [binOp, Op.shift, if_neg (Int.not_lt.2 hp)]; rfl, ag0⟩
 case shr =>
  cases h with
  | need hp h => cases h; exact ⟨.int k (x.fdiv (2 ^ (min y.toNat k.bits))), by simp only [binOp, Op.shift, if_neg (Int.not_lt.2 hp)]; rfl, auP (avO hx.1 hx.2).1 (avO hx.1 hx.2).2⟩
 all_goals cases h
theorem ahA (x : List UInt8) : (⟨⟨x⟩⟩ : ByteArray).toList = x := ByteArray.toList_eq _
theorem aJx (x y : List UInt8) : (⟨⟨x⟩⟩ : ByteArray) ++ ⟨⟨y⟩⟩ = ⟨⟨x ++ y⟩⟩ := by
 apply ByteArray.ext
 apply Array.ext'
 simp
theorem aFy (x : List UInt8) (a b : Nat) : (⟨⟨x⟩⟩ : ByteArray).extract a b = ⟨⟨(x.drop a).take (b - a)⟩⟩ := by
 apply ByteArray.ext
 apply Array.ext'
 rw [ByteArray.data_extract, wg]
theorem aGl (x : List UInt8) : (⟨⟨x⟩⟩ : ByteArray).size = x.length := rfl
theorem aFL {op : BinOp} {x y : List UInt8} {r : AV} (h : (aR2 op x y).Leaf r) (xt : TypeId) :
  ∃ v, (binOp op xt (.string ⟨⟨x⟩⟩) (.string ⟨⟨y⟩⟩)).run P w = .ok v w ∧ VR C ρ H w r v := by
 cases op
 case add =>
  cases h with
  | need hp h =>
   cases h
   refine ⟨.string ⟨⟨x ++ y⟩⟩, ?_, auO (by simpa using hp)⟩
   have : ¬ ((((⟨⟨x⟩⟩ : ByteArray).size + (⟨⟨y⟩⟩ : ByteArray).size : Nat) : Int) > IntKind.i64.max) := by
    simp only [aGl, IntKind.max, IntKind.signed, IntKind.bits, lim] at hp ⊢
    simp
    omega
   simp only [binOp, Op.stringOp, if_neg this, aJx]; rfl
 case eql => cases h; exact ⟨.bool (x == y), by simp only [binOp, Op.stringOp, ahA]; rfl, abK⟩
 case neq => cases h; exact ⟨.bool (!(x == y)), by simp only [binOp, Op.stringOp, ahA]; rfl, abK⟩
 case lss => cases h; exact ⟨.bool (Op.bytesLess x y), by simp only [binOp, Op.stringOp, ahA]; rfl, abK⟩
 case leq => cases h; exact ⟨.bool (Op.bytesLess x y || x == y), by simp only [binOp, Op.stringOp, ahA]; rfl, abK⟩
 case gtr => cases h; exact ⟨.bool (!(Op.bytesLess x y || x == y)), by simp only [binOp, Op.stringOp, ahA]; rfl, abK⟩
 case geq => cases h; exact ⟨.bool (!(Op.bytesLess x y)), by simp only [binOp, Op.stringOp, ahA]; rfl, abK⟩
 all_goals cases h
theorem aAR (P : Program) (w : World) (d : Nat) (xt : TypeId) (hu : P.underlying xt = some .bool) (x y : Bool) : (Op.equalIn (d + 1) xt (.bool x) (.bool y)).run P w = .ok (x == y) w := by
 simp [Op.equalIn, run_underlying hu]
theorem aD8 (P : Program) (w : World) (xt : TypeId) (hu : P.underlying xt = some .bool) (x y : Bool) : (Op.equal xt (.bool x) (.bool y)).run P w = .ok (x == y) w :=
 aAR P w 9999 xt hu x y
def aAU (P : Program) (t : Ty) (xt : TypeId) : Bool :=
 match t with
 | .bool => match P.underlying xt with | some .bool => true | _ => false
 | _ => true
theorem aFO {op : BinOp} {x y : Bool} {r : AV} {xt : TypeId} (h : (aR5 op x y).Leaf r) (he : aAU P .bool xt = true) :
  ∃ v, (binOp op xt (.bool x) (.bool y)).run P w = .ok v w ∧ VR C ρ H w r v := by
 have hu : P.underlying xt = some .bool := by
  unfold aAU at he
  simp only at he
  split at he
  ·assumption
  ·cases he
 cases op
 case eql => cases h; exact ⟨.bool (x == y), by simp [binOp, aD8 P w xt hu], abK⟩
 case neq => cases h; exact ⟨.bool (!(x == y)), by simp [binOp, aD8 P w xt hu], abK⟩
 all_goals cases h
theorem aFN {op : BinOp} {t u : Ty} {x : t.T} {y : u.T} {r : AV} {vx vy : Value} {xt : TypeId} (h : (aQV op t x u y).Leaf r)
  (he : aAU P t xt = true) (hx : VR C ρ H w (.d t x) vx) (hy : VR C ρ H w (.d u y) vy) :
  t.agg = false ∧ ∃ v, (binOp op xt vx vy).run P w = .ok v w ∧ VR C ρ H w r v := by
 unfold aQV at h
 split at h
 ·rename_i k x j y
  obtain ⟨e1, hx'⟩ := abD hx
  obtain ⟨e2, hy'⟩ := abD hy
  refine ⟨rfl, ?_⟩
  rw [e1, e2]
  unfold aQz at h
  split at h
  ·exact ay5 hx' h xt
  ·rename_i hs
   split at h
   ·rename_i e; subst e; exact aFM hx' hs h xt
   ·cases h
 ·refine ⟨rfl, ?_⟩
  rw [adX hx, adX hy]
  exact aFO h he
 ·refine ⟨rfl, ?_⟩
  rw [(ad6 hx).1, (ad6 hy).1]
  exact aFL h xt
 ·cases h
theorem auD {op : BinOp} {t : Ty} {x : t.T} {vx vy : Value} {xt : TypeId} (a b : Operand) (ht : t.agg = false)
  (hx : VR C ρ H w (.d t x) vx) : (eqGuard op xt a b vx vy).run P w = .ok () w := by
 have h := hx.datum.scalar ht
 unfold eqGuard
 cases t <;> first | cases ht | skip
 ·obtain ⟨e, _⟩ := h; injection e with e _; subst e; split <;> simp
 ·have e : [vx] = [_] := h; injection e with e _; subst e; split <;> simp
 ·obtain ⟨e, _⟩ := h; injection e with e _; subst e; split <;> simp
 ·obtain ⟨a, cap, e, _⟩ := h; injection e with e _; subst e; split <;> simp
end
open Go Go.RowKit
def aDE (x : Bool) (a b : AV) : T AV :=
 match a, b with
 | .d t u, .d t' v => match t'.as t v with
  | some v' => .ok (.d t (cond x u v'))
  | none => .ite x (.ok a) (.ok b)
 | _, _ => .ite x (.ok a) (.ok b)
def aSf (k : IntKind) (x : Int) : AV := .d (.int k) (k.wrap (0 - x))
def aO8 (op : UnOp) (a : AV) : T AV :=
 match op, a with
 | .not, .d .bool x => .ok (.d .bool (!x))
 | .neg, .d (.int k) x => .ok (aSf k x)
 | _, _ => .bad
def aJg (P : Program) (s d : TypeId) (a : AV) : T AV :=
 match P.underlying s, P.underlying d, a with
 | some _, some (.int k), .d (.int _) n => .ok (.d (.int k) (k.wrap n))
 | some _, some .string, .d .str x => .ok (.d .str x)
 | _, _, _ => .bad
def aF2 : (t : Ty) → t.T → Nat → Option (Nat × (Σ u : Ty, u.T))
 | .pair t _, x, 0 => some (0, ⟨t, x.1⟩)
 | .pair t u, x, n + 1 => match aF2 u x.2 n with
  | some (o, y) => some (t.size + o, y)
  | none => none
 | _, _, _ => none
def aFo (P : Program) (t : TypeId) (u : Ty) : Bool :=
 match aFV P t, aa6 P t with
 | some b, some n => (b == u.agg) && Nat.beq n u.size
 | _, _ => false
def fieldAt (P : Program) (s : TypeId) (f : Nat) : Option Field :=
 match P.underlying s with
 | some (.struct fs) => fs[f]?
 | _ => none
def aCM (P : Program) (s : TypeId) (a : AV) (f : Nat) : T AV :=
 match fieldAt P s f with
 | some fl => match aa6 P fl.type with
  | some (_ + 1) => match a with
   | .ptr k off => .ok (.ptr k (off + fl.offset))
   | .dptr t x => match aF2 t x f with
    | some (o, ⟨u, y⟩) => match Nat.beq o fl.offset with
     | true => .ok (.dptr u y)
     | false => .bad
    | none => .bad
   | _ => .bad
  | _ => .bad
 | none => .bad
def aAM (P : Program) (H : Heap) (s : TypeId) (a : AV) (f : Nat) : T AV :=
 match a with
 | .eptr k i => match fieldAt P s f, H.find k with
  | some fl, some (.row _ u _) => match aa6 P fl.type, aLe u f with
   | some (_ + 1), some (o, _) => match Nat.beq o fl.offset with
    | true => .ok (.efp k i f)
    | false => .bad
   | _, _ => .bad
  | _, _ => .bad
 | a => aCM P s a f
def asJ (P : Program) (s : TypeId) (a : AV) (f : Nat) : T AV :=
 match fieldAt P s f with
 | some fl => match a with
  | .d t x => match aF2 t x f with
   | some (o, ⟨u, y⟩) => match Nat.beq o fl.offset && aFo P fl.type u && t.agg with
    | true => .ok (.d u y)
    | false => .bad
   | none => .bad
  | .ag cells => T.ofO (auV P fl.type cells fl.offset)
  | _ => .bad
 | none => .bad
section
variable {C : Ctx} {ρ : Nat → Nat} {H : Heap} {w : World} {P : Program}
theorem azS {x : Bool} {a b r : AV} {va vb : Value} (h : (aDE x a b).Leaf r) (ha : VR C ρ H w a va) (hb : VR C ρ H w b vb) :
  VR C ρ H w r (if x then va else vb) := by
 have base : ∀ r, (T.ite x (.ok a) (.ok b)).Leaf r → VR C ρ H w r (if x then va else vb) := by
  intro r h
  cases h with
  | t h => cases h; exact ha
  | f h => cases h; exact hb
 unfold aDE at h
 split at h
 ·split at h
  ·rename_i t u t' v v' e
   cases h
   cases x with
   | true => exact ha
   | false => exact .d (VR.as hb e)
  ·exact base r h
 ·exact base r h
theorem aEr {op : UnOp} {a r : AV} {v : Value} (h : (aO8 op a).Leaf r) (ha : VR C ρ H w a v) :
  ∃ v', (Op.unary op v).run P w = .ok v' w ∧ VR C ρ H w r v' := by
 unfold aO8 at h
 split at h
 ·cases h
  rw [adX ha]
  exact ⟨_, rfl, abK⟩
 ·cases h
  rw [(abD ha).1]
  exact ⟨_, rfl, ag0⟩
 ·cases h
theorem aA2 {s d : TypeId} {a r : AV} {v : Value} (h : (aJg P s d a).Leaf r) (ha : VR C ρ H w a v) :
  ∃ v', (convert s d v).run P w = .ok v' w ∧ VR C ρ H w r v' := by
 unfold aJg at h
 split at h
 ·rename_i ds k j n hs hd
  cases h
  rw [(abD ha).1]
  refine ⟨.int k (k.wrap n), ?_, ag0⟩
  simp only [convert, Sem.run_bind, run_underlying hs, run_underlying hd, Result.andThen_ok]
  cases ds <;> rfl
 ·rename_i ds x hs hd
  cases h
  obtain ⟨e, hl⟩ := ad6 ha
  rw [e]
  refine ⟨_, ?_, auO hl⟩
  simp only [convert, Sem.run_bind, run_underlying hs, run_underlying hd, Result.andThen_ok]
  cases ds <;> rfl
 ·cases h
theorem afI {ok : Nat → Prop} : ∀ (t : Ty) (x : t.T) (n o : Nat) (u : Ty) (y : u.T) (cs : List Value), aF2 t x n = some (o, ⟨u, y⟩) → Rd ok w t x cs →
  Rd ok w u y ((cs.drop o).take u.size) ∧ o + u.size ≤ t.size
 | .pair t u', x, 0, o, u, y, cs, h, hr => by
  simp only [aF2] at h
  injection h with h; injection h with h1 h2; injection h2 with h2 h3
  subst h1; subst h2
  have h3 := eq_of_heq h3
  subst h3
  obtain ⟨c1, c2, e, h4, _⟩ := hr
  subst e
  have := Rd.length _ _ _ h4
  refine ⟨?_, by simp [Ty.size]⟩
  rw [yz, List.take_left' this]
  exact h4
 | .pair t u', x, n + 1, o, u, y, cs, h, hr => by
  simp only [aF2] at h
  split at h
  ·rename_i o' y' hn
   injection h with h; injection h with h1 h2
   subst h1; subst h2
   obtain ⟨c1, c2, e, h4, h5⟩ := hr
   subst e
   obtain ⟨h6, h7⟩ := afI u' x.2 n o' u y c2 hn h5
   have hl := Rd.length _ _ _ h4
   refine ⟨?_, by simp only [Ty.size]; omega⟩
   have : (c1 ++ c2).drop (t.size + o') = c2.drop o' := by
    rw [wI, yx zb, xb]
    congr 1; omega
   rw [this]
   exact h6
  ·cases h
 | .int _, _, _, _, _, _, _, h, _ => by cases h
 | .bool, _, _, _, _, _, _, h, _ => by cases h
 | .str, _, _, _, _, _, _, h, _ => by cases h
 | .unit, _, _, _, _, _, _, h, _ => by cases h
 | .arr _ _, _, _, _, _, _, _, h, _ => by cases h
 | .sl _, _, _, _, _, _, _, h, _ => by cases h
theorem amD : ∀ {t : Ty} {x : t.T} {n o : Nat} {u : Ty} {y : u.T}, aF2 t x n = some (o, ⟨u, y⟩) → aNh t n = some (o, u)
 | .pair t u', x, 0, o, u, y, h => by
  simp only [aF2] at h
  injection h with h; injection h with h1 h2; injection h2 with h2 h3
  subst h1; subst h2
  rfl
 | .pair t u', x, n + 1, o, u, y, h => by
  simp only [aF2] at h
  split at h
  ·rename_i o' y' hn
   injection h with h; injection h with h1 h2
   subst h1; subst h2
   simp only [aNh, amD hn]
  ·cases h
 | .int _, _, _, _, _, _, h => by cases h
 | .bool, _, _, _, _, _, h => by cases h
 | .str, _, _, _, _, _, h => by cases h
 | .unit, _, _, _, _, _, h => by cases h
 | .arr _ _, _, _, _, _, _, h => by cases h
 | .sl _, _, _, _, _, _, h => by cases h
theorem aiL {s : TypeId} {f : Nat} {fl : Field} (h : fieldAt P s f = some fl) : ∃ fs, P.underlying s = some (.struct fs) ∧ fs[f]? = some fl := by
 unfold fieldAt at h
 split at h
 ·rename_i fs hu; exact ⟨fs, hu, h⟩
 ·cases h
theorem aaO {t : TypeId} {n : Nat} (h : aa6 P t = some n) (w : World) : (sizeOf t).run P w = .ok n w := by
 unfold aa6 at h
 cases hi : P.info? t with
 | none => rw [hi] at h; cases h
 | some i =>
  rw [hi] at h
  injection h with h
  subst h
  simp [sizeOf, typeInfo, hi]
theorem aeZ {t : TypeId} {b : Bool} (h : aFV P t = some b) (w : World) : (isAgg t).run P w = .ok b w := by
 unfold aFV at h
 split at h
 ·rename_i hu; injection h with h; subst h; simp [isAgg, run_underlying hu]
 ·rename_i hu; injection h with h; subst h; simp [isAgg, run_underlying hu]
 ·rename_i d h1 h2 hu
  injection h with h; subst h
  simp only [isAgg, Sem.run_bind, run_underlying hu, Result.andThen_ok]
  cases d <;> first | rfl | exact absurd hu (by simpa using h1 _) | exact absurd hu (by simpa using h2 _ _)
 ·cases h
theorem axU {s : TypeId} {f : Nat} {a r : AV} {v : Value} (h : (aCM P s a f).Leaf r) (ha : VR C ρ H w a v) :
  ∃ v', (Instr.fieldAt s v f).run P w = .ok v' w ∧ VR C ρ H w r v' := by
 unfold aCM at h
 split at h
 ·rename_i fl hf
  obtain ⟨fs, hu, hfs⟩ := aiL hf
  split at h
  ·rename_i n hsz
   have hrun : ∀ b o, (Instr.fieldAt s (.pointer (some ⟨b, o, none⟩)) f).run P w = .ok (.pointer (some ⟨b, o + fl.offset, none⟩)) w := by
    intro b o
    have hadd : (⟨b, o, none⟩ : Addr).add fl.offset = ⟨b, o + fl.offset, none⟩ := by unfold Addr.add; split <;> simp_all
    simp [Instr.fieldAt, run_underlying hu, hfs, Instr.sureAddr, fieldPlace, aaO hsz, hadd]
   split at h
   ·cases h
    cases ha with
    | ptr hk => exact ⟨_, hrun _ _, .ptr hk⟩
   ·split at h
    ·rename_i o u y hn
     split at h
     ·rename_i ho
      cases h
      have ho := aaD ho
      subst ho
      cases ha with
      | dptr hb hc hs hr =>
       obtain ⟨h1, h2⟩ := afI _ _ _ _ _ _ _ hn hr
       refine ⟨_, hrun _ _, .dptr hb hc zb ?_⟩
       rw [xJ, yP, zT, yl zb] at h1
       exact h1
     ·cases h
    ·cases h
   ·cases h
  ·cases h
 ·cases h
theorem aAL {H0 : Heap} (hsub : ∀ x ∈ H0, x ∈ H) {next : Nat} (hm : MRel C ρ H next w) {s : TypeId} {f : Nat} {a r : AV} {v : Value} (h : (aAM P H0 s a f).Leaf r) (ha : VR C ρ H w a v) :
  ∃ v', (Instr.fieldAt s v f).run P w = .ok v' w ∧ VR C ρ H w r v' := by
 unfold aAM at h
 split at h
 ·rename_i k i
  split at h
  ·rename_i fl e u l hf hk
   obtain ⟨fs, hu, hfs⟩ := aiL hf
   split at h
   ·rename_i n o v hsz ho
    split at h
    ·rename_i hb
     cases h
     have hb := aaD hb
     subst hb
     have hk := hsub _ (Heap.find_mem hk)
     cases ha with
     | eptr hk' hi =>
      have hu' := Heap.mem_unique hm.nodup hk hk'
      injection hu' with hu1 hu2 hu3
      subst hu1; subst hu2
      have hu3 := eq_of_heq hu3
      subst hu3
      have hadd : ∀ b p, (⟨b, p, none⟩ : Addr).add fl.offset = ⟨b, p + fl.offset, none⟩ := by intro b p; unfold Addr.add; split <;> simp_all
      refine ⟨_, ?_, .efp hk hi ho⟩
      simp [Instr.fieldAt, run_underlying hu, hfs, Instr.sureAddr, fieldPlace, aaO hsz, hadd]
    ·cases h
   ·cases h
  ·cases h
 ·exact axU h ha
theorem akC {t : TypeId} {u : Ty} (h : aFo P t u = true) : aFV P t = some u.agg ∧ aa6 P t = some u.size := by
 unfold aFo at h
 split at h
 ·rename_i b n h1 h2
  simp only [zl, yO] at h
  rw [h1, h2, h.1, aaD h.2]
  exact ⟨rfl, rfl⟩
 ·cases h
theorem ahE {ok : Nat → Prop} {t : TypeId} {u : Ty} {y : u.T} {cs : List Value} {o : Nat} (ht : aFo P t u = true) (ho : o + u.size ≤ cs.length ∨ u.size = 0)
  (hr : Rd ok w u y ((cs.drop o).take u.size)) : ∃ v, (part t ⟨cs⟩ o).run P w = .ok v w ∧ RdV ok w u y v := by
 obtain ⟨h1, h2⟩ := akC ht
 cases hag : u.agg with
 | true =>
  rw [hag] at h1
  refine ⟨.agg ⟨(cs.drop o).take u.size⟩, ?_, ⟨_, hr, by simp [vOf, hag]⟩⟩
  simp only [part, Sem.run_bind, aeZ h1, aaO h2, Result.andThen_ok, if_true, Sem.run_pure]
  congr 2
  apply Array.ext'
  rw [wg, wx, yS]
 | false =>
  rw [hag] at h1
  have hl := Rd.length _ _ _ hr
  have h1s : u.size = 1 := by cases u <;> first | rfl | cases hag
  rw [h1s] at hr ho
  have hlt : o < cs.length := zb
  have hd : (cs.drop o).take 1 = [cs[o]] := by
   rw [yv hlt]; rfl
  rw [hd] at hr
  refine ⟨cs[o], ?_, RdV.of_scalar hag hr⟩
  simp [part, aeZ h1, hlt]
theorem arM {ok : Nat → Prop} {t : TypeId} {u : Ty} {y : u.T} {cs : List Value} {o : Nat} (ht : aFo P t u = true) (ho : o + u.size ≤ cs.length)
  (hr : Rd ok w u y ((cs.drop o).take u.size)) : ∃ v, (part t ⟨cs⟩ o).run P w = .ok v w ∧ RdV ok w u y v := ahE ht (Or.inl ho) hr
theorem ajC {t : TypeId} {cells : List AV} {o : Nat} {r : AV} {cs : List Value} (h : auV P t cells o = some r) (hv : VRs C ρ H w cells cs) (h1 : ∀ v ∈ cs, v.oneCell' = true) :
  ∃ v, (part t ⟨cs⟩ o).run P w = .ok v w ∧ VR C ρ H w r v := by
 unfold auV at h
 split at h
 ·rename_i n ha hs
  split at h
  ·rename_i hle
   injection h with h; subst h
   refine ⟨.agg ⟨(cs.drop o).take n⟩, ?_, al2 ((hv.drop o).take n) (fun v hv' => h1 v (yT (yI hv')))⟩
   simp only [part, Sem.run_bind, aeZ ha, aaO hs, Result.andThen_ok, if_true, Sem.run_pure]
   congr 2
   apply Array.ext'
   rw [wg, wx, yS]
  ·cases h
 ·rename_i n ha hs
  obtain ⟨v, hv1, hv2⟩ := hv.get h
  refine ⟨v, ?_, hv2⟩
  simp [part, aeZ ha, hv1]
 ·cases h
theorem axQ {s : TypeId} {f : Nat} {a r : AV} {v : Value} (h : (asJ P s a f).Leaf r) (ha : VR C ρ H w a v) :
  ∃ v', (Instr.field s v f).run P w = .ok v' w ∧ VR C ρ H w r v' := by
 unfold asJ at h
 split at h
 ·rename_i fl hf
  obtain ⟨fs, hu, hfs⟩ := aiL hf
  have hrun : ∀ cs : List Value, (Instr.field s (.agg ⟨cs⟩) f).run P w = (part fl.type ⟨cs⟩ fl.offset).run P w := by
   intro cs
   simp [Instr.field, run_underlying hu, hfs, asAgg]
  split at h
  ·rename_i t x
   split at h
   ·rename_i o u y hn
    split at h
    ·rename_i hc
     cases h
     simp only [zl] at hc
     obtain ⟨⟨ho, hty⟩, hag⟩ := hc
     have ho := aaD ho
     subst ho
     obtain ⟨cs, hr, hv⟩ := ha.datum
     simp only [vOf, hag, if_true] at hv
     subst hv
     obtain ⟨h3, h4⟩ := afI _ _ _ _ _ _ _ hn hr
     have hl := Rd.length _ _ _ hr
     obtain ⟨v', h5, h6⟩ := arM (P := P) hty zb h3
     exact ⟨v', by rw [hrun]; exact h5, .d h6⟩
    ·cases h
   ·cases h
  ·rename_i cells
   have h := T.Leaf.ofO h
   cases ha with
   | ag h1 h2 =>
    obtain ⟨v', h5, h6⟩ := ajC h h1 h2
    exact ⟨v', by rw [hrun]; exact h5, h6⟩
  ·cases h
 ·cases h
theorem RdL.getD {α : Type} {R : α → List Value → Prop} {n : Nat} (hn : ∀ x cs, R x cs → cs.length = n) (d : α) :
  ∀ (l : List α) (cs : List Value) (i : Nat), RdL R l cs → i < l.length → R (l.getD i d) ((cs.drop (i * n)).take n)
 | [], _, i, _, hi => by simp at hi
 | x :: xs, cs, 0, ⟨c1, c2, e, h1, h2⟩, _ => by
  subst e
  have := hn _ _ h1
  simpa [List.take_left' this] using h1
 | x :: xs, cs, i + 1, ⟨c1, c2, e, h1, h2⟩, hi => by
  subst e
  have hl := hn _ _ h1
  have ih := RdL.getD hn d xs c2 i h2 (by simpa using hi)
  have : (c1 ++ c2).drop ((i + 1) * n) = c2.drop (i * n) := by
   rw [wI, yx (by rw [hl, zV]; omega), xb, hl, zV]
   congr 1; omega
  rw [this]
  simpa using ih
end
def aC2 {α : Type} (n : Int) (f : Nat → T α) : Nat → T α
 | 0 => .bad
 | j + 1 => .ite (n == (j : Int)) (f j) (aC2 n f j)
theorem ahN {α : Type} {n : Int} {f : Nat → T α} {r : α} : ∀ {m : Nat}, (aC2 n f m).Leaf r → ∃ j : Nat, n = (j : Int) ∧ (f j).Leaf r
 | 0, h => by cases h
 | j + 1, h => by
  simp only [aC2] at h
  generalize hb : (n == (j : Int)) = b at h
  cases h with
  | t h => exact ⟨j, by simpa using hb, h⟩
  | f h => exact ahN h
def aP2 (t : Ty) (x : t.T) (f : Nat) : Option (Nat × (Σ u : Ty, u.T)) := match f / 1024 with
 | 0 => aF2 t x f
 | j + 1 => match aF2 t x (f % 1024) with
  | some (o, ⟨.arr n v, y⟩) => match Nat.blt j n with
   | true => some (o + j * v.size, ⟨v, List.getD (α := v.T) y j v.dflt⟩)
   | false => none
  | _ => none
theorem aLd {t : Ty} {x : t.T} {f o : Nat} {u : Ty} {y : u.T} (h : aP2 t x f = some (o, ⟨u, y⟩)) : aLe t f = some (o, u) := by
 unfold aP2 at h
 unfold aLe
 split at h
 ·rename_i e; try rw [e]
  exact amD h
 ·rename_i j e
  try rw [e]
  split at h
  ·rename_i o' n v z hn
   simp only [amD hn]
   split at h
   ·rename_i hb
    injection h with h; injection h with h1 h2; injection h2 with h2 _
    subst h1; subst h2
    simp only [hb]
   ·cases h
  ·cases h
theorem aFd {ok : Nat → Prop} {w : World} (t : Ty) (x : t.T) (f o : Nat) (u : Ty) (y : u.T) (cs : List Value) (h : aP2 t x f = some (o, ⟨u, y⟩)) (hr : Rd ok w t x cs) : Rd ok w u y ((cs.drop o).take u.size) ∧ o + u.size ≤ t.size := by
 unfold aP2 at h
 split at h
 ·exact afI t x _ o u y cs h hr
 ·rename_i j e
  split at h
  ·rename_i o' n v z hn
   split at h
   ·rename_i hb
    injection h with h; injection h with h1 h2; injection h2 with h2 h3
    subst h1; subst h2
    have h3 := eq_of_heq h3
    subst h3
    obtain ⟨⟨g1, g2⟩, g3⟩ := afI t x _ o' (.arr n v) z cs hn hr
    have hj : j < n := Nat.le_of_ble_eq_true hb
    have hle : (j + 1) * v.size ≤ n * v.size := zC _ hj
    rw [zV] at hle
    simp only [Ty.size] at g3 g2
    have := RdL.getD (fun x cs => Rd.length v x cs) v.dflt z _ j g2 (by rw [g1]; exact hj)
    rw [ab8 _ _ _ _ hle, zT] at this
    exact ⟨this, by omega⟩
   ·cases h
  ·cases h
def aRX (u : Ty) (k i f m j : Nat) : T AV := match aLe u f, aLe u (f + 1024 * (j + 1)) with
 | some (o, _), some (o', _) => match Nat.beq o' (o + j * m) with
  | true => .ok (.efp k i (f + 1024 * (j + 1)))
  | false => .bad
 | _, _ => .bad
def aIp (P : Program) (H : Heap) (t : TypeId) (a : AV) (n : Int) : T AV :=
 match P.underlying t with
  | some (.slice e) => match a with
   | .d (.sl u) l => match aa6 P e with
    | some m => match Nat.beq m u.size with
     | true => .need (0 ≤ n ∧ n < (l.length : Int)) (.ok (.dptr u (l.getD n.toNat u.dflt)))
     | false => .bad
    | none => .bad
   | .own k off len => match H.find k, aa6 P e with
    | some (.row _ u _), some m => match Nat.beq m u.size with
     | true => .need (0 ≤ n ∧ n < (len : Int)) (.ok (.eptr k (off + n.toNat)))
     | false => .bad
    | _, _ => .bad
   | .sv k o len _ => match aa6 P e with
    | some m => .need (0 ≤ n ∧ n < (len : Int)) (aC2 n (fun j => .ok (.ptr k (o + j * m))) len)
    | none => .bad
   | _ => .bad
  | some (.array len e) => match a with
   | .ptr k off => match aa6 P e with
    | some m => .need (0 ≤ n ∧ n < (len : Int)) (aC2 n (fun j => .ok (.ptr k (off + j * m))) len)
    | none => .bad
   | .efp k i f => match aa6 P e, H.find k with
    | some m, some (.row _ u _) => .need (0 ≤ n ∧ n < (len : Int)) (aC2 n (fun j => aRX u k i f m j) len)
    | _, _ => .bad
   | .dptr (.arr m' u) l => match aa6 P e with
    | some m => match Nat.beq m u.size && Nat.beq m' len with
     | true => .need (0 ≤ n ∧ n < (len : Int)) (.ok (.dptr u (l.getD n.toNat u.dflt)))
     | false => .bad
    | none => .bad
   | _ => .bad
  | _ => .bad
def ar7 (P : Program) (H : Heap) (t : TypeId) (a i : AV) : T AV :=
 match i with
 | .d (.int _) n => aIp P H t a n
 | _ => .bad
def aIo (P : Program) (t : TypeId) (a : AV) (n : Int) : T AV :=
 match P.underlying t with
  | some .string => match a with
   | .d .str l => .need (0 ≤ n ∧ n < (l.length : Int)) (.ok (.d (.int .u8) ((l.getD n.toNat 0).toNat : Int)))
   | _ => .bad
  | some (.array len e) => match a with
   | .d (.arr m' u) l => match aFo P e u && Nat.beq m' len with
    | true => .need (0 ≤ n ∧ n < (len : Int)) (.ok (.d u (l.getD n.toNat u.dflt)))
    | false => .bad
   | .ag cells => match aa6 P e with
    | some m => .need (0 ≤ n ∧ n < (len : Int)) (aC2 n (fun j => T.ofO (auV P e cells (j * m))) len)
    | none => .bad
   | _ => .bad
  | _ => .bad
def ar6 (P : Program) (t : TypeId) (a i : AV) : T AV :=
 match i with
 | .d (.int _) n => aIo P t a n
 | _ => .bad
section
variable {C : Ctx} {ρ : Nat → Nat} {H : Heap} {w : World} {P : Program}
theorem af5 (b o n : Nat) : (⟨b, o, none⟩ : Addr).add n = ⟨b, o + n, none⟩ := by unfold Addr.add; split <;> simp_all
theorem aAr {H0 : Heap} (hsub : ∀ x ∈ H0, x ∈ H) {next : Nat} (hm : MRel C ρ H next w) {t : TypeId} {a r : AV} {v : Value} {k : IntKind} {n : Int} (h : (aIp P H0 t a n).Leaf r) (ha : VR C ρ H w a v) :
  ∃ v', (Instr.indexAt t v (.int k n)).run P w = .ok v' w ∧ VR C ρ H w r v' := by
 unfold aIp at h
 ·split at h
  ·rename_i e hu
   have hrun : ∀ (b o len cap m : Nat), aa6 P e = some m → 0 ≤ n → n < (len : Int) →
     (Instr.indexAt t (.slice (some ⟨b, o, none⟩) len cap) (.int k n)).run P w = .ok (.pointer (some ⟨b, o + n.toNat * m, none⟩)) w := by
    intro b o len cap m hs h0 h1
    simp [Instr.indexAt, asIntOf, run_underlying hu, h0, h1, aaO hs, af5]
   split at h
   ·rename_i u l
    split at h
    ·rename_i m hs
     split at h
     ·rename_i hb
      have hb := aaD hb
      subst hb
      cases h with
      | need hp h =>
       cases h
       obtain ⟨a', cap, e1, h2, h3, h4⟩ := ha.datum.scalar rfl
       injection e1 with e1 _
       subst e1
       have hne : l ≠ [] := fun e => by subst e; simp at hp; omega
       obtain ⟨b, o, c, e', fr, ha', hok, hb, hs', hr⟩ := h4.resolve_left hne
       subst ha'
       have hlt : n.toNat < l.length := zb
       have hle : (n.toNat + 1) * u.size ≤ l.length * u.size := zC _ hlt
       rw [zV] at hle
       refine ⟨_, hrun _ _ _ _ _ hs hp.1 hp.2, .dptr hok hb zb ?_⟩
       have := RdL.getD (fun x cs => Rd.length u x cs) u.dflt l _ n.toNat hr hlt
       rw [ab8 _ _ _ _ hle, zT] at this
       exact this
     ·cases h
    ·cases h
   ·rename_i kk off len
    split at h
    ·rename_i e2 u l m hf hs
     split at h
     ·rename_i hb
      have hb := aaD hb
      subst hb
      cases h with
      | need hp h =>
       cases h
       have hk := hsub _ (Heap.find_mem hf)
       cases ha with
       | own hk' hl hc hmx hb hsz ha =>
        have hu' := Heap.mem_unique hm.nodup hk hk'
        injection hu' with hu1 hu2 hu3
        subst hu1; subst hu2
        have ha' := ha.resolve_right (fun h => by omega)
        subst ha'
        refine ⟨_, hrun _ _ _ _ _ hs hp.1 hp.2, ?_⟩
        rw [← zX]
        have hu3 := eq_of_heq hu3
        subst hu3
        exact .eptr hk (by have := hp.2; omega)
     ·cases h
    ·cases h
   ·rename_i kk o len cc
    split at h
    ·rename_i m hs
     cases h with
     | need hp h =>
      obtain ⟨j, hj, h⟩ := ahN h
      cases h
      obtain rfl : n.toNat = j := zb
      cases ha with
      | sv hk hn _ => exact ⟨_, hrun _ _ _ _ _ hs hp.1 hp.2, .ptr hk⟩
    ·cases h
   ·cases h
  ·rename_i len e hu
   have hrun : ∀ (b o m : Nat), aa6 P e = some m → 0 ≤ n → n < (len : Int) →
     (Instr.indexAt t (.pointer (some ⟨b, o, none⟩)) (.int k n)).run P w = .ok (.pointer (some ⟨b, o + n.toNat * m, none⟩)) w := by
    intro b o m hs h0 h1
    simp [Instr.indexAt, asIntOf, run_underlying hu, h0, h1, aaO hs, af5, Instr.sureAddr]
   split at h
   ·rename_i kk off
    split at h
    ·rename_i m hs
     cases h with
     | need hp h =>
      obtain ⟨j, hj, h⟩ := ahN h
      cases h
      obtain rfl : n.toNat = j := zb
      cases ha with
      | ptr hk => exact ⟨_, hrun _ _ _ hs hp.1 hp.2, .ptr hk⟩
    ·cases h
   ·rename_i kk i f
    split at h
    ·rename_i m e' u l hs hk
     cases h with
     | need hp h =>
      obtain ⟨j, hj, h⟩ := ahN h
      obtain rfl : n.toNat = j := zb
      unfold aRX at h
      split at h
      ·rename_i o _ o' _ ho ho'
       split at h
       ·rename_i hb
        cases h
        have hb := aaD hb
        subst hb
        have hk := hsub _ (Heap.find_mem hk)
        cases ha with
        | efp hk' hi ho2 =>
         have hu' := Heap.mem_unique hm.nodup hk hk'
         injection hu' with hu1 hu2 hu3
         subst hu1; subst hu2
         have hu3 := eq_of_heq hu3
         subst hu3
         rw [ho] at ho2
         injection ho2 with ho2
         injection ho2 with ho2 _
         subst ho2
         refine ⟨_, hrun _ _ _ hs hp.1 hp.2, ?_⟩
         have := VR.efp (C := C) (ρ := ρ) (w := w) hk hi ho'
         rwa [← wG] at this
       ·cases h
      ·cases h
    ·cases h
   ·rename_i m' u l
    split at h
    ·rename_i m hs
     split at h
     ·rename_i hb
      simp only [zl] at hb
      have hb1 := aaD hb.1
      have hb2 := aaD hb.2
      subst hb1; subst hb2
      cases h with
      | need hp h =>
       cases h
       cases ha with
       | dptr hok hc ho hr =>
        obtain ⟨hl, hr⟩ := hr
        have hlt : n.toNat < l.length := by rw [hl]; omega
        have hle : (n.toNat + 1) * u.size ≤ m' * u.size := zC _ (by rw [hl] at hlt; exact hlt)
        rw [zV] at hle
        simp only [Ty.size] at ho hr
        refine ⟨_, hrun _ _ _ hs hp.1 hp.2, .dptr hok hc zb ?_⟩
        have := RdL.getD (fun x cs => Rd.length u x cs) u.dflt l _ n.toNat hr hlt
        rw [ab8 _ _ _ _ hle, zT] at this
        exact this
     ·cases h
    ·cases h
   ·cases h
  ·cases h
theorem axL {H0 : Heap} (hsub : ∀ x ∈ H0, x ∈ H) {next : Nat} (hm : MRel C ρ H next w) {t : TypeId} {a i r : AV} {v vi : Value} (h : (ar7 P H0 t a i).Leaf r) (ha : VR C ρ H w a v) (hi : VR C ρ H w i vi) :
  ∃ v', (Instr.indexAt t v vi).run P w = .ok v' w ∧ VR C ρ H w r v' := by
 unfold ar7 at h
 split at h
 ·rw [(abD hi).1]; exact aAr hsub hm h ha
 ·cases h
theorem aJq (l : List UInt8) (i : Nat) (h : i < l.length) : (⟨⟨l⟩⟩ : ByteArray)[i]? = some (l.getD i 0) := by
 rw [getElem?_pos _ _ (by show i < l.length; exact h)]
 congr 1
 show l[i] = _
 simp [h]
theorem aAp {t : TypeId} {a r : AV} {v : Value} {k : IntKind} {n : Int} (h : (aIo P t a n).Leaf r) (ha : VR C ρ H w a v) :
  ∃ v', (Instr.index t v (.int k n)).run P w = .ok v' w ∧ VR C ρ H w r v' := by
 unfold aIo at h
 ·split at h
  ·rename_i hu
   split at h
   ·rename_i l
    cases h with
    | need hp h =>
     cases h
     obtain ⟨e, _⟩ := ad6 ha
     subst e
     have hlt : n.toNat < l.length := zb
     have hg := aJq l n.toNat hlt
     refine ⟨.int .u8 ((l.getD n.toNat 0).toNat : Int), ?_, ?_⟩
     ·simp [Instr.index, asIntOf, run_underlying hu, hp.1, hg]
     ·have := (l.getD n.toNat 0).toNat_lt
      exact auP (by simp [IntKind.min, IntKind.signed]) (by simp [IntKind.max, IntKind.signed, IntKind.bits]; omega)
   ·cases h
  ·rename_i len e hu
   split at h
   ·rename_i m' u l
    split at h
    ·rename_i hb
     simp only [zl] at hb
     have hb2 := aaD hb.2
     subst hb2
     cases h with
     | need hp h =>
      cases h
      obtain ⟨cs, hr, hv⟩ := ha.datum
      simp only [vOf, Ty.agg, if_true] at hv
      subst hv
      obtain ⟨hl, hr⟩ := hr
      have hlt : n.toNat < l.length := by rw [hl]; omega
      have hle : (n.toNat + 1) * u.size ≤ m' * u.size := zC _ (by rw [hl] at hlt; exact hlt)
      rw [zV] at hle
      have hcl := RdL.length (fun x cs => Rd.length u x cs) _ _ hr
      rw [hl] at hcl
      obtain ⟨v', h5, h6⟩ := arM (P := P) hb.1 zb (RdL.getD (fun x cs => Rd.length u x cs) u.dflt l _ n.toNat hr hlt)
      refine ⟨v', ?_, .d h6⟩
      simp only [Instr.index, asIntOf, Sem.run_bind, Sem.run_pure, run_underlying hu, Result.andThen_ok, Sem.run_ite, if_pos hp, aaO (akC hb.1).2]
      exact h5
    ·cases h
   ·rename_i cells
    split at h
    ·rename_i m hs
     cases h with
     | need hp h =>
      obtain ⟨j, hj, h⟩ := ahN h
      have h := T.Leaf.ofO h
      obtain rfl : n.toNat = j := zb
      cases ha with
      | ag h1 h2 =>
       obtain ⟨v', h5, h6⟩ := ajC h h1 h2
       refine ⟨v', ?_, h6⟩
       simp only [Instr.index, asIntOf, Sem.run_bind, Sem.run_pure, run_underlying hu, Result.andThen_ok, Sem.run_ite, if_pos hp, aaO hs]
       exact h5
    ·cases h
   ·cases h
  ·cases h
theorem axJ {t : TypeId} {a i r : AV} {v vi : Value} (h : (ar6 P t a i).Leaf r) (ha : VR C ρ H w a v) (hi : VR C ρ H w i vi) :
  ∃ v', (Instr.index t v vi).run P w = .ok v' w ∧ VR C ρ H w r v' := by
 unfold ar6 at h
 split at h
 ·rw [(abD hi).1]; exact aAp h ha
 ·cases h
end
open Go Go.RowKit
def aBa (n : Int) (m : Nat) : T Nat := .need (0 ≤ n ∧ n ≤ (m : Int)) (.ok n.toNat)
def ad1 (a : Option AV) (m d : Nat) : T Nat :=
 match a with
 | none => .ok d
 | some (.d (.int _) n) => aBa n m
 | some _ => .bad
def aBJ (P : Program) (t : TypeId) (a : AV) (lo hi mx : Option AV) : T AV :=
 match mx with
 | some _ => .bad
 | none => match P.underlying t with
  | some .string => match a with
   | .d .str l => (ad1 hi l.length l.length).bind fun h => (ad1 lo h 0).bind fun k => .ok (.d .str ((l.drop k).take (h - k)))
   | _ => .bad
  | some (.slice e) => match a with
   | .d (.sl u) l => match aa6 P e with
    | some m => match Nat.beq m u.size with
     | true => (ad1 hi l.length l.length).bind fun h => (ad1 lo h 0).bind fun k => .ok (.d (.sl u) ((l.drop k).take (h - k)))
     | false => .bad
    | none => .bad
   | .nsl => match aa6 P e with
    | some _ => (ad1 hi 0 0).bind fun h => (ad1 lo h 0).bind fun _ => .ok .nsl
    | none => .bad
   | _ => .bad
  | _ => .bad
def aBI (P : Program) (t : TypeId) (a : AV) (lo hi : Option AV) (mx : AV) : T AV :=
 match P.underlying t with
 | some (.slice e) => match a with
  | .d (.sl u) l => match aa6 P e, hi with
   | some m, some hi => match Nat.beq m u.size with
    | true => (ad1 (some mx) l.length 0).bind fun c => (ad1 (some hi) c 0).bind fun h => (ad1 lo h 0).bind fun k => .ok (.d (.sl u) ((l.drop k).take (h - k)))
    | false => .bad
   | _, _ => .bad
  | _ => .bad
 | _ => .bad
def awV (P : Program) (t : TypeId) (k off : Nat) (lo hi mx : Option AV) : T AV :=
 match lo, mx with
 | none, none => match P.underlying t with
  | some (.array n e) => match Nat.ble n lim, aa6 P e with
   | true, some _ => (ad1 hi n n).bind fun h => .ok (.sv k off h n)
   | _, _ => .bad
  | _ => .bad
 | _, _ => .bad
def awT (P : Program) (H : Heap) (t : TypeId) (k off len : Nat) (lo hi mx : Option AV) : T AV :=
 match mx with
 | some _ => .bad
 | none => match P.underlying t with
  | some (.slice e) => match H.find k, aa6 P e with
   | some (.row _ u _), some m => match Nat.beq m u.size with
    | true => (ad1 hi len len).bind fun h => (ad1 lo h 0).bind fun j => .ok (.own k (off + j) (h - j))
    | false => .bad
   | _, _ => .bad
  | _ => .bad
def aSe : AV → Option AV → Option AV → Option (Nat × Nat × Nat)
 | .ox k off len, none, none => some (k, off, len)
 | _, _, _ => none
def aBH (P : Program) (H : Heap) (t : TypeId) (k off len : Nat) (lo : Option AV) : T AV :=
 match P.underlying t with
 | some (.slice e) => match H.find k, aa6 P e with
  | some (.row _ u _), some m => match Nat.beq m u.size with
   | true => (ad1 lo len 0).bind fun j => .ok (.ox k (off + j) (len - j))
   | false => .bad
  | _, _ => .bad
 | _ => .bad
def OVR (C : Ctx) (ρ : Nat → Nat) (H : Heap) (w : World) : Option AV → Option Value → Prop
 | none, none => True
 | some a, some v => VR C ρ H w a v
 | _, _ => False
section
variable {C : Ctx} {ρ : Nat → Nat} {H : Heap} {w : World} {P : Program}
theorem abV {lo hi : Option AV} {vlo vhi : Option Value} {b : Bool} {len cap h l : Nat} (hlen : len ≤ cap)
  (hh : (ad1 hi len len).Leaf h) (hl : (ad1 lo h 0).Leaf l) (h1 : OVR C ρ H w hi vhi) (h2 : OVR C ρ H w lo vlo) :
  (Instr.sliceBounds b len cap vlo vhi none).run P w = .ok (l, h, cap) w ∧ l ≤ h ∧ h ≤ len := by
 have keyI : ∀ (k : IntKind) (n : Int) (m m' d r : Nat) (code : BoundsCode), m ≤ m' → (aBa n m).Leaf r →
   r ≤ m ∧ ((some (Value.int k n) = none ∧ r = d) ∨ ∃ u, some (Value.int k n) = some u ∧ (Instr.sliceBound u m' code).run P w = .ok r w) := by
  intro k n m m' d r code hm hb
  unfold aBa at hb
  cases hb with
  | need hp hb =>
   cases hb
   refine ⟨by have := hp.2; omega, Or.inr ⟨_, rfl, ?_⟩⟩
   have h3 : 0 ≤ n ∧ n ≤ (m' : Int) := ⟨hp.1, by have := hp.2; omega⟩
   simp only [Instr.sliceBound, asIntOf, Sem.run_bind, Sem.run_pure, Result.andThen_ok, Sem.run_ite, if_pos h3]
 have key : ∀ (a : Option AV) (v : Option Value) (m m' d r : Nat) (code : BoundsCode), m ≤ m' → d ≤ m → (ad1 a m d).Leaf r → OVR C ρ H w a v →
   r ≤ m ∧ ((v = none ∧ r = d) ∨ ∃ u, v = some u ∧ (Instr.sliceBound u m' code).run P w = .ok r w) := by
  intro a v m m' d r code hm hd hb hv
  unfold ad1 at hb
  split at hb
  ·cases hb
   cases v with
   | none => exact ⟨hd, Or.inl ⟨rfl, rfl⟩⟩
   | some u => exact hv.elim
  ·rename_i k n
   cases v with
   | none => exact hv.elim
   | some u =>
    have he := (abD hv).1
    subst he
    exact keyI k n m m' d r code hm hb
  ·cases hb
 obtain ⟨k1, k2⟩ := key hi vhi len cap len h (if b then .sliceAcap else .sliceAlen) hlen (zj _) hh h1
 obtain ⟨k3, k4⟩ := key lo vlo h h 0 l .sliceB (zj _) (ya _) hl h2
 refine ⟨?_, k3, k1⟩
 rcases k2 with ⟨rfl, rfl⟩ | ⟨u, rfl, hu⟩ <;> rcases k4 with ⟨rfl, rfl⟩ | ⟨u', rfl, hu'⟩ <;> simp_all [Instr.sliceBounds]
theorem av1 {k : IntKind} {n : Int} {m m' r : Nat} {code : BoundsCode} (hm : m ≤ m') (hb : (aBa n m).Leaf r) :
  r ≤ m ∧ (Instr.sliceBound (.int k n) m' code).run P w = .ok r w := by
 unfold aBa at hb
 cases hb with
 | need hp hb =>
  cases hb
  refine ⟨by have := hp.2; omega, ?_⟩
  have h3 : 0 ≤ n ∧ n ≤ (m' : Int) := ⟨hp.1, by have := hp.2; omega⟩
  simp only [Instr.sliceBound, asIntOf, Sem.run_bind, Sem.run_pure, Result.andThen_ok, Sem.run_ite, if_pos h3]
theorem atC {a : Option AV} {v : Option Value} {m m' d r : Nat} {code : BoundsCode} (hm : m ≤ m') (hd : d ≤ m) (hb : (ad1 a m d).Leaf r) (hv : OVR C ρ H w a v) :
  r ≤ m ∧ ((v = none ∧ r = d) ∨ ∃ u, v = some u ∧ (Instr.sliceBound u m' code).run P w = .ok r w) := by
 unfold ad1 at hb
 split at hb
 ·cases hb
  cases v with
  | none => exact ⟨hd, Or.inl ⟨rfl, rfl⟩⟩
  | some u => exact hv.elim
 ·rename_i k n
  cases v with
  | none => exact hv.elim
  | some u =>
   have he := (abD hv).1
   subst he
   exact ⟨(av1 (P := P) (w := w) (k := k) (code := code) hm hb).1, Or.inr ⟨_, rfl, (av1 hm hb).2⟩⟩
 ·cases hb
theorem ai1 {lo : Option AV} {hi mx : AV} {vlo : Option Value} {vhi vmx : Value} {b : Bool} {len len0 cap c h l : Nat} (hlen : len ≤ cap)
  (hc : (ad1 (some mx) len 0).Leaf c) (hh : (ad1 (some hi) c 0).Leaf h) (hl : (ad1 lo h 0).Leaf l) (h0 : VR C ρ H w mx vmx) (h1 : VR C ρ H w hi vhi) (h2 : OVR C ρ H w lo vlo) :
  (Instr.sliceBounds b len0 cap vlo (some vhi) (some vmx)).run P w = .ok (l, h, c) w ∧ l ≤ h ∧ h ≤ c ∧ c ≤ len := by
 obtain ⟨k1, k2⟩ := atC (P := P) (w := w) (code := if b then .slice3Acap else .slice3Alen) hlen (ya _) hc (show OVR C ρ H w (some mx) (some vmx) from h0)
 obtain ⟨k3, k4⟩ := atC (P := P) (w := w) (code := .slice3B) (zj c) (ya _) hh (show OVR C ρ H w (some hi) (some vhi) from h1)
 obtain ⟨k5, k6⟩ := atC (P := P) (w := w) (code := .slice3C) (zj h) (ya _) hl h2
 refine ⟨?_, k5, k3, k1⟩
 rcases k2 with ⟨h, _⟩ | ⟨u, e, hu⟩
 ·cases h
 injection e with e; subst e
 rcases k4 with ⟨h, _⟩ | ⟨u, e, hu2⟩
 ·cases h
 injection e with e; subst e
 rcases k6 with ⟨rfl, rfl⟩ | ⟨u', rfl, hu'⟩ <;> simp_all [Instr.sliceBounds]
theorem avG {α : Type} (l : List α) (a b : Nat) (h : a + b ≤ l.length) : ((l.drop a).take b).length = b := zg
theorem atY {t : TypeId} {l : List UInt8} {lo hi : Option AV} {vlo vhi : Option Value} {hh kk : Nat} (hu : P.underlying t = some .string) (hl : l.length ≤ lim)
  (hb1 : (ad1 hi l.length l.length).Leaf hh) (hb2 : (ad1 lo hh 0).Leaf kk) (h1 : OVR C ρ H w hi vhi) (h2 : OVR C ρ H w lo vlo) :
  ∃ v', (Instr.sliceAt t (.string ⟨⟨l⟩⟩) vlo vhi none).run P w = .ok v' w ∧ VR C ρ H w (.d .str ((l.drop kk).take (hh - kk))) v' := by
 obtain ⟨hr, hle1, hle2⟩ := abV (P := P) (b := false) (cap := l.length) (zj _) hb1 hb2 h1 h2
 refine ⟨.string ⟨⟨(l.drop kk).take (hh - kk)⟩⟩, ?_, auO zg⟩
 simp only [Instr.sliceAt, Sem.run_bind, run_underlying hu, Result.andThen_ok, Instr.slice, Option.isSome_none, yy, if_false, aGl, hr, aFy, Sem.run_pure]
theorem awW {t : TypeId} {a r : AV} {v : Value} {lo hi mx : Option AV} {vlo vhi vmx : Option Value} (h : (aBJ P t a lo hi mx).Leaf r)
  (ha : VR C ρ H w a v) (h1 : OVR C ρ H w hi vhi) (h2 : OVR C ρ H w lo vlo) (h3 : OVR C ρ H w mx vmx) :
  ∃ v', (Instr.sliceAt t v vlo vhi vmx).run P w = .ok v' w ∧ VR C ρ H w r v' := by
 unfold aBJ at h
 split at h
 ·cases h
 ·cases vmx with
  | some _ => exact h3.elim
  | none =>
   split at h
   ·rename_i hu
    split at h
    ·rename_i l
     obtain ⟨hh, hb1, h⟩ := T.Leaf.bind h
     obtain ⟨kk, hb2, h⟩ := T.Leaf.bind h
     cases h
     obtain ⟨e, hl⟩ := ad6 ha
     subst e
     exact atY hu hl hb1 hb2 h1 h2
    ·cases h
   ·rename_i e hu
    split at h
    ·rename_i u l
     split at h
     ·rename_i m hs
      split at h
      ·rename_i hb
       have hb := aaD hb
       subst hb
       obtain ⟨hh, hb1, h⟩ := T.Leaf.bind h
       obtain ⟨kk, hb2, h⟩ := T.Leaf.bind h
       cases h
       obtain ⟨a', cap, e1, h4, h5, h6⟩ := ha.datum.scalar rfl
       injection e1 with e1 _
       subst e1
       obtain ⟨hr, hle1, hle2⟩ := abV (P := P) (b := true) (cap := cap) h4 hb1 hb2 h1 h2
       have hlen : ((l.drop kk).take (hh - kk)).length = hh - kk := avG (α := u.T) l kk (hh - kk) zb
       refine ⟨.slice (if cap = kk then a' else a'.map (fun (x : Addr) => x.add (kk * u.size))) (hh - kk) (cap - kk), ?_, ?_⟩
       ·simp only [Instr.sliceAt, Sem.run_bind, run_underlying hu, Result.andThen_ok, Instr.slice, hr, aaO hs, Sem.run_pure]
       ·refine .d ⟨_, ⟨_, _, by rw [hlen], by rw [hlen]; omega, by rw [hlen]; omega, ?_⟩, rfl⟩
        by_cases hnil : (l.drop kk).take (hh - kk) = []
        ·exact Or.inl hnil
        ·have hpos : 0 < hh - kk := by rw [← hlen]; exact zN.2 hnil
         have hne : l ≠ [] := fun e => by subst e; simp at hnil
         obtain ⟨b, o, c, e', fr, ha', hok, hbk, hs', hr'⟩ := h6.resolve_left hne
         subst ha'
         have hck : ¬ cap = kk := zb
         have hle : (kk + (hh - kk)) * u.size ≤ l.length * u.size := zC _ zb
         rw [zX] at hle
         refine Or.inr ⟨b, o + kk * u.size, c, e', fr, by simp [hck, af5], hok, hbk, by rw [hlen]; omega, ?_⟩
         have := RdL.take_drop (fun x cs => Rd.length u x cs) l _ kk (hh - kk) hr'
         rw [ab8 _ _ _ _ hle, zT] at this
         rw [hlen]
         exact this
      ·cases h
     ·cases h
    ·split at h
     ·rename_i m hs
      obtain ⟨hh, hb1, h⟩ := T.Leaf.bind h
      obtain ⟨kk, hb2, h⟩ := T.Leaf.bind h
      cases h
      cases ha
      obtain ⟨hr, hle1, hle2⟩ := abV (P := P) (b := true) (cap := 0) (zj _) hb1 hb2 h1 h2
      have e1 : hh = 0 := zb
      have e2 : kk = 0 := zb
      subst e1; subst e2
      refine ⟨.slice none 0 0, ?_, .nsl⟩
      simp only [Instr.sliceAt, Sem.run_bind, run_underlying hu, Result.andThen_ok, Instr.slice, hr, aaO hs, Sem.run_pure]
      rfl
     ·cases h
    ·cases h
   ·cases h
theorem awU {t : TypeId} {a r : AV} {v : Value} {lo hi : Option AV} {mx : AV} {vlo vhi : Option Value} {vmx : Value} (h : (aBI P t a lo hi mx).Leaf r)
  (ha : VR C ρ H w a v) (h1 : OVR C ρ H w hi vhi) (h2 : OVR C ρ H w lo vlo) (h3 : VR C ρ H w mx vmx) :
  ∃ v', (Instr.sliceAt t v vlo vhi (some vmx)).run P w = .ok v' w ∧ VR C ρ H w r v' := by
 unfold aBI at h
 split at h
 ·rename_i e hu
  split at h
  ·rename_i u l
   split at h
   ·rename_i m hi' hs
    cases vhi with
    | none => exact h1.elim
    | some vhi =>
    split at h
    ·rename_i hb
     have hb := aaD hb
     subst hb
     obtain ⟨cc, hb0, h⟩ := T.Leaf.bind h
     obtain ⟨hh, hb1, h⟩ := T.Leaf.bind h
     obtain ⟨kk, hb2, h⟩ := T.Leaf.bind h
     cases h
     obtain ⟨a', cap, e1, h4, h5, h6⟩ := ha.datum.scalar rfl
     injection e1 with e1 _
     subst e1
     obtain ⟨hr, hle1, hle2, hle3⟩ := ai1 (P := P) (b := true) (len0 := l.length) (cap := cap) h4 hb0 hb1 hb2 h3 h1 h2
     have hlen : ((l.drop kk).take (hh - kk)).length = hh - kk := avG (α := u.T) l kk (hh - kk) zb
     refine ⟨.slice (if cc = kk then a' else a'.map (fun (x : Addr) => x.add (kk * u.size))) (hh - kk) (cc - kk), ?_, ?_⟩
     ·simp only [Instr.sliceAt, Sem.run_bind, run_underlying hu, Result.andThen_ok, Instr.slice, hr, aaO hs, Sem.run_pure]
     ·refine .d ⟨_, ⟨_, _, by rw [hlen], by rw [hlen]; omega, by rw [hlen]; omega, ?_⟩, rfl⟩
      by_cases hnil : (l.drop kk).take (hh - kk) = []
      ·exact Or.inl hnil
      ·have hpos : 0 < hh - kk := by rw [← hlen]; exact zN.2 hnil
       have hne : l ≠ [] := fun e => by subst e; simp at hnil
       obtain ⟨b, o, c, e', fr, ha', hok, hbk, hs', hr'⟩ := h6.resolve_left hne
       subst ha'
       have hck : ¬ cc = kk := zb
       have hle : (kk + (hh - kk)) * u.size ≤ l.length * u.size := zC _ zb
       rw [zX] at hle
       refine Or.inr ⟨b, o + kk * u.size, c, e', fr, by simp [hck, af5], hok, hbk, by rw [hlen]; omega, ?_⟩
       have := RdL.take_drop (fun x cs => Rd.length u x cs) l _ kk (hh - kk) hr'
       rw [ab8 _ _ _ _ hle, zT] at this
       rw [hlen]
       exact this
    ·cases h
   ·cases h
  ·cases h
 ·cases h
theorem at0 {t : TypeId} {k off : Nat} {r : AV} {v : Value} {lo hi mx : Option AV} {vlo vhi vmx : Option Value} (h : (awV P t k off lo hi mx).Leaf r)
  (ha : VR C ρ H w (.ptr k off) v) (h1 : OVR C ρ H w hi vhi) (h2 : OVR C ρ H w lo vlo) (h3 : OVR C ρ H w mx vmx) :
  ∃ v', (Instr.sliceAt t v vlo vhi vmx).run P w = .ok v' w ∧ VR C ρ H w r v' := by
 unfold awV at h
 split at h
 ·cases vlo with
  | some _ => exact h2.elim
  | none =>
  cases vmx with
  | some _ => exact h3.elim
  | none =>
  split at h
  ·rename_i n e hu
   split at h
   ·rename_i m hn hs
    obtain ⟨hh, hb1, h⟩ := T.Leaf.bind h
    cases h
    cases ha with
    | ptr hk =>
     obtain ⟨hr, hle1, hle2⟩ := abV (P := P) (lo := none) (vlo := none) (b := false) (l := 0) (zj n) hb1 .ok h1 trivial
     refine ⟨.slice (some ⟨ρ k, off, none⟩) hh n, ?_, .sv hk (zt hle2 (Nat.le_of_ble_eq_true hn)) hle2⟩
     simp [Instr.sliceAt, run_underlying hu, Instr.sureAddr, hr, aaO hs, af5]
   ·cases h
  ·cases h
 ·cases h
theorem atZ {H0 : Heap} (hsub : ∀ x ∈ H0, x ∈ H) {next : Nat} (hm : MRel C ρ H next w) {t : TypeId} {r : AV} {v : Value} {k off len : Nat} {lo hi mx : Option AV} {vlo vhi vmx : Option Value} (h : (awT P H0 t k off len lo hi mx).Leaf r)
  (ha : VR C ρ H w (.own k off len) v) (h1 : OVR C ρ H w hi vhi) (h2 : OVR C ρ H w lo vlo) (h3 : OVR C ρ H w mx vmx) :
  ∃ v', (Instr.sliceAt t v vlo vhi vmx).run P w = .ok v' w ∧ VR C ρ H w r v' := by
 unfold awT at h
 split at h
 ·cases h
 ·cases vmx with
  | some _ => exact h3.elim
  | none =>
   split at h
   ·rename_i e hu
    split at h
    ·rename_i e2 u l m hf hs
     split at h
     ·rename_i hb
      have hb := aaD hb
      subst hb
      obtain ⟨hh, hb1, h⟩ := T.Leaf.bind h
      obtain ⟨j, hb2, h⟩ := T.Leaf.bind h
      cases h
      have hk := hsub _ (Heap.find_mem hf)
      cases ha with
      | own hk' hl hc hmx hbk hsz ha =>
       rename_i a' cap c fr
       have hu' := Heap.mem_unique hm.nodup hk hk'
       injection hu' with hu1 hu2 hu3
       subst hu1; subst hu2
       have hu3 := eq_of_heq hu3
       subst hu3
       obtain ⟨hr, hle1, hle2⟩ := abV (P := P) (b := true) (cap := cap) hc hb1 hb2 h1 h2
       refine ⟨.slice (if cap = j then a' else Option.map (fun (x : Addr) => x.add (j * u.size)) a') (hh - j) (cap - j), ?_, ?_⟩
       ·simp only [Instr.sliceAt, Sem.run_bind, run_underlying hu, Result.andThen_ok, Instr.slice, hr, aaO hs, Sem.run_pure]
       ·refine .own hk zb zb zb hbk (by rw [← hsz]; congr 1; omega) ?_
        by_cases hcj : cap = j
        ·simp only [hcj, if_true]
         by_cases hj : j = 0
         ·subst hj
          rcases ha with ha | ⟨_, ha⟩
          ·left; rw [ha]; simp
          ·right; exact ⟨by omega, by omega⟩
         ·right; exact ⟨by omega, by omega⟩
        ·have ha' := ha.resolve_right (fun h => by omega)
         left
         rw [ha', if_neg hcj]
         simp [af5, zX]
     ·cases h
    ·cases h
   ·cases h
theorem awS {H0 : Heap} (hsub : ∀ x ∈ H0, x ∈ H) {next : Nat} (hm : MRel C ρ H next w) {t : TypeId} {r : AV} {v : Value} {k off len : Nat} {lo : Option AV} {vlo : Option Value} (h : (aBH P H0 t k off len lo).Leaf r)
  (ha : VR C ρ H w (.ox k off len) v) (h2 : OVR C ρ H w lo vlo) : ∃ v', (Instr.sliceAt t v vlo none none).run P w = .ok v' w ∧ VR C ρ H w r v' := by
 unfold aBH at h
 split at h
 ·rename_i e hu
  split at h
  ·rename_i e2 u l m hf hs
   split at h
   ·rename_i hb
    have hb := aaD hb
    subst hb
    obtain ⟨j, hb2, h⟩ := T.Leaf.bind h
    cases h
    have hk := hsub _ (Heap.find_mem hf)
    cases ha with
    | ox hk' hl hmx hbk hsz ha =>
     rename_i a' c fr
     have hu' := Heap.mem_unique hm.nodup hk hk'
     injection hu' with hu1 hu2 hu3
     subst hu1; subst hu2
     have hu3 := eq_of_heq hu3
     subst hu3
     obtain ⟨hr, hle1, _⟩ := abV (P := P) (b := true) (cap := len) (hi := none) (vhi := none) (zj _) (.ok) hb2 trivial h2
     refine ⟨.slice (if len = j then a' else Option.map (fun (x : Addr) => x.add (j * u.size)) a') (len - j) (len - j), ?_, ?_⟩
     ·simp only [Instr.sliceAt, Sem.run_bind, run_underlying hu, Result.andThen_ok, Instr.slice, hr, aaO hs, Sem.run_pure]
     ·refine .ox hk zb zb hbk (by rw [← hsz]; congr 1; omega) ?_
      by_cases hcj : len = j
      ·simp only [hcj, if_true]
       by_cases hj : j = 0
       ·subst hj
        rcases ha with ha | ⟨_, ha⟩
        ·left; rw [ha]; simp
        ·right; exact ⟨by omega, by omega⟩
       ·right; exact ⟨by omega, by omega⟩
      ·have ha' := ha.resolve_right (fun h => by omega)
       left
       rw [ha', if_neg hcj]
       simp [af5, zX]
   ·cases h
  ·cases h
 ·cases h
end
def asI (place : Nat → Option (Nat × Nat)) : List AV → List (Nat × AV) → Option (List AV)
 | cells, [] => some cells
 | cells, (i, v) :: r => match place i with
  | some (off, size) => match cellsOf v with
   | some cs => match Nat.beq cs.length size && Nat.ble (off + size) cells.length with
    | true => asI place (cells.take off ++ cs ++ cells.drop (off + size)) r
    | false => none
   | none => none
  | none => none
theorem aAy (off : Nat) : ∀ (vs : List Value) (k : Nat) (cells : Array Value), off + k + vs.length ≤ cells.size →
  (vs.zipIdx k).foldl (fun cs x => cs.setIfInBounds (off + x.2) x.1) cells = ⟨cells.toList.take (off + k) ++ vs ++ cells.toList.drop (off + k + vs.length)⟩
 | [], k, cells, _ => by simp
 | v :: rest, k, cells, h => by
  simp only [yh] at h
  rw [List.zipIdx_cons, List.foldl_cons, aAy off rest (k + 1) _ zg]
  congr 1
  have e := list_seg_step cells.toList (off + k) v rest zg
  simpa [Array.toList_setIfInBounds, wG] using e
section
variable {C : Ctx} {ρ : Nat → Nat} {H : Heap} {w : World} {P : Program}
inductive Parts (C : Ctx) (ρ : Nat → Nat) (H : Heap) (w : World) : List (Nat × AV) → List (Nat × Value) → Prop where
 | nil : Parts C ρ H w [] []
 | cons {i : Nat} {a : AV} {v : Value} {as : List (Nat × AV)} {vs : List (Nat × Value)} (h : VR C ρ H w a v) (hs : Parts C ρ H w as vs) : Parts C ρ H w ((i, a) :: as) ((i, v) :: vs)
theorem agQ {place : Nat → Option (Nat × Nat)} : ∀ (ps : List (Nat × AV)) (cells : List AV) (cs : List Value) (vps : List (Nat × Value)) (r : List AV),
  asI place cells ps = some r → VRs C ρ H w cells cs → (∀ v ∈ cs, v.oneCell' = true) → Parts C ρ H w ps vps →
  ∃ rs, Instr.fill place ⟨cs⟩ vps = some ⟨rs⟩ ∧ VRs C ρ H w r rs ∧ ∀ v ∈ rs, v.oneCell' = true
 | [], cells, cs, vps, r, h, hv, h1, hp => by
  cases hp
  simp only [asI] at h
  injection h with h; subst h
  exact ⟨cs, rfl, hv, h1⟩
 | (i, a) :: ps, cells, cs, vps, r, h, hv, h1, hp => by
  cases hp with
  | cons ha hps =>
   rename_i v vs
   simp only [asI] at h
   split at h
   ·rename_i off size hpl
    split at h
    ·rename_i as hcs
     split at h
     ·rename_i hc
      simp only [zl] at hc
      have hlen := aaD hc.1
      have hle := Nat.le_of_ble_eq_true hc.2
      obtain ⟨hva, hva1⟩ := afD hcs ha
      have hl1 := hva.length
      have hl2 := hv.length
      have hsz : v.cells.size = size := by rw [← hlen, hl1]; simp
      subst hsz
      have hnew : VRs C ρ H w (cells.take off ++ as ++ cells.drop (off + v.cells.size)) (cs.take off ++ v.cells.toList ++ cs.drop (off + v.cells.size)) :=
       ((hv.take off).append hva).append (hv.drop _)
      obtain ⟨rs, hr1, hr2, hr3⟩ := agQ ps _ _ _ r h hnew (by
       intro u hu
       rcases zE.1 hu with hu | hu
       ·rcases zE.1 hu with hu | hu
        ·exact h1 u (yI hu)
        ·exact hva1 u hu
       ·exact h1 u (yT hu)) hps
      refine ⟨rs, ?_, hr2, hr3⟩
      simp only [Instr.fill, hpl]
      rw [if_neg zg]
      rw [← hr1]
      congr 1
      rw [← Array.foldl_toList, Array.toList_zipIdx]
      have := aAy off v.cells.toList 0 ⟨cs⟩ zg
      simpa using this
     ·cases h
    ·cases h
   ·cases h
end
end Go.Vg
