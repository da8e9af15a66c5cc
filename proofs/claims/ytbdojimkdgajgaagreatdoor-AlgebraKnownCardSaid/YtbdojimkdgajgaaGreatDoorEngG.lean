/-
  The engine, part G: operations that touch no memory: arithmetic, comparisons, conversions. Own work; no condition.
-/
import Derived.Test.YtbdojimkdgajgaaGreatDoorEngF
import Derived.ChangeKeysEq
namespace Go.Vg
open Go Go.RowKit

theorem wrap_range (k : IntKind) (n : Int) : k.min ≤ k.wrap n ∧ k.wrap n ≤ k.max := by
  cases k <;> simp [IntKind.wrap, IntKind.min, IntKind.max, IntKind.bits, IntKind.signed] <;> (try split) <;> omega

theorem wrap_id {k : IntKind} {n : Int} (h : k.min ≤ n) (h' : n ≤ k.max) : k.wrap n = n := by
  cases k <;> simp [IntKind.wrap, IntKind.min, IntKind.max, IntKind.bits, IntKind.signed] at * <;> (try split) <;> omega

theorem min_le_zero (k : IntKind) : k.min ≤ 0 ∧ 0 ≤ k.max := by
  cases k <;> simp [IntKind.min, IntKind.max, IntKind.bits, IntKind.signed]

theorem tmod_range {lo hi x y : Int} (h0 : lo ≤ 0) (h1 : 0 ≤ hi) (hl : lo ≤ x) (hh : x ≤ hi) : lo ≤ x.tmod y ∧ x.tmod y ≤ hi := by
  rcases Int.le_total 0 x with h | h
  · have a := Int.tmod_nonneg y h
    have b : x.tmod y ≤ x := by
      have e := Int.tmod_add_mul_tdiv x y
      rcases Int.le_total 0 y with hy | hy
      · have := Int.mul_nonneg hy (Int.tdiv_nonneg h hy); omega
      · have h2 : x.tdiv y ≤ 0 := Int.tdiv_nonpos_of_nonneg_of_nonpos h hy
        have := Int.mul_nonneg_of_nonpos_of_nonpos hy h2; omega
    omega
  · have a : x.tmod y ≤ 0 := by
      have := Int.tmod_nonneg y (show 0 ≤ -x by omega)
      rw [Int.neg_tmod] at this; omega
    have b : x ≤ x.tmod y := by
      have e := Int.tmod_add_mul_tdiv x y
      rcases Int.le_total 0 y with hy | hy
      · have h2 : x.tdiv y ≤ 0 := by
          have := Int.tdiv_nonneg (show 0 ≤ -x by omega) hy
          rw [Int.neg_tdiv] at this; omega
        have := Int.mul_nonpos_of_nonneg_of_nonpos hy h2; omega
      · have h2 : 0 ≤ x.tdiv y := by
          have := Int.tdiv_nonneg (show 0 ≤ -x by omega) (show 0 ≤ -y by omega)
          rw [Int.neg_tdiv, Int.tdiv_neg] at this; omega
        have := Int.mul_nonpos_of_nonpos_of_nonneg hy h2; omega
    omega

theorem fdiv_range {k : IntKind} {x : Int} {n : Nat} (hl : k.min ≤ x) (hh : x ≤ k.max) : k.min ≤ x.fdiv (2 ^ n) ∧ x.fdiv (2 ^ n) ≤ k.max := by
  have hp : (0 : Int) < 2 ^ n := Int.pow_pos (by omega)
  obtain ⟨h0, h1⟩ := min_le_zero k
  rw [Int.fdiv_eq_ediv_of_nonneg _ (Int.le_of_lt hp)]
  have e := Int.mul_ediv_add_emod x (2 ^ n)
  have m0 := Int.emod_nonneg x (Int.ne_of_gt hp)
  have m1 := Int.emod_lt_of_pos x hp
  generalize hq : x / 2 ^ n = q at *
  generalize (2 : Int) ^ n = p at *
  rcases Int.le_total 0 q with h | h
  · have : q ≤ p * q := by
      have := Int.mul_le_mul_of_nonneg_right (show (1 : Int) ≤ p by omega) h; omega
    omega
  · rcases Int.lt_or_eq_of_le h with h | h
    · have : p * q ≤ q := by
        have := Int.mul_le_mul_of_nonpos_right (show (1 : Int) ≤ p by omega) (show q ≤ 0 by omega); omega
      have h2 : x ≤ q ∨ q < x := by omega
      rcases h2 with h2 | h2
      · constructor
        · omega
        · omega
      · have h3 : p * q ≤ p * (-1) := Int.mul_le_mul_of_nonneg_left (by omega) (by omega)
        constructor
        · have : p * q + p > x := by omega
          have h4 : p * (q + 1) ≤ q + 1 := by
            have := Int.mul_le_mul_of_nonpos_right (show (1 : Int) ≤ p by omega) (show q + 1 ≤ 0 by omega); omega
          have h5 : p * (q + 1) = p * q + p := by rw [Int.mul_add, Int.mul_one]
          omega
        · omega
    · omega

/-- Integers: what a binary operation gives. -/
def binI (op : BinOp) (k : IntKind) (x y : Int) : T AV :=
  match op with
  | .add => .ok (.d (.int k) (k.wrap (x + y)))
  | .sub => .ok (.d (.int k) (k.wrap (x - y)))
  | .mul => .ok (.d (.int k) (k.wrap (x * y)))
  | .quo => .need (y ≠ 0) (.ok (.d (.int k) (k.wrap (x.tdiv y))))
  | .rem => .need (y ≠ 0) (.ok (.d (.int k) (x.tmod y)))
  | .eql => .ok (.d .bool (x == y))
  | .neq => .ok (.d .bool (x != y))
  | .lss => .ok (.d .bool (decide (x < y)))
  | .leq => .ok (.d .bool (decide (x ≤ y)))
  | .gtr => .ok (.d .bool (decide (x > y)))
  | .geq => .ok (.d .bool (decide (x ≥ y)))
  | .and => .ok (.d (.int k) (k.wrap (BitVec.ofInt k.bits x &&& BitVec.ofInt k.bits y).toNat))
  | .or => .ok (.d (.int k) (k.wrap (BitVec.ofInt k.bits x ||| BitVec.ofInt k.bits y).toNat))
  | .xor => .ok (.d (.int k) (k.wrap (BitVec.ofInt k.bits x ^^^ BitVec.ofInt k.bits y).toNat))
  | _ => .bad

def shiftI (op : BinOp) (k : IntKind) (x y : Int) : T AV :=
  match op with
  | .shl => .need (0 ≤ y) (.ok (.d (.int k) (k.wrap (x * 2 ^ (min y.toNat k.bits)))))
  | .shr => .need (0 ≤ y) (.ok (.d (.int k) (x.fdiv (2 ^ (min y.toNat k.bits)))))
  | _ => .bad

def isShift : BinOp → Bool
  | .shl | .shr => true
  | _ => false

/-- Strings. -/
def binS (op : BinOp) (x y : List UInt8) : T AV :=
  match op with
  | .add => .need (x.length + y.length ≤ lim) (.ok (.d .str (x ++ y)))
  | .eql => .ok (.d .bool (x == y))
  | .neq => .ok (.d .bool (!(x == y)))
  | _ => .bad

def binII (op : BinOp) (k j : IntKind) (x y : Int) : T AV :=
  match isShift op with
  | true => shiftI op k x y
  | false => if k = j then binI op k x y else .bad

def binB (op : BinOp) (x y : Bool) : T AV :=
  match op with
  | .eql => .ok (.d .bool (x == y))
  | .neq => .ok (.d .bool (!(x == y)))
  | _ => .bad

def binD (op : BinOp) : (t : Ty) → t.T → (u : Ty) → u.T → T AV
  | .int k, x, .int j, y => binII op k j x y
  | .bool, x, .bool, y => binB op x y
  | .str, x, .str, y => binS op x y
  | _, _, _, _ => .bad

section
variable {C : Ctx} {ρ : Nat → Nat} {H : Heap} {w : World} {P : Program}

theorem int_value {k : IntKind} {x : Int} {v : Value} (h : VR C ρ H w (.d (.int k) x) v) : v = .int k x ∧ k.min ≤ x ∧ x ≤ k.max := by
  have := h.datum.scalar rfl
  obtain ⟨e, h'⟩ := this
  injection e with e _
  exact ⟨e, h'⟩
theorem bool_value {x : Bool} {v : Value} (h : VR C ρ H w (.d .bool x) v) : v = .bool x := by
  have : [v] = [Value.bool x] := h.datum.scalar rfl
  injection this
theorem str_value {x : List UInt8} {v : Value} (h : VR C ρ H w (.d .str x) v) : v = .string ⟨⟨x⟩⟩ ∧ x.length ≤ lim := by
  have := h.datum.scalar rfl
  obtain ⟨e, h'⟩ := this
  injection e with e _
  exact ⟨e, h'⟩
theorem vr_int {k : IntKind} {x : Int} (h : k.min ≤ x) (h' : x ≤ k.max) : VR C ρ H w (.d (.int k) x) (.int k x) := .d ⟨_, ⟨rfl, h, h'⟩, rfl⟩
theorem vr_bool {x : Bool} : VR C ρ H w (.d .bool x) (.bool x) := .d ⟨_, rfl, rfl⟩
theorem vr_str {x : List UInt8} (h : x.length ≤ lim) : VR C ρ H w (.d .str x) (.string ⟨⟨x⟩⟩) := .d ⟨_, ⟨rfl, h⟩, rfl⟩
theorem vr_wrap {k : IntKind} {x : Int} : VR C ρ H w (.d (.int k) (k.wrap x)) (.int k (k.wrap x)) := vr_int (wrap_range k x).1 (wrap_range k x).2

theorem binI_sound {op : BinOp} {k : IntKind} {x y : Int} {r : AV} (hx : k.min ≤ x ∧ x ≤ k.max) (hsh : isShift op = false) (h : (binI op k x y).Leaf r) (xt : TypeId) :
    ∃ v, (binOp op xt (.int k x) (.int k y)).run P w = .ok v w ∧ VR C ρ H w r v := by
  cases op
  case add => cases h; exact ⟨.int k (k.wrap (x + y)), by simp only [binOp, ne_eq, not_true_eq_false, if_false, Op.intArith]; rfl, vr_wrap⟩
  case sub => cases h; exact ⟨.int k (k.wrap (x - y)), by simp only [binOp, ne_eq, not_true_eq_false, if_false, Op.intArith]; rfl, vr_wrap⟩
  case mul => cases h; exact ⟨.int k (k.wrap (x * y)), by simp only [binOp, ne_eq, not_true_eq_false, if_false, Op.intArith]; rfl, vr_wrap⟩
  case eql => cases h; exact ⟨.bool (x == y), by simp only [binOp, ne_eq, not_true_eq_false, if_false, Op.intCmp]; rfl, vr_bool⟩
  case neq => cases h; exact ⟨.bool (x != y), by simp only [binOp, ne_eq, not_true_eq_false, if_false, Op.intCmp]; rfl, vr_bool⟩
  case lss => cases h; exact ⟨.bool (decide (x < y)), by simp only [binOp, ne_eq, not_true_eq_false, if_false, Op.intCmp]; rfl, vr_bool⟩
  case leq => cases h; exact ⟨.bool (decide (x ≤ y)), by simp only [binOp, ne_eq, not_true_eq_false, if_false, Op.intCmp]; rfl, vr_bool⟩
  case gtr => cases h; exact ⟨.bool (decide (x > y)), by simp only [binOp, ne_eq, not_true_eq_false, if_false, Op.intCmp]; rfl, vr_bool⟩
  case geq => cases h; exact ⟨.bool (decide (x ≥ y)), by simp only [binOp, ne_eq, not_true_eq_false, if_false, Op.intCmp]; rfl, vr_bool⟩
  case and => cases h; exact ⟨.int k (k.wrap (BitVec.ofInt k.bits x &&& BitVec.ofInt k.bits y).toNat), by simp only [binOp, ne_eq, not_true_eq_false, if_false, Op.intBits]; rfl, vr_wrap⟩
  case or => cases h; exact ⟨.int k (k.wrap (BitVec.ofInt k.bits x ||| BitVec.ofInt k.bits y).toNat), by simp only [binOp, ne_eq, not_true_eq_false, if_false, Op.intBits]; rfl, vr_wrap⟩
  case xor => cases h; exact ⟨.int k (k.wrap (BitVec.ofInt k.bits x ^^^ BitVec.ofInt k.bits y).toNat), by simp only [binOp, ne_eq, not_true_eq_false, if_false, Op.intBits]; rfl, vr_wrap⟩
  case quo =>
    cases h with
    | need hp h => cases h; exact ⟨.int k (k.wrap (x.tdiv y)), by simp only [binOp, ne_eq, not_true_eq_false, if_false, Op.intDiv, if_neg hp]; rfl, vr_wrap⟩
  case rem =>
    cases h with
    | need hp h => cases h; exact ⟨.int k (x.tmod y), by simp only [binOp, ne_eq, not_true_eq_false, if_false, Op.intDiv, if_neg hp]; rfl, vr_int (tmod_range (min_le_zero k).1 (min_le_zero k).2 hx.1 hx.2).1 (tmod_range (min_le_zero k).1 (min_le_zero k).2 hx.1 hx.2).2⟩
  all_goals cases h

theorem shiftI_sound {op : BinOp} {k j : IntKind} {x y : Int} {r : AV} (hx : k.min ≤ x ∧ x ≤ k.max) (h : (shiftI op k x y).Leaf r) (xt : TypeId) :
    ∃ v, (binOp op xt (.int k x) (.int j y)).run P w = .ok v w ∧ VR C ρ H w r v := by
  cases op
  case shl =>
    cases h with
    | need hp h => cases h; exact ⟨.int k (k.wrap (x * 2 ^ (min y.toNat k.bits))), by simp only [binOp, Op.shift, if_neg (Int.not_lt.2 hp)]; rfl, vr_wrap⟩
  case shr =>
    cases h with
    | need hp h => cases h; exact ⟨.int k (x.fdiv (2 ^ (min y.toNat k.bits))), by simp only [binOp, Op.shift, if_neg (Int.not_lt.2 hp)]; rfl, vr_int (fdiv_range hx.1 hx.2).1 (fdiv_range hx.1 hx.2).2⟩
  all_goals cases h

theorem toList_mk (x : List UInt8) : (⟨⟨x⟩⟩ : ByteArray).toList = x := ByteArray.toList_eq _

theorem append_mk (x y : List UInt8) : (⟨⟨x⟩⟩ : ByteArray) ++ ⟨⟨y⟩⟩ = ⟨⟨x ++ y⟩⟩ := by
  apply ByteArray.ext
  apply Array.ext'
  simp

theorem extract_mk (x : List UInt8) (a b : Nat) : (⟨⟨x⟩⟩ : ByteArray).extract a b = ⟨⟨(x.drop a).take (b - a)⟩⟩ := by
  apply ByteArray.ext
  apply Array.ext'
  rw [ByteArray.data_extract, Array.toList_extract]

theorem size_mk (x : List UInt8) : (⟨⟨x⟩⟩ : ByteArray).size = x.length := rfl

theorem binS_sound {op : BinOp} {x y : List UInt8} {r : AV} (h : (binS op x y).Leaf r) (xt : TypeId) :
    ∃ v, (binOp op xt (.string ⟨⟨x⟩⟩) (.string ⟨⟨y⟩⟩)).run P w = .ok v w ∧ VR C ρ H w r v := by
  cases op
  case add =>
    cases h with
    | need hp h =>
      cases h
      refine ⟨.string ⟨⟨x ++ y⟩⟩, ?_, vr_str (by simpa using hp)⟩
      have : ¬ ((((⟨⟨x⟩⟩ : ByteArray).size + (⟨⟨y⟩⟩ : ByteArray).size : Nat) : Int) > IntKind.i64.max) := by
        simp only [size_mk, IntKind.max, IntKind.signed, IntKind.bits, lim] at hp ⊢
        simp
        omega
      simp only [binOp, Op.stringOp, if_neg this, append_mk]; rfl
  case eql => cases h; exact ⟨.bool (x == y), by simp only [binOp, Op.stringOp, toList_mk]; rfl, vr_bool⟩
  case neq => cases h; exact ⟨.bool (!(x == y)), by simp only [binOp, Op.stringOp, toList_mk]; rfl, vr_bool⟩
  all_goals cases h

theorem equalIn_bool (P : Program) (w : World) (d : Nat) (xt : TypeId) (hu : P.underlying xt = some .bool) (x y : Bool) : (Op.equalIn (d + 1) xt (.bool x) (.bool y)).run P w = .ok (x == y) w := by
  simp [Op.equalIn, run_underlying hu]

theorem eql_bool (P : Program) (w : World) (xt : TypeId) (hu : P.underlying xt = some .bool) (x y : Bool) : (Op.equal xt (.bool x) (.bool y)).run P w = .ok (x == y) w :=
  equalIn_bool P w 9999 xt hu x y

/-- Is the comparison's type what its operands are? -/
def eqType (P : Program) (t : Ty) (xt : TypeId) : Bool :=
  match t with
  | .bool => match P.underlying xt with | some .bool => true | _ => false
  | _ => true

theorem binB_sound {op : BinOp} {x y : Bool} {r : AV} {xt : TypeId} (h : (binB op x y).Leaf r) (he : eqType P .bool xt = true) :
    ∃ v, (binOp op xt (.bool x) (.bool y)).run P w = .ok v w ∧ VR C ρ H w r v := by
  have hu : P.underlying xt = some .bool := by
    unfold eqType at he
    simp only at he
    split at he
    · assumption
    · cases he
  cases op
  case eql => cases h; exact ⟨.bool (x == y), by simp [binOp, eql_bool P w xt hu], vr_bool⟩
  case neq => cases h; exact ⟨.bool (!(x == y)), by simp [binOp, eql_bool P w xt hu], vr_bool⟩
  all_goals cases h

theorem binD_sound {op : BinOp} {t u : Ty} {x : t.T} {y : u.T} {r : AV} {vx vy : Value} {xt : TypeId} (h : (binD op t x u y).Leaf r)
    (he : eqType P t xt = true) (hx : VR C ρ H w (.d t x) vx) (hy : VR C ρ H w (.d u y) vy) :
    t.agg = false ∧ ∃ v, (binOp op xt vx vy).run P w = .ok v w ∧ VR C ρ H w r v := by
  unfold binD at h
  split at h
  · rename_i k x j y
    obtain ⟨e1, hx'⟩ := int_value hx
    obtain ⟨e2, hy'⟩ := int_value hy
    refine ⟨rfl, ?_⟩
    rw [e1, e2]
    unfold binII at h
    split at h
    · exact shiftI_sound hx' h xt
    · rename_i hs
      split at h
      · rename_i e; subst e; exact binI_sound hx' hs h xt
      · cases h
  · refine ⟨rfl, ?_⟩
    rw [bool_value hx, bool_value hy]
    exact binB_sound h he
  · refine ⟨rfl, ?_⟩
    rw [(str_value hx).1, (str_value hy).1]
    exact binS_sound h xt
  · cases h

/-- A guard that the model lays ahead of '==': nothing, where no interface value is compared. -/
theorem eqGuard_scalar {op : BinOp} {t : Ty} {x : t.T} {vx vy : Value} {xt : TypeId} (a b : Operand) (ht : t.agg = false)
    (hx : VR C ρ H w (.d t x) vx) : (eqGuard op xt a b vx vy).run P w = .ok () w := by
  have h := hx.datum.scalar ht
  unfold eqGuard
  cases t <;> first | cases ht | skip
  · obtain ⟨e, _⟩ := h; injection e with e _; subst e; split <;> simp
  · have e : [vx] = [_] := h; injection e with e _; subst e; split <;> simp
  · obtain ⟨e, _⟩ := h; injection e with e _; subst e; split <;> simp
  · obtain ⟨a, cap, e, _⟩ := h; injection e with e _; subst e; split <;> simp

end
end Go.Vg
