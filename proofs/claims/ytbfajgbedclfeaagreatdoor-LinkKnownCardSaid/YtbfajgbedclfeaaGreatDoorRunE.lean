/-
  The runner, part E: strconv.Itoa and strings.Repeat by the contracts that are laid. Own work; no condition.
-/
import Derived.Test.YtbfajgbedclfeaaGreatDoorRunC
import Derived.Test.YtbfajgbedclfeaaGreatDoorLib
import Derived.Lib.AppendIntMem
import Derived.Lib.Join
import Derived.Lib.Repeat
namespace Go.Vg
open Go Go.RowKit Go.Proofs

/-- What is known of the library's table. -/
def Gt (P : Program) (w : World) : Prop := Lib.TabIs P w "internal/strconv.uint64pow10" .u64 Lib.pow10Tab

section
variable {P : Program}

theorem gt_mono {g : Nat} (hg : P.globalNamed "internal/strconv.uint64pow10" = some g) : GMono (Gt P) := by
  intro w w' hb h
  unfold Gt Lib.TabIs World.var? at h ⊢
  rw [hg] at h ⊢
  simp only [Option.bind_some] at h ⊢
  have hlt : g < w.heap.size := by
    rcases Nat.lt_or_ge g w.heap.size with h' | h'
    · exact h'
    · rw [Array.getElem?_eq_none h'] at h; cases h
  rw [hb.block g hlt]
  exact h

theorem gt_monoS (hg : (P.globalNamed "internal/strconv.uint64pow10").isSome = true) : GMono (Gt P) := by
  obtain ⟨g, h⟩ := Option.isSome_iff_exists.1 hg
  exact gt_mono h

theorem digitsN_eq : ∀ (f n : Nat) (acc : List UInt8), n < 10 ^ (f + 1) → digitsN (f + 1) n acc = Lib.decDigits n ++ acc
  | 0, n, acc, h => by
    have h9 : n < 10 := by simpa using h
    rw [Lib.decDigits_one h9]
    simp [digitsN, show Nat.ble n 9 = true from Nat.ble_eq_true_of_le (by omega)]
  | f + 1, n, acc, h => by
    by_cases h9 : n < 10
    · rw [Lib.decDigits_one h9]
      simp [digitsN, show Nat.ble n 9 = true from Nat.ble_eq_true_of_le (by omega)]
    · have hb : Nat.ble n 9 = false := by
        cases hc : Nat.ble n 9 with
        | false => rfl
        | true => have := Nat.le_of_ble_eq_true hc; omega
      have hd : n / 10 < 10 ^ (f + 1) := by
        rw [Nat.div_lt_iff_lt_mul (by omega)]
        rw [Nat.pow_succ] at h
        exact h
      rw [show digitsN (f + 1 + 1) n acc = digitsN (f + 1) (n / 10) (UInt8.ofNat (48 + n % 10) :: acc) by rw [digitsN, hb], digitsN_eq f _ _ hd]
      conv => rhs; rw [Lib.decDigits, dif_neg h9]
      simp

theorem itoaL_eq {n : Int} (h0 : -9223372036854775808 ≤ n) (h1 : n ≤ 9223372036854775807) : itoaL n = Lib.itoa n := by
  unfold Lib.itoa
  cases n with
  | ofNat m =>
    have h1' : (m : Int) ≤ 9223372036854775807 := h1
    rw [if_neg (by show ¬ (m : Int) < 0; omega)]
    have hm : m < 10 ^ (24 + 1) := by omega
    show digitsN 25 m [] = Lib.decDigits m
    rw [digitsN_eq 24 m [] hm, List.append_nil]
  | negSucc m =>
    rw [if_pos (by omega)]
    have hm : m + 1 < 10 ^ (24 + 1) := by omega
    show 45 :: digitsN 25 (m + 1) [] = 45 :: Lib.decDigits (m + 1)
    rw [digitsN_eq 24 _ [] hm, List.append_nil]

theorem repL_eq (l : List UInt8) : ∀ n, repL l n = Lib.repeatL l n
  | 0 => rfl
  | n + 1 => by simp only [repL, Lib.repeatL]; rw [repL_eq l n]

theorem lim_ge : 100000000 ≤ lim := by decide

theorem decDigits_short : ∀ (f n : Nat), n < 10 ^ (f + 1) → (Lib.decDigits n).length ≤ f + 1
  | 0, n, h => by rw [Lib.decDigits_one (by simpa using h)]; simp
  | f + 1, n, h => by
    by_cases h9 : n < 10
    · rw [Lib.decDigits_one h9]; simp
    · have hd : n / 10 < 10 ^ (f + 1) := by
        rw [Nat.div_lt_iff_lt_mul (by omega)]
        rw [Nat.pow_succ] at h
        exact h
      rw [Lib.decDigits, dif_neg h9]
      have := decDigits_short f _ hd
      simp; omega

theorem itoaL_short {n : Int} (h0 : -9223372036854775808 ≤ n) (h1 : n ≤ 9223372036854775807) : (itoaL n).length ≤ lim := by
  refine Nat.le_trans ?_ lim_ge
  rw [itoaL_eq h0 h1]
  unfold Lib.itoa
  split
  · have := decDigits_short 24 n.natAbs (by omega)
    simp; omega
  · have := decDigits_short 24 n.toNat (by omega)
    omega

theorem int_range {ok : Nat → Prop} {w : World} {x : Int} {v : Value} (h : RdV ok w (.int .i64) x v) : v = .int .i64 x ∧ -9223372036854775808 ≤ x ∧ x ≤ 9223372036854775807 := by
  obtain ⟨cs, ⟨rfl, h1, h2⟩, hv⟩ := h
  have hv' : [Value.int .i64 x] = [v] := hv
  injection hv' with hv'
  exact ⟨hv'.symm, h1, h2⟩

theorem repI_eq (s : List UInt8) (m : Nat) : repI s (m : Int) = Lib.repeatL s m := by unfold repI; rw [Int.toNat_natCast, repL_eq]

theorem rep_short (s : List UInt8) (m : Nat) (h : s.length * m ≤ 1000 * 100000) : (Lib.repeatL s m).length ≤ lim := by
  rw [Lib.repeatL_length, Nat.mul_comm]
  exact Nat.le_trans h lim_ge

theorem strVE {ok : Nat → Prop} {w : World} {x : List UInt8} {v : Value} (h : RdV ok w .str x v) : v = .string ⟨⟨x⟩⟩ := by
  obtain ⟨cs, ⟨rfl, _⟩, hv⟩ := h
  have hv' : [Value.string ⟨⟨x⟩⟩] = [v] := hv
  injection hv' with hv'
  exact hv'.symm

theorem str_mkE {ok : Nat → Prop} {w : World} {x : List UInt8} (h : x.length ≤ lim) : RdVs ok w (.pair .str .unit) (x, ()) [.string ⟨⟨x⟩⟩] :=
  ⟨_, [], rfl, ⟨_, ⟨rfl, h⟩, rfl⟩, rfl⟩

/-- Itoa alone. -/
def extLibI (fi : Nat) : PureT := fun f A R x => match Nat.beq f fi with
  | true => extItoa A R x
  | false => none
theorem ext_okI (fi : Nat) (hei : enters P fi = true)
    (hi : ∀ (n : Int), -9223372036854775808 ≤ n → n ≤ 9223372036854775807 → ∀ w : World, Gt P w → Calls P fi #[.int .i64 n] w fun e w' => e = .returned (.string ⟨(Lib.itoa n).toArray⟩) ∧ ∃ k os, w' = Sort.grow (w.drewN k) os) :
    PureOk P (Gt P) (extLibI fi) := by
  intro f A R x y h
  unfold extLibI at h
  split at h
  · rename_i hf
    have := beq_true hf
    subst this
    unfold extItoa at h
    split at h
    · rename_i x
      obtain ⟨n, u⟩ := x
      injection h with h
      subst h
      refine ⟨hei, fun w ok vs z hG hok hvs hz => ?_⟩
      have hz' : z = (n, u) := hz
      subst hz'
      obtain ⟨v, us, rfl, hv, hus⟩ := hvs
      have hus' : us = [] := hus
      subst hus'
      obtain ⟨rfl, h0, h1⟩ := int_range hv
      refine (hi n h0 h1 w hG).mono ?_
      rintro e w' ⟨rfl, k, os, rfl⟩
      refine ⟨[.string ⟨⟨itoaL n⟩⟩], ?_, str_mkE (itoaL_short h0 h1), Lib.below_grow _ _ (Nat.le_refl _) _ _⟩
      rw [itoaL_eq h0 h1]
      rfl
    · cases h
  · cases h

theorem ext_ok (fi fr : Nat) (hei : enters P fi = true) (her : enters P fr = true)
    (hi : ∀ (n : Int), -9223372036854775808 ≤ n → n ≤ 9223372036854775807 → ∀ w : World, Gt P w → Calls P fi #[.int .i64 n] w fun e w' => e = .returned (.string ⟨(Lib.itoa n).toArray⟩) ∧ ∃ k os, w' = Sort.grow (w.drewN k) os)
    (hr : ∀ (s : ByteArray) (c : Nat) (w : World), c ≤ 9223372036854775807 → s.size * c ≤ 140737488355328 → Calls P fr #[.string s, .int .i64 c] w fun e w' => e = .returned (.string ⟨(Lib.repeatL s.data.toList c).toArray⟩) ∧ Below w.heap.size w w') :
    PureOk P (Gt P) (extLib fi fr) := by
  intro f A R x y h
  unfold extLib at h
  split at h
  · rename_i hf
    have := beq_true hf
    subst this
    unfold extItoa at h
    split at h
    · rename_i x
      obtain ⟨n, u⟩ := x
      injection h with h
      subst h
      refine ⟨hei, fun w ok vs z hG hok hvs hz => ?_⟩
      have hz' : z = (n, u) := hz
      subst hz'
      obtain ⟨v, us, rfl, hv, hus⟩ := hvs
      have hus' : us = [] := hus
      subst hus'
      obtain ⟨rfl, h0, h1⟩ := int_range hv
      refine (hi n h0 h1 w hG).mono ?_
      rintro e w' ⟨rfl, k, os, rfl⟩
      refine ⟨[.string ⟨⟨itoaL n⟩⟩], ?_, str_mkE (itoaL_short h0 h1), Lib.below_grow _ _ (Nat.le_refl _) _ _⟩
      rw [itoaL_eq h0 h1]
      rfl
    · cases h
  · split at h
    · rename_i hf
      have := beq_true hf
      subst this
      unfold extRepeat at h
      split at h
      · rename_i x
        obtain ⟨s, n, u⟩ := x
        split at h
        · rename_i hc
          injection h with h
          subst h
          refine ⟨her, fun w ok vs z hG hok hvs hz => ?_⟩
          have hz' : z = (s, n, u) := hz
          subst hz'
          obtain ⟨v, us, rfl, hv, v2, us2, rfl, hv2, hus⟩ := hvs
          have hus' : us2 = [] := hus
          subst hus'
          obtain ⟨rfl, _, _⟩ := int_range hv2
          have e1 := strVE hv
          subst e1
          have hc' : repOk (s : List UInt8) (n : Int) = true := hc
          unfold repOk at hc'
          simp only [Bool.and_eq_true, decide_eq_true_eq] at hc'
          obtain ⟨⟨g1, g2⟩, g3⟩ := hc'
          have g3 := Nat.le_of_ble_eq_true g3
          obtain ⟨m, rfl⟩ := Int.eq_ofNat_of_zero_le g1
          have hm : m ≤ 100000 := by omega
          have hmul : List.length (α := UInt8) s * m ≤ 1000 * 100000 := Nat.mul_le_mul g3 hm
          refine (hr ⟨⟨s⟩⟩ m w (by omega) (by show List.length (α := UInt8) s * m ≤ _; omega)).mono ?_
          rintro e w' ⟨rfl, hb⟩
          have hrep : repI (s : List UInt8) (m : Int) = Lib.repeatL s m := repI_eq s m
          refine ⟨[.string ⟨⟨repI s (m : Int)⟩⟩], ?_, str_mkE ?_, hb⟩
          · rw [hrep]; rfl
          · rw [hrep]; exact rep_short s m hmul
        · cases h
      · cases h
    · cases h

theorem joinL_eq (sep : List UInt8) (l : List (List UInt8)) : joinL sep l = Lib.join l sep := by
  have ht : ∀ r : List (List UInt8), joinT sep r = Lib.joinTail sep r := by
    intro r
    induction r with
    | nil => rfl
    | cons y r ih => simp only [joinT, ih, Lib.joinTail, List.map_cons, List.flatten_cons, List.append_assoc]
  cases l with
  | nil => rfl
  | cons x r => rw [Lib.join_cons, ← ht]; rfl

theorem strs_read {ok : Nat → Prop} {w : World} : ∀ (x : List (List UInt8)) (cs : List Value), RdL (Rd ok w .str) x cs → cs = x.map fun s => .string ⟨⟨s⟩⟩
  | [], _, hc => by simpa [RdL] using hc
  | y :: x, _, ⟨c1, c2, e, h1, h2⟩ => by rw [e, (show c1 = _ from h1.1), strs_read x c2 h2]; rfl

theorem join_calls {fj : Nat}
    (hj : ∀ (bk o c : Nat) (xs : List ByteArray) (sep : ByteArray) (w : World), (∀ (j : Nat) x, xs[j]? = some x → w.cell? ⟨bk, o + j, none⟩ = some (.string x)) → bk < w.heap.size → xs.length ≤ 140737488355328 → xs.length ≤ c →
      (Lib.join (xs.map (·.data.toList)) sep.data.toList).length ≤ 140737488355328 →
      Calls P fj #[.slice (some ⟨bk, o, none⟩) xs.length c, .string sep] w fun e w' => e = .returned (.string ⟨(Lib.join (xs.map (·.data.toList)) sep.data.toList).toArray⟩) ∧ Below w.heap.size w w')
    {w : World} {l : List (List UInt8)} {sep : List UInt8} {b o cap : Nat} {c : Array Value} {e : TypeId} {fr : Nat × Nat} (hb : w.heap[b]? = some (.cells c e fr)) (hbl : b < w.heap.size)
    (hr : (c.toList.drop o).take l.length = l.map fun s => .string ⟨⟨s⟩⟩) (k1 : l.length ≤ cap) (g1 : l.length ≤ 1000) (g2 : (joinL sep l).length ≤ 1000000) :
    Calls P fj #[.slice (some ⟨b, o, none⟩) l.length cap, .string ⟨⟨sep⟩⟩] w fun e w' => e = .returned (.string ⟨⟨joinL sep l⟩⟩) ∧ Below w.heap.size w w' := by
  have hm : (l.map (fun s : List UInt8 => (⟨⟨s⟩⟩ : ByteArray))).length = l.length := List.length_map ..
  have hmm : (l.map (fun s : List UInt8 => (⟨⟨s⟩⟩ : ByteArray))).map (·.data.toList) = l := by rw [List.map_map]; exact List.map_id _
  have hcall := hj b o cap (l.map fun s => ⟨⟨s⟩⟩) ⟨⟨sep⟩⟩ w (fun j x hx => ?_) hbl (by rw [hm]; omega) (by rw [hm]; exact k1) (by rw [hmm, ← joinL_eq]; exact Nat.le_trans g2 (by decide))
  · rw [hm, hmm, ← joinL_eq] at hcall
    exact hcall
  · have hj' : j < l.length := by rw [← hm]; exact (List.getElem?_eq_some_iff.1 hx).1
    have e4 : c[o + j]? = some (.string x) := by
      have e5 : ((c.toList.drop o).take l.length)[j]? = some (.string x) := by
        rw [hr]
        rw [List.getElem?_map] at hx ⊢
        cases hq : l[j]? with
        | none => rw [hq] at hx; cases hx
        | some q =>
          rw [hq] at hx
          injection hx with hx
          subst hx
          rfl
      rw [List.getElem?_take, if_pos hj', List.getElem?_drop, Array.getElem?_toList] at e5
      exact e5
    simp [World.cell?, hb, e4]

theorem ext_okJ (fi fr fj : Nat) (hl : PureOk P (Gt P) (extLib fi fr)) (hej : enters P fj = true)
    (hj : ∀ (bk o c : Nat) (xs : List ByteArray) (sep : ByteArray) (w : World), (∀ (j : Nat) x, xs[j]? = some x → w.cell? ⟨bk, o + j, none⟩ = some (.string x)) → bk < w.heap.size → xs.length ≤ 140737488355328 → xs.length ≤ c →
      (Lib.join (xs.map (·.data.toList)) sep.data.toList).length ≤ 140737488355328 →
      Calls P fj #[.slice (some ⟨bk, o, none⟩) xs.length c, .string sep] w fun e w' => e = .returned (.string ⟨(Lib.join (xs.map (·.data.toList)) sep.data.toList).toArray⟩) ∧ Below w.heap.size w w') :
    PureOk P (Gt P) (extLibJ fi fr fj) := by
  intro f A R x y h
  unfold extLibJ at h
  split at h
  · rename_i hf
    have := beq_true hf
    subst this
    unfold extJoin at h
    split at h
    · rename_i x
      obtain ⟨l, sep, u⟩ := x
      split at h
      · rename_i hc
        injection h with h
        subst h
        have hc' : joinOk sep l = true := hc
        unfold joinOk at hc'
        simp only [Bool.and_eq_true] at hc'
        obtain ⟨g0, g1, g2⟩ := hc'
        have g0 := Nat.le_of_ble_eq_true g0
        have g1 := Nat.le_of_ble_eq_true g1
        have g2 := Nat.le_of_ble_eq_true g2
        refine ⟨hej, fun w ok vs z hG hok hvs hz => ?_⟩
        have hz' : z = (l, sep, u) := hz
        subst hz'
        obtain ⟨v, us, rfl, hv, v2, us2, rfl, hv2, hus⟩ := hvs
        have hus' : us2 = [] := hus
        subst hus'
        have e1 := strVE hv2
        subst e1
        obtain ⟨cs, ⟨a, cap, e2, k1, k2, k3⟩, hv⟩ := hv
        subst e2
        have hv' : [Value.slice a (List.length (α := List UInt8) l) cap] = [v] := hv
        injection hv' with hv'
        subst hv'
        rcases k3 with k3 | ⟨b, o, c, e, fr, rfl, hokb, hb, hs, hr⟩
        · have k3' : l = [] := k3
          rw [k3'] at g0
          cases g0
        · have hs' : o + List.length (α := List UInt8) l * 1 ≤ c.size := hs
          have hr' := strs_read _ _ hr
          have hbl : b < w.heap.size := hok b hokb
          have hr2 : (c.toList.drop o).take (List.length (α := List UInt8) l) = (l : List (List UInt8)).map fun s => Value.string ⟨⟨s⟩⟩ := by
            rw [← strs_read _ _ hr]
            show _ = (c.toList.drop o).take (List.length (α := List UInt8) l * 1)
            rw [Nat.mul_one]
          refine (join_calls hj (l := l) (sep := sep) hb hbl hr2 k1 g1 g2).mono ?_
          rintro e w' ⟨rfl, hbw⟩
          exact ⟨[.string ⟨⟨joinL sep l⟩⟩], rfl, str_mkE (Nat.le_trans g2 (by decide)), hbw⟩
      · cases h
    · cases h
  · exact hl f A R x y h
end
end Go.Vg
