/-
  Trees of what the functions compute, and their laws. Own work; no condition.
-/
import Derived.Test.YtakjojajnblpoaaGreatDoorClL7
set_option linter.unusedVariables false
set_option linter.unusedSimpArgs false
namespace Go.Vs
open Go Go.Vg
theorem dec_len {z : Int} (h : Fit z) : (dec z).length ≤ 601 := by
 unfold Fit at h
 unfold dec
 split
 ·rw [List.length_cons]; omega
 ·omega
theorem w_Int_law (a : List UInt8) (y) (h : S_w_Int (a, ()) = some y) : (w_Int_t a).toO = some y := by
 unfold S_w_Int at h
 injection h with h
 subst h
 dsimp only
 unfold w_Int_t
 refine uC _ (L_w_Check a) ?_
 cases hz : rdW a with
 | none => exact uT rfl rfl
 | some z =>
  obtain ⟨hf, rfl⟩ := rdW_some hz
  refine uF rfl (uC _ (L_prsi (Nat.le_trans (dec_len hf) (by omega))) ?_)
  dsimp only
  by_cases c : inI64 z
  ·rw [if_pos c, if_pos c]
   exact uF rfl rfl
  ·rw [if_neg c, if_neg c]
   exact uT rfl rfl
theorem tab_rest {l : List Int} {p : Rat} {k : Nat} (ht : tabOk l) (hp : FitQ p) (hk : k + 1 < l.length) (hpl : placeN l p = k) (y1 : FxT × Int × Unit) (e1 : y1 = (fx p, 0, ()))
  {I A D : Int} (eI : I = k) (eA : A = l.getD k 0) (eD : D = l.getD (k + 1) 0 - l.getD k 0) {p1 p2 p3 : Prop} (h1 : p1) (h2 : p2) (h3 : p3) {d1 : FxT × Unit} {d2 : FxT × Int × Unit} :
  (TT.call (S_c_integer (I, ())) d1 fun y4 => .call (S_f_Sub ((y1.1.1, y1.1.2.1, ()), y4.1, ())) d2 fun y5 => .ite (y5.2.1 != 0) (.ok (((#[].toList, #[].toList, ()), y5.2.1, ())))
   (.need p1 <| .need p2 <| .call (S_c_integer (D, ())) d1 fun y6 => .call (S_f_Mul (y6.1, (y5.1.1, y5.1.2.1, ()), ())) d2 fun y7 => .ite (y7.2.1 != 0) (.ok (((#[].toList, #[].toList, ()), y7.2.1, ())))
    (.need p3 <| .call (S_c_integer (A, ())) d1 fun y8 => .call (S_f_Add (y8.1, (y7.1.1, y7.1.2.1, ()), ())) d2 fun y9 => .ite (y9.2.1 != 0) (.ok (((#[].toList, #[].toList, ()), y9.2.1, ())))
     (.call (S_c_integer (65535, ())) d1 fun y10 => .call (S_f_Div ((y9.1.1, y9.1.2.1, ()), y10.1, ())) d2 fun y11 => .ok (((y11.1.1, y11.1.2.1, ()), y11.2.1, ())))))).toO
   = some (outF ((stepQ (p - mkRat (placeN l p : Int) 1)).bind fun r => (stepQ (r * mkRat (l.getD (placeN l p + 1) 0 - l.getD (placeN l p) 0) 1)).bind fun t => (stepQ (mkRat (l.getD (placeN l p) 0) 1 + t)).bind fun y => stepQ (y / mkRat 65535 1))) := by
 have hl2 := ht.2.1
 subst eI eA eD e1
 rw [hpl]
 have i6 : inI64 65535 := ⟨by omega, by omega⟩
 have ik : inI64 (k : Int) := ⟨by omega, by omega⟩
 have bv := tab_get ht (show k < l.length by omega)
 have bv1 := tab_get ht hk
 have iv := inR_i64 bv (by omega) (by omega)
 have id : inI64 (l.getD (k + 1) 0 - l.getD k 0) := ⟨by have := bv.1; have := bv.2; have := bv1.1; have := bv1.2; omega, by have := bv.1; have := bv.2; have := bv1.1; have := bv1.2; omega⟩
 refine uC _ (L_c_integer ik) (uC _ (L_f_SubS hp (fitQ_int ik)) ?_)
 cases g1 : stepQ (p - mkRat (k : Int) 1) with
 | none => exact uT rfl rfl
 | some r =>
  have hr := (stepQ_fit g1).1
  simp only [Option.bind_some]
  refine uF rfl (uN h1 (uN h2 (uC _ (L_c_integer id) (uC _ (L_f_MulS (fitQ_int id) hr) ?_))))
  rw [Rat.mul_comm]
  cases g2 : stepQ (r * mkRat (l.getD (k + 1) 0 - l.getD k 0) 1) with
  | none => exact uT rfl rfl
  | some t =>
   have ht' := (stepQ_fit g2).1
   simp only [Option.bind_some]
   refine uF rfl (uN h3 (uC _ (L_c_integer iv) (uC _ (L_f_AddS (fitQ_int iv) ht') ?_)))
   cases g3 : stepQ (mkRat (l.getD k 0) 1 + t) with
   | none => exact uT rfl rfl
   | some y =>
    have hy := (stepQ_fit g3).1
    exact uF rfl (uC _ (L_c_integer i6) (uC _ (L_f_DivS hy (fitQ_int i6) (mk1_ne (by omega))) rfl))
theorem cc_table_law (c : CvT × Unit) (x : FxT) (y) (h : S_cc_table (c, x, ()) = some y) : (cc_table_t c x).toO = some y := by
 obtain ⟨⟨l', q⟩, ⟨hq, h0, h1, ht⟩, hx, rfl⟩ := spec_some h
 obtain ⟨rfl, hx2⟩ := Prod.mk.inj hx; obtain ⟨rfl, -⟩ := Prod.mk.inj hx2; dsimp only
 dsimp only at hq h0 h1 ht
 obtain ⟨kd, l, sg, u⟩ := l'
 dsimp only at ht ⊢
 have hl1 := ht.1
 have hl2 := ht.2.1
 have w1 : w64 (len l - 1) = ((l.length - 1 : Nat) : Int) := by rw [len_eq, w64_id (by omega)]; omega
 have w2 : w64 (((l.length - 1 : Nat) : Int) - 1) = ((l.length - 2 : Nat) : Int) := by rw [w64_id (by omega)]; omega
 have w3 : w64 (((l.length - 2 : Nat) : Int) + 1) = ((l.length - 2 + 1 : Nat) : Int) := by rw [w64_id (by omega)]; omega
 have in1 : inI64 ((l.length - 1 : Nat) : Int) := ⟨by omega, by omega⟩
 unfold cc_table_t cc_table_t_k2 cc_table_t_k1 tabQ
 dsimp only
 rw [w1, w2, w3]
 refine uC _ (L_c_integer in1) (uC _ (L_f_MulS hq (fitQ_int in1)) ?_)
 cases hs : stepQ (q * mkRat ((l.length - 1 : Nat) : Int) 1) with
 | none => exact uT rfl rfl
 | some p =>
 obtain ⟨hp, e⟩ := stepQ_fit hs
 have hlp : (0 : Rat) ≤ mkRat ((l.length - 1 : Nat) : Int) 1 := by
  rw [mkRat_one]
  have := Rat.intCast_le_intCast.2 (show (0 : Int) ≤ ((l.length - 1 : Nat) : Int) by omega)
  exact this
 have hp0 : 0 ≤ p := by rw [e]; exact Rat.mul_nonneg h0 hlp
 have hp1 : p ≤ ((l.length - 1 : Nat) : Int) := by
  rw [e]
  have := Rat.mul_le_mul_of_nonneg_right h1 hlp
  rw [Rat.one_mul] at this
  rw [mkRat_one] at this ⊢
  exact this
 clear e hs
 simp only [Option.bind_some]
 have hf0 : 0 ≤ p.floor := Rat.le_floor_iff.2 hp0
 have hf1 : p.floor ≤ ((l.length - 1 : Nat) : Int) := by
  have h2 := Rat.floor_le p
  have h3 := Rat.le_trans h2 hp1
  exact Rat.intCast_le_intCast.1 h3
 have efl : fl p = p.floor := Int.le_antisymm (Rat.le_floor_iff.2 (fl_le p)) ((fl_le_iff p _).2 (Rat.floor_le p))
 have ifl : inI64 (fl p) := by rw [efl]; exact ⟨by omega, by omega⟩
 refine uF rfl (uC _ (show S_f_Floor (fx p, ()) = some (dec (fl p), 0, ()) from ?_) (uF rfl (uC _ (L_atoi (z := fl p) ?_) (uF rfl ?_))))
 ·unfold S_f_Floor; dsimp only; rw [rdF_fx hp]
 ·exact ifl
 dsimp only
 rw [efl]
 generalize hF : p.floor = F at hf0 hf1
 have hpl : placeN l p = min F.toNat (l.length - 2) := by unfold placeN; rw [hF]
 obtain ⟨n, rfl⟩ := Int.eq_ofNat_of_zero_le hf0
 have wn : w64 ((n : Int) + 1) = ((n + 1 : Nat) : Int) := by rw [w64_id (by omega)]; omega
 rw [wn]
 simp only [gi_nat]
 have hD : ∀ k, k + 1 < l.length → w64 (l.getD (k + 1) 0 - l.getD k 0) = l.getD (k + 1) 0 - l.getD k 0 := by
  intro k hk
  have b := tab_get ht (show k < l.length by omega)
  have b1 := tab_get ht hk
  exact w64_id (by have := b.1; have := b.2; have := b1.1; have := b1.2; omega)
 rw [Int.toNat_natCast] at hpl
 repeat (first | refine uV ?_ | refine uF (bne_self_eq_false _) ?_)
 refine uF sd ?_
 rcases Nat.eq_zero_or_pos n with c0 | c0
 ·refine uF sd ?_
  repeat (first | refine uV ?_ | refine uF (bne_self_eq_false _) ?_)
  by_cases c1 : n < l.length - 2
  ·refine uT sd ?_
   exact tab_rest ht hp (k := n) (by omega) (by rw [hpl]; omega) _ rfl rfl rfl (hD n (by omega)) ⟨by exact sn, by exact sn⟩ ⟨by exact sn, by exact sn⟩ ⟨by exact sn, by exact sn⟩
  refine uF sd ?_
  by_cases c2 : n = l.length - 2
  ·refine uF sd ?_
   exact tab_rest ht hp (k := n) (by omega) (by rw [hpl]; omega) _ rfl rfl rfl (hD n (by omega)) ⟨by exact sn, by exact sn⟩ ⟨by exact sn, by exact sn⟩ ⟨by exact sn, by exact sn⟩
  refine uT sd ?_
  exact tab_rest ht hp (k := l.length - 2) (by omega) (by rw [hpl]; omega) _ rfl rfl rfl (hD (l.length - 2) (by omega)) ⟨by exact sn, by exact sn⟩ ⟨by exact sn, by exact sn⟩ ⟨by exact sn, by exact sn⟩
 ·refine uT sd ?_
  repeat (first | refine uV ?_ | refine uF (bne_self_eq_false _) ?_)
  by_cases c1 : n < l.length - 2
  ·refine uT sd ?_
   exact tab_rest ht hp (k := n) (by omega) (by rw [hpl]; omega) _ rfl rfl rfl (hD n (by omega)) ⟨by exact sn, by exact sn⟩ ⟨by exact sn, by exact sn⟩ ⟨by exact sn, by exact sn⟩
  refine uF sd ?_
  by_cases c2 : n = l.length - 2
  ·refine uF sd ?_
   exact tab_rest ht hp (k := n) (by omega) (by rw [hpl]; omega) _ rfl rfl rfl (hD n (by omega)) ⟨by exact sn, by exact sn⟩ ⟨by exact sn, by exact sn⟩ ⟨by exact sn, by exact sn⟩
  refine uT sd ?_
  exact tab_rest ht hp (k := l.length - 2) (by omega) (by rw [hpl]; omega) _ rfl rfl rfl (hD (l.length - 2) (by omega)) ⟨by exact sn, by exact sn⟩ ⟨by exact sn, by exact sn⟩ ⟨by exact sn, by exact sn⟩
end Go.Vs
