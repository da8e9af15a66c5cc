/-
  The row of the law. After the seat example over a table, turned to this law; no condition.
-/
import Derived.Test.YtakjojajnblpoaaGreatDoorClT1
import Derived.ChangeOld
import Derived.Test.YtakjojajnblpoaaGreatDoorCards
import Derived.Test.YtakjojajnblpoaaGreatDoorTie
import Derived.ProofKit
import Derived.OpenShut
import Derived.LaidMore
import Derived.Deep.DeepHandedRow
import Derived.Deep.DeepWitnessRowRef
import Derived.Lib.LaidTab
import Derived.ChangeCalls
set_option linter.unusedVariables false
set_option linter.unusedSimpArgs false
namespace Go.Proofs.YtakjojajnblpoaaGreatDoor
open Go.ChangeShapes Go.WideShapes Go.ChangeAt Go.RowKit
theorem own : ownKnob Tryz.prog.godebug = none := by kernel_rfl
theorem gTab : Tryz.prog.globalNamed "internal/strconv.uint64pow10" = some 2 := by kernel_rfl
theorem gTabType : (Tryz.prog.globals[2]?).map (·.type) = some 325 := by kernel_rfl
theorem aTv : Tryz.prog.cellsOf 325 = 20 := by kernel_rfl
theorem aRi : Tryz.prog.cellsOf 218 = 1 := by kernel_rfl
theorem gErr : Tryz.prog.globalNamed "strconv.ErrRange" = some 1 := by kernel_rfl
theorem gErrType : (Tryz.prog.globals[1]?).map (·.type) = some 149 := by kernel_rfl
theorem aEn {H : Type} {enc : TypeId × Value → H} {P : Program} {w : World} {base : Nat} {spare : Nat → Bool} {held : Bool} {fuel : Nat} {t : TypeId} {ms : Array (String × TypeId)} {cs : List Value} {nm : String} {d : DataW H} {p : List MemPlace}
  (ht : P.underlying t = some (.interface ms)) (h : DataW.trod enc P w base spare held fuel t cs = some (.iface nm d, p)) : ∃ u v, cs = [.iface u v] := by
 cases fuel with
 | zero => cases h
 | succ fuel =>
  match cs, h with
  | [], h => simp [DataW.trod, ht] at h
  | [v], h => cases v <;> first | exact ⟨_, _, rfl⟩ | (simp [DataW.trod, ht] at h)
  | a :: b :: r, h => simp [DataW.trod, ht] at h
theorem aQm {α : Type} {o : Option α} {y : α} (h : o = some y) : o.isSome = true := by rw [h]; rfl
theorem aUO {α : Type} {o : Option α} {y d : α} (h : o = some y) : o.getD d = y := by rw [h]; rfl
theorem am7 {W : World} (h : laidMetH Tryz.prog Rows.curveBandsRow.laid W) : Vs.Gt W := by
 have h' : laidMet Tryz.prog Rows.curveBandsRow.laid W := h
 obtain ⟨ps, ⟨_, _, _, _, _, _, _, _, _, _, ⟨_, _, _, _, _, _, _, _, _, _, ⟨g1, t1, cs, fuel, p, q, hg1, ht1, hvar, hd, ⟨g2, t2, cs2, fuel2, p2, q2, hg2, ht2, hvar2, hd2, _, _⟩, _⟩, _⟩, _⟩, _⟩ := h'
 obtain rfl := Option.some.inj (gTab.symm.trans hg1)
 obtain rfl := Option.some.inj (gTabType.symm.trans ht1)
 obtain rfl := Option.some.inj (gErr.symm.trans hg2)
 obtain rfl := Option.some.inj (gErrType.symm.trans ht2)
 have hd' : DataW.trod _ Tryz.prog W 0 _ _ fuel 325 cs.toList = some (Lib.tabData .u64 Lib.pow10Tab, p) := hd
 refine ⟨?_, ?_⟩
 ·unfold Lib.TabIs
  rw [hvar, ← Lib.cells_of_tab Tryz.underlying325 Tryz.underlying218 aRi aTv hd']
 ·obtain ⟨u, v, e⟩ := aEn Tryz.underlying149 hd2
  refine ⟨u, v, ?_⟩
  rw [hvar2]
  congr 1
  apply Array.ext'
  exact e
theorem aV9 : Vg.aKW Tryz.prog Tryz.f4.params.toList (Vs.P4 (.pair (.int .u8) (Vs.P4 (.sl (.int .u16)) (.sl (.pair (.int .u8) (.pair (.int .i16) (Vs.P4 (.int .i16) (.int .i16) (.int .u8) (.int .u8))))) .bool .bool)) (.arr 2 (.pair (.int .u8) (.pair (.int .u8) (.pair (.int .i64) .unit)))) Vs.tB (.arr 2 (.int .i16))) = true := by kernel_rfl
theorem aUo : laidOutB Tryz.prog = true := by kernel_rfl
theorem aV6 : (Tryz.f4.params.toList.all fun t => Tryz.prog.readableRec t && decide (t < Tryz.prog.types.size)) = true := by kernel_rfl
set_option maxRecDepth 100000 in
theorem aTt (H : Type) (enc : TypeId × Value → H) (W : World) (base : Nat) (args : Array Value) (ds gs : List (DataW H)) (before : List MemPlace)
  (hval : ∀ (j : Nat) t v, Tryz.f4.params[j]? = some t → args[j]? = some v → Value.okWide Tryz.prog W .any base t v)
  (hW : DataW.Whole enc Tryz.prog Tryz.f4.params.toList Rows.curveBandsSpec.vars false W args.toList ds gs before)
  (hwt : (DataW.weightsEach Tryz.prog (Tryz.f4.params.toList ++ (OpenSpec.ofChange Rows.curveBandsSpec).bare.plain.varTypes Tryz.prog) (ds ++ gs)).all (· ≤ reachBytes) = true) (hL : laidMetH Tryz.prog Rows.curveBandsRow.laid W) :
  Calls Tryz.prog 4 args W fun e W' => ∃ v, e = .returned v ∧ Rows.curveBandsSpec.post enc Tryz.prog Tryz.f4 false true false false W args v W' := by
 have hW' := hW
 obtain ⟨p, q, hA0, hV, rfl, hfz, hnd⟩ := hW
 obtain ⟨rfl, rfl⟩ := trodVars_none hV
 have hA : DataW.TrodAll enc Tryz.prog W 0 (fun _ => true) true Tryz.f4.params.toList args.toList ds p := hA0
 have hw : Vg.ap6 (DataW.weightsEach Tryz.prog Tryz.f4.params.toList ds) := by
  have h0 : (Tryz.f4.params.toList ++ (OpenSpec.ofChange Rows.curveBandsSpec).bare.plain.varTypes Tryz.prog) = Tryz.f4.params.toList := by kernel_rfl
  rw [h0, List.append_nil] at hwt
  exact hwt
 obtain ⟨x, hx⟩ := Vg.aKX Tryz.f4.params.toList (Vs.P4 (.pair (.int .u8) (Vs.P4 (.sl (.int .u16)) (.sl (.pair (.int .u8) (.pair (.int .i16) (Vs.P4 (.int .i16) (.int .i16) (.int .u8) (.int .u8))))) .bool .bool)) (.arr 2 (.pair (.int .u8) (.pair (.int .u8) (.pair (.int .i64) .unit)))) Vs.tB (.arr 2 (.int .i16))) args.toList ds p aV9 (fun j t v h1 h2 => hval j t v (by simpa using h1) (by simpa using h2)) hA hw
 have hlt := hA.lt
 obtain ⟨a, ha⟩ : ∃ a, a = args.toList := ⟨_, rfl⟩
 have hargs : args = ⟨a⟩ := by rw [ha]
 have hA2 := hA
 rw [Tryz.params4] at hA2
 obtain ⟨d0, d1, d2, d3, rfl⟩ : ∃ d0 d1 d2 d3, ds = [d0, d1, d2, d3] := by
  match ds, (trodAll_length hA2).2 with
  | [d0, d1, d2, d3], _ => exact ⟨d0, d1, d2, d3, rfl⟩
 simp only [List.append_nil] at hW'
 have hS : Vs.aoV x = some (true, ()) := rfl
 refine (Vs.o_CurveBands.h.2 W (· < W.heap.size) args.toList x (am7 hL) (fun _ h => h) hx (aQm hS)).mono fun e W' ⟨rs, he, hr, hb⟩ => ?_
 have hf : Vs.o_CurveBands.c.fn x = (true, ()) := by first | rfl | exact aUO (d := (false, ())) hS
 rw [hf] at hr
 obtain ⟨v, us, rfl, hv, hus⟩ := hr
 have hus' : us = [] := hus
 subst hus'
 obtain ⟨cs, hc, hv⟩ := hv
 have hc' : cs = [.bool true] := hc
 subst hc'
 have hv' : [Value.bool true] = [v] := hv
 injection hv' with hv'
 subst hv'
 subst he
 exact ⟨_, rfl, _, _, _, [], p, [], hW', trodAll_mk1 (shut_bool Tryz.underlying4 _), Vg.aKz aUo hb _ _ _ _ aV6 hA hlt, rfl, hb.frame _, fun h => by cases h⟩
theorem aS4 (os : Os) : laidMet Tryz.prog Rows.curveBandsRow.laid ((World.doorLaid Tryz.prog 4000 os).forCall (fun _ _ => 0) ⟨#[], #[.agg #[.int .u8 0, .slice none 0 0, .slice none 0 0, .bool false, .bool false], .agg #[.int .u8 0, .int .u8 0, .int .i64 0, .int .u8 0, .int .u8 0, .int .i64 0], .agg #[.int .i64 0, .int .i64 0], .agg #[.int .i16 0, .int .i16 0]], []⟩).memory :=
 laidMet_of_run' 8 (by kernel_rfl) (by kernel_rfl)
theorem aVl (os : Os) {H : Type} (enc : TypeId × Value → H) : ∃ places, DataW.whole enc Tryz.prog ((World.doorLaid Tryz.prog 4000 os).forCall (fun _ _ => 0) ⟨#[], #[.agg #[.int .u8 0, .slice none 0 0, .slice none 0 0, .bool false, .bool false], .agg #[.int .u8 0, .int .u8 0, .int .i64 0, .int .u8 0, .int .u8 0, .int .i64 0], .agg #[.int .i64 0, .int .i64 0], .agg #[.int .i16 0, .int .i16 0]], []⟩).memory Tryz.f4.params.toList Rows.curveBandsSpec.vars false (#[.agg #[.int .u8 0, .slice none 0 0, .slice none 0 0, .bool false, .bool false], .agg #[.int .u8 0, .int .u8 0, .int .i64 0, .int .u8 0, .int .u8 0, .int .i64 0], .agg #[.int .i64 0, .int .i64 0], .agg #[.int .i16 0, .int .i16 0]] : Array Value).toList 8 = some ([.agg [.lit (.int .u8 0), .nil, .nil, .lit (.bool false), .lit (.bool false)], .agg [.agg [.lit (.int .u8 0), .lit (.int .u8 0), .lit (.int .i64 0)], .agg [.lit (.int .u8 0), .lit (.int .u8 0), .lit (.int .i64 0)]], .agg [.lit (.int .i64 0), .lit (.int .i64 0)], .agg [.lit (.int .i16 0), .lit (.int .i16 0)]], [], places) :=
 ⟨[], by kernel_rfl⟩
set_option maxRecDepth 100000 in
theorem aVv (os : Os) (started : os.Started) (H : Type) (enc : TypeId × Value → H) (F : Stop.Interp) :
  ReturnsInHanded {} Tryz.checked os 4 .any ((OpenSpec.ofChange Rows.curveBandsSpec).preRow enc Tryz.prog Tryz.f4 Rows.curveBandsRow.domain false Rows.curveBandsRow.laid) (((OpenSpec.ofChange Rows.curveBandsSpec).at F).post enc Tryz.prog Tryz.f4 false true false false) := by
 obtain ⟨places, hx⟩ := aVl os enc
 refine returnsInHanded_of_row (C := Tryz.checked) (s := OpenSpec.ofChange Rows.curveBandsSpec) own started (by kernel_rfl) Tryz.func4
  (witness_row_atRef (enc := enc) (C := Tryz.checked) false (World.doorLaid Tryz.prog 4000 os) #[.agg #[.int .u8 0, .slice none 0 0, .slice none 0 0, .bool false, .bool false], .agg #[.int .u8 0, .int .u8 0, .int .i64 0, .int .u8 0, .int .u8 0, .int .i64 0], .agg #[.int .i64 0, .int .i64 0], .agg #[.int .i16 0, .int .i16 0]] rfl (by kernel_rfl) (by kernel_rfl) (by kernel_rfl)
   (OpenSpec.preRow_of_cond 8 hx (by kernel_rfl) (fun k hk => by cases hk) (by kernel_rfl) (aS4 os))) ?_
 intro W base args ds gs before hval hW _ _ hwt hL _ _
 exact aTt H enc W base args ds gs before hval hW hwt hL
set_option maxRecDepth 100000 in
theorem aVE : (Rows.curveBandsRow.inPlace == Tryz.prog.inPlace 4) = true := by kernel_rfl
set_option maxRecDepth 100000 in
theorem aVD : (Rows.curveBandsRow.unfollowed == Tryz.prog.unfollowed 4) = true := by kernel_rfl
set_option maxRecDepth 100000 in
theorem aVC : (Rows.curveBandsRow.recurses == Tryz.prog.recurses 4) = true := by kernel_rfl
set_option maxRecDepth 100000 in
theorem aVB : (Rows.curveBandsRow.named == Tryz.prog.varsNamed 4) = true := by kernel_rfl
end Go.Proofs.YtakjojajnblpoaaGreatDoor
