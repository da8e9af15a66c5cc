/-
  The row of the law. After the seat example over a table, turned to this law; no condition.
-/
import Derived.Test.YtlmjbmgabddkiaaGreatDoorClT1
import Derived.ChangeOld
import Derived.Test.YtlmjbmgabddkiaaGreatDoorCards
import Derived.Test.YtlmjbmgabddkiaaGreatDoorTie
import Derived.ProofKit
import Derived.OpenShut
import Derived.LaidMore
import Derived.Deep.DeepHandedRow
import Derived.Deep.DeepWitnessRowRef
import Derived.Lib.LaidTab
import Derived.Shelf.Vars
import Derived.Lay
set_option linter.unusedVariables false
set_option linter.unusedSimpArgs false
namespace Go.Proofs.YtlmjbmgabddkiaaGreatDoor
open Go.ChangeShapes Go.WideShapes Go.ChangeAt Go.RowKit
theorem own : ownKnob Tryz.prog.godebug = none := by kernel_rfl
theorem gTab : Tryz.prog.globalNamed "internal/strconv.uint64pow10" = some 3 := by kernel_rfl
theorem gTabType : (Tryz.prog.globals[3]?).map (·.type) = some 295 := by kernel_rfl
theorem aKp : Tryz.prog.cellsOf 295 = 20 := by kernel_rfl
theorem aHV : Tryz.prog.cellsOf 248 = 1 := by kernel_rfl
theorem gErr : Tryz.prog.globalNamed "strconv.ErrRange" = some 9 := by kernel_rfl
theorem gErrType : (Tryz.prog.globals[9]?).map (·.type) = some 191 := by kernel_rfl
theorem av1 {H : Type} {enc : TypeId × Value → H} {P : Program} {w : World} {base : Nat} {spare : Nat → Bool} {held : Bool} {fuel : Nat} {t : TypeId} {ms : Array (String × TypeId)} {cs : List Value} {nm : String} {d : DataW H} {p : List MemPlace}
  (ht : P.underlying t = some (.interface ms)) (h : DataW.trod enc P w base spare held fuel t cs = some (.iface nm d, p)) : ∃ u v, cs = [.iface u v] := by
 cases fuel with
 | zero => cases h
 | succ fuel =>
  match cs, h with
  | [], h => simp [DataW.trod, ht] at h
  | [v], h => cases v <;> first | exact ⟨_, _, rfl⟩ | (simp [DataW.trod, ht] at h)
  | a :: b :: r, h => simp [DataW.trod, ht] at h
theorem aGT {α : Type} {o : Option α} {y : α} (h : o = some y) : o.isSome = true := by rw [h]; rfl
theorem aMf {α : Type} {o : Option α} {y d : α} (h : o = some y) : o.getD d = y := by rw [h]; rfl
theorem gTabS : Tryz.prog.globalNamed "strings.asciiSpace" = some 0 := by kernel_rfl
theorem gTabSType : (Tryz.prog.globals[0]?).map (·.type) = some 118 := by kernel_rfl
theorem aHU : Tryz.prog.cellsOf 118 = 256 := by kernel_rfl
theorem aEp : Tryz.prog.cellsOf 5 = 1 := by kernel_rfl
set_option maxRecDepth 1000000 in
theorem aOY {H : Type} : (Rows.laid_strings_asciiSpace : DataW H) = Lib.tabData .u8 Lib.asciiSpaceTab := by kernel_rfl
set_option maxRecDepth 1000000 in
theorem aLB {W : World} (h : laidMetH Tryz.prog Rows.tripTextsRow.laid W) (hsh : W.ShapedOpen Tryz.prog) : Vs.Gt W := by
 have h' : laidMet Tryz.prog Rows.tripTextsRow.laid W := h
 obtain ⟨ps, ⟨_, _, _, _, _, _, _, _, _, _, ⟨_, _, _, _, _, _, _, _, _, _, ⟨g1, t1, cs1, fuel1, p1, q1, hg1, ht1, hvar1, hd1, ⟨_, _, _, _, _, _, _, _, _, _, ⟨g2, t2, cs2, fuel2, p2, q2, hg2, ht2, hvar2, hd2, ⟨_, _, _, _, _, _, _, _, _, _, ⟨_, _, _, _, _, _, _, _, _, _, ⟨g3, t3, cs3, fuel3, p3, q3, hg3, ht3, hvar3, hd3, ⟨_, _, _, _, _, _, _, _, _, _, _, _⟩, _⟩, _⟩, _⟩, _⟩, _⟩, _⟩, _⟩, _⟩, _⟩ := h'
 obtain rfl := Option.some.inj (gTab.symm.trans hg1)
 obtain rfl := Option.some.inj (gTabType.symm.trans ht1)
 obtain rfl := Option.some.inj (gErr.symm.trans hg2)
 obtain rfl := Option.some.inj (gErrType.symm.trans ht2)
 obtain rfl := Option.some.inj (gTabS.symm.trans hg3)
 obtain rfl := Option.some.inj (gTabSType.symm.trans ht3)
 have hd1' : DataW.trod _ Tryz.prog W 0 _ _ fuel1 295 cs1.toList = some (Lib.tabData .u64 Lib.pow10Tab, p1) := hd1
 rw [aOY] at hd3
 refine ⟨?_, ?_, ?_, ?_⟩
 ·unfold Lib.TabIs
  rw [hvar1, ← Lib.cells_of_tab Tryz.underlying295 Tryz.underlying248 aHV aKp hd1']
 ·obtain ⟨u, v, e⟩ := av1 Tryz.underlying191 hd2
  refine ⟨u, v, ?_⟩
  rw [hvar2]
  congr 1
  apply Array.ext'
  exact e
 ·unfold Lib.TabIs
  rw [hvar3, ← Lib.cells_of_tab Tryz.underlying118 Tryz.underlying5 aEp aHU hd3]
 ·exact cell_of_shapedOpen_int (P := Tryz.prog) (g := 2) (t := 3) (zero := #[.int .i64 0]) hsh (of_decide_eq_true (by kernel_rfl)) (by kernel_rfl) rfl (by kernel_rfl) (by kernel_rfl) Tryz.underlying3
theorem aOT : Vg.aCk Tryz.prog Tryz.f6.params.toList (Vs.P1 (.pair (.int .u16) (Vs.P4 (.int .u16) (.int .u16) (Vs.P2 (.int .i16) (.int .u8)) (.sl (Vs.P2 (.int .i16) (.int .u8)))))) = true := by kernel_rfl
theorem aLW : laidOutB Tryz.prog = true := by kernel_rfl
theorem aOK : (Tryz.f6.params.toList.all fun t => Tryz.prog.readableRec t && decide (t < Tryz.prog.types.size)) = true := by kernel_rfl
set_option maxRecDepth 100000 in
theorem aKm (H : Type) (enc : TypeId × Value → H) (W : World) (base : Nat) (args : Array Value) (ds gs : List (DataW H)) (before : List MemPlace)
  (hval : ∀ (j : Nat) t v, Tryz.f6.params[j]? = some t → args[j]? = some v → Value.okWide Tryz.prog W .any base t v)
  (hW : DataW.Whole enc Tryz.prog Tryz.f6.params.toList Rows.tripTextsSpec.vars false W args.toList ds gs before)
  (hwt : (DataW.weightsEach Tryz.prog (Tryz.f6.params.toList ++ (OpenSpec.ofChange Rows.tripTextsSpec).bare.plain.varTypes Tryz.prog) (ds ++ gs)).all (· ≤ reachBytes) = true) (hL : laidMetH Tryz.prog Rows.tripTextsRow.laid W) (hsh : W.ShapedOpen Tryz.prog) :
  Calls Tryz.prog 6 args W fun e W' => ∃ v, e = .returned v ∧ Rows.tripTextsSpec.post enc Tryz.prog Tryz.f6 false true false false W args v W' := by
 have hW' := hW
 obtain ⟨p, q, hA0, hV, rfl, hfz, hnd⟩ := hW
 obtain ⟨rfl, rfl⟩ := trodVars_none hV
 have hA : DataW.TrodAll enc Tryz.prog W 0 (fun _ => true) true Tryz.f6.params.toList args.toList ds p := hA0
 have hw : Vg.ajP (DataW.weightsEach Tryz.prog Tryz.f6.params.toList ds) := by
  have h0 : (Tryz.f6.params.toList ++ (OpenSpec.ofChange Rows.tripTextsSpec).bare.plain.varTypes Tryz.prog) = Tryz.f6.params.toList := by kernel_rfl
  rw [h0, List.append_nil] at hwt
  exact hwt
 obtain ⟨x, hx⟩ := Vg.aCl Tryz.f6.params.toList (Vs.P1 (.pair (.int .u16) (Vs.P4 (.int .u16) (.int .u16) (Vs.P2 (.int .i16) (.int .u8)) (.sl (Vs.P2 (.int .i16) (.int .u8)))))) args.toList ds p aOT (fun j t v h1 h2 => hval j t v (by simpa using h1) (by simpa using h2)) hA hw
 have hlt := hA.lt
 obtain ⟨a, ha⟩ : ∃ a, a = args.toList := ⟨_, rfl⟩
 have hargs : args = ⟨a⟩ := by rw [ha]
 have hA2 := hA
 rw [Tryz.params6] at hA2
 obtain ⟨v0, d0, -, rfl, h0⟩ := trodAll_one hA2
 simp only [List.append_nil] at hW'
 have hS : Vs.ahX x = some (true, ()) := rfl
 refine (Vs.o_TripTexts.h.2 W (· < W.heap.size) args.toList x (aLB hL hsh) (fun _ h => h) hx (aGT hS)).mono fun e W' ⟨rs, he, hr, hb⟩ => ?_
 have hf : Vs.o_TripTexts.c.fn x = (true, ()) := by first | rfl | exact aMf (d := (false, ())) hS
 rw [hf] at hr
 obtain ⟨v, us, rfl, hv, hus⟩ := hr
 have hus' : us = [] := hus
 subst hus'
 obtain ⟨cs, hc, hv⟩ := hv
 have hc' : cs = [.bool true] := hc
 subst hc'
 have hv' : [Value.bool true] = [v] := hv
 injection hv' with hv'
 subst hv'
 subst he
 exact ⟨_, rfl, _, _, _, [], p, [], hW', trodAll_mk1 (shut_bool Tryz.underlying4 _), Vg.aBZ aLW hb _ _ _ _ aOK hA hlt, rfl, hb.frame _, fun h => by cases h⟩
theorem aJT (os : Os) : laidMet Tryz.prog Rows.tripTextsRow.laid ((World.laidAll Tryz.prog os Rows.tripTextsRow.laid).forCall (fun _ _ => 0) ⟨#[], #[.agg #[.int .u16 0, .int .u16 0, .int .u16 0, .int .i16 0, .int .u8 0, .slice none 0 0]], []⟩).memory :=
 laidMet_laidAll _ (by kernel_rfl) (by kernel_rfl)
theorem aNh (os : Os) {H : Type} (enc : TypeId × Value → H) : ∃ places, DataW.whole enc Tryz.prog ((World.laidAll Tryz.prog os Rows.tripTextsRow.laid).forCall (fun _ _ => 0) ⟨#[], #[.agg #[.int .u16 0, .int .u16 0, .int .u16 0, .int .i16 0, .int .u8 0, .slice none 0 0]], []⟩).memory Tryz.f6.params.toList Rows.tripTextsSpec.vars false (#[.agg #[.int .u16 0, .int .u16 0, .int .u16 0, .int .i16 0, .int .u8 0, .slice none 0 0]] : Array Value).toList 8 = some ([.agg [.lit (.int .u16 0), .lit (.int .u16 0), .lit (.int .u16 0), .agg [.lit (.int .i16 0), .lit (.int .u8 0)], .nil]], [], places) :=
 ⟨[], by kernel_rfl⟩
set_option maxRecDepth 100000 in
theorem aNL (os : Os) (started : os.Started) (H : Type) (enc : TypeId × Value → H) (F : Stop.Interp) :
  ReturnsInHanded {} Tryz.checked os 6 .any ((OpenSpec.ofChange Rows.tripTextsSpec).preRow enc Tryz.prog Tryz.f6 Rows.tripTextsRow.domain false Rows.tripTextsRow.laid) (((OpenSpec.ofChange Rows.tripTextsSpec).at F).post enc Tryz.prog Tryz.f6 false true false false) := by
 obtain ⟨places, hx⟩ := aNh os enc
 refine returnsInHanded_of_row (C := Tryz.checked) (s := OpenSpec.ofChange Rows.tripTextsSpec) own started (by kernel_rfl) Tryz.func6
  (witness_row_atRef (enc := enc) (C := Tryz.checked) false (World.laidAll Tryz.prog os Rows.tripTextsRow.laid) #[.agg #[.int .u16 0, .int .u16 0, .int .u16 0, .int .i16 0, .int .u8 0, .slice none 0 0]] (World.laidAll_os _ _ _) (by kernel_rfl) (by kernel_rfl) (by kernel_rfl)
   (OpenSpec.preRow_of_cond 8 hx (by kernel_rfl) (fun k hk => by cases hk) (by kernel_rfl) (aJT os))) ?_
 intro W base args ds gs before hval hW _ _ hwt hL hsh _
 exact aKm H enc W base args ds gs before hval hW hwt hL hsh
set_option maxRecDepth 100000 in
theorem aNZ : (Rows.tripTextsRow.inPlace == Tryz.prog.inPlace 6) = true := by kernel_rfl
set_option maxRecDepth 100000 in
theorem aNX : (Rows.tripTextsRow.unfollowed == Tryz.prog.unfollowed 6) = true := by kernel_rfl
set_option maxRecDepth 100000 in
theorem aNW : (Rows.tripTextsRow.recurses == Tryz.prog.recurses 6) = true := by kernel_rfl
set_option maxRecDepth 100000 in
theorem aNV : (Rows.tripTextsRow.named == Tryz.prog.varsNamed 6) = true := by kernel_rfl
end Go.Proofs.YtlmjbmgabddkiaaGreatDoor
