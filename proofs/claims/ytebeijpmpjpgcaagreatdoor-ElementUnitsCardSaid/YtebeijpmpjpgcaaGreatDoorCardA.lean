/-
  The row of the law. After the seat example over a table, turned to this law; no condition.
-/
import Derived.Test.YtebeijpmpjpgcaaGreatDoorClL11
import Derived.ChangeOld
import Derived.Test.YtebeijpmpjpgcaaGreatDoorCards
import Derived.Test.YtebeijpmpjpgcaaGreatDoorTie
import Derived.ProofKit
import Derived.OpenShut
import Derived.LaidMore
import Derived.Deep.DeepHandedRow
import Derived.Deep.DeepWitnessRowRef
import Derived.Lib.LaidTab
set_option linter.unusedVariables false
set_option linter.unusedSimpArgs false
namespace Go.Proofs.YtebeijpmpjpgcaaGreatDoor
open Go.ChangeShapes Go.WideShapes Go.ChangeAt Go.RowKit
theorem own : ownKnob Tryz.prog.godebug = none := by kernel_rfl
theorem gTab : Tryz.prog.globalNamed "internal/strconv.uint64pow10" = some 4 := by kernel_rfl
theorem gTabType : (Tryz.prog.globals[4]?).map (·.type) = some 417 := by kernel_rfl
theorem aKc : Tryz.prog.cellsOf 417 = 20 := by kernel_rfl
theorem aHH : Tryz.prog.cellsOf 247 = 1 := by kernel_rfl
theorem gErr : Tryz.prog.globalNamed "strconv.ErrRange" = some 3 := by kernel_rfl
theorem gErrType : (Tryz.prog.globals[3]?).map (·.type) = some 257 := by kernel_rfl
theorem awD {H : Type} {enc : TypeId × Value → H} {P : Program} {w : World} {base : Nat} {spare : Nat → Bool} {held : Bool} {fuel : Nat} {t : TypeId} {ms : Array (String × TypeId)} {cs : List Value} {nm : String} {d : DataW H} {p : List MemPlace}
  (ht : P.underlying t = some (.interface ms)) (h : DataW.trod enc P w base spare held fuel t cs = some (.iface nm d, p)) : ∃ u v, cs = [.iface u v] := by
 cases fuel with
 | zero => cases h
 | succ fuel =>
  match cs, h with
  | [], h => simp [DataW.trod, ht] at h
  | [v], h => cases v <;> first | exact ⟨_, _, rfl⟩ | (simp [DataW.trod, ht] at h)
  | a :: b :: r, h => simp [DataW.trod, ht] at h
theorem aGC {α : Type} {o : Option α} {y : α} (h : o = some y) : o.isSome = true := by rw [h]; rfl
theorem aL6 {α : Type} {o : Option α} {y d : α} (h : o = some y) : o.getD d = y := by rw [h]; rfl
theorem aLx {W : World} (h : laidMetH Tryz.prog Rows.elementUnitsRow.laid W) : Vs.Gt W := by
 have h' : laidMet Tryz.prog Rows.elementUnitsRow.laid W := h
 obtain ⟨ps, ⟨_, _, _, _, _, _, _, _, _, _, ⟨_, _, _, _, _, _, _, _, _, _, ⟨g1, t1, cs, fuel, p, q, hg1, ht1, hvar, hd, ⟨g2, t2, cs2, fuel2, p2, q2, hg2, ht2, hvar2, hd2, _, _⟩, _⟩, _⟩, _⟩, _⟩ := h'
 obtain rfl := Option.some.inj (gTab.symm.trans hg1)
 obtain rfl := Option.some.inj (gTabType.symm.trans ht1)
 obtain rfl := Option.some.inj (gErr.symm.trans hg2)
 obtain rfl := Option.some.inj (gErrType.symm.trans ht2)
 have hd' : DataW.trod _ Tryz.prog W 0 _ _ fuel 417 cs.toList = some (Lib.tabData .u64 Lib.pow10Tab, p) := hd
 refine ⟨?_, ?_⟩
 ·unfold Lib.TabIs
  rw [hvar, ← Lib.cells_of_tab Tryz.underlying417 Tryz.underlying247 aHH aKc hd']
 ·obtain ⟨u, v, e⟩ := awD Tryz.underlying257 hd2
  refine ⟨u, v, ?_⟩
  rw [hvar2]
  congr 1
  apply Array.ext'
  exact e
theorem aPB : Vg.aCq Tryz.prog Tryz.f4.params.toList (Vs.P2 (.int .u8) (.arr 4 (.int .i16))) = true := by kernel_rfl
theorem aLN : laidOutB Tryz.prog = true := by kernel_rfl
theorem aPt : (Tryz.f4.params.toList.all fun t => Tryz.prog.readableRec t && decide (t < Tryz.prog.types.size)) = true := by kernel_rfl
set_option maxRecDepth 100000 in
theorem aKa (H : Type) (enc : TypeId × Value → H) (W : World) (base : Nat) (args : Array Value) (ds gs : List (DataW H)) (before : List MemPlace)
  (hval : ∀ (j : Nat) t v, Tryz.f4.params[j]? = some t → args[j]? = some v → Value.okWide Tryz.prog W .any base t v)
  (hW : DataW.Whole enc Tryz.prog Tryz.f4.params.toList Rows.elementUnitsSpec.vars false W args.toList ds gs before)
  (hwt : (DataW.weightsEach Tryz.prog (Tryz.f4.params.toList ++ (OpenSpec.ofChange Rows.elementUnitsSpec).bare.plain.varTypes Tryz.prog) (ds ++ gs)).all (· ≤ reachBytes) = true) (hL : laidMetH Tryz.prog Rows.elementUnitsRow.laid W) :
  Calls Tryz.prog 4 args W fun e W' => ∃ v, e = .returned v ∧ Rows.elementUnitsSpec.post enc Tryz.prog Tryz.f4 false true false false W args v W' := by
 have hW' := hW
 obtain ⟨p, q, hA0, hV, rfl, hfz, hnd⟩ := hW
 obtain ⟨rfl, rfl⟩ := trodVars_none hV
 have hA : DataW.TrodAll enc Tryz.prog W 0 (fun _ => true) true Tryz.f4.params.toList args.toList ds p := hA0
 have hw : Vg.aj0 (DataW.weightsEach Tryz.prog Tryz.f4.params.toList ds) := by
  have h0 : (Tryz.f4.params.toList ++ (OpenSpec.ofChange Rows.elementUnitsSpec).bare.plain.varTypes Tryz.prog) = Tryz.f4.params.toList := by kernel_rfl
  rw [h0, List.append_nil] at hwt
  exact hwt
 obtain ⟨x, hx⟩ := Vg.aCr Tryz.f4.params.toList (Vs.P2 (.int .u8) (.arr 4 (.int .i16))) args.toList ds p aPB (fun j t v h1 h2 => hval j t v (by simpa using h1) (by simpa using h2)) hA hw
 have hlt := hA.lt
 obtain ⟨a, ha⟩ : ∃ a, a = args.toList := ⟨_, rfl⟩
 have hargs : args = ⟨a⟩ := by rw [ha]
 have hA2 := hA
 rw [Tryz.params4] at hA2
 obtain ⟨v0, v1, d0, d1, p0, p1, -, rfl, -, h0, h1⟩ := trodAll_two hA2
 simp only [List.append_nil] at hW'
 have hS : Vs.akH x = some (true, ()) := rfl
 refine (Vs.o_ElementUnits.h.2 W (· < W.heap.size) args.toList x (aLx hL) (fun _ h => h) hx (aGC hS)).mono fun e W' ⟨rs, he, hr, hb⟩ => ?_
 have hf : Vs.o_ElementUnits.c.fn x = (true, ()) := by first | rfl | exact aL6 (d := (false, ())) hS
 rw [hf] at hr
 obtain ⟨v, us, rfl, hv, hus⟩ := hr
 have hus' : us = [] := hus
 subst hus'
 obtain ⟨cs, hc, hv⟩ := hv
 have hc' : cs = [.bool true] := hc
 subst hc'
 have hv' : [Value.bool true] = [v] := hv
 injection hv' with hv'
 subst hv'
 subst he
 exact ⟨_, rfl, _, _, _, [], p, [], hW', trodAll_mk1 (shut_bool Tryz.underlying4 _), Vg.aB8 aLN hb _ _ _ _ aPt hA hlt, rfl, hb.frame _, fun h => by cases h⟩
theorem aJE (os : Os) : laidMet Tryz.prog Rows.elementUnitsRow.laid ((World.doorLaid Tryz.prog 4000 os).forCall (fun _ _ => 0) ⟨#[], #[.int .u8 0, .agg #[.int .i16 0, .int .i16 0, .int .i16 0, .int .i16 0]], []⟩).memory :=
 laidMet_of_run' 8 (by kernel_rfl) (by kernel_rfl)
theorem aNk (os : Os) {H : Type} (enc : TypeId × Value → H) : ∃ places, DataW.whole enc Tryz.prog ((World.doorLaid Tryz.prog 4000 os).forCall (fun _ _ => 0) ⟨#[], #[.int .u8 0, .agg #[.int .i16 0, .int .i16 0, .int .i16 0, .int .i16 0]], []⟩).memory Tryz.f4.params.toList Rows.elementUnitsSpec.vars false (#[.int .u8 0, .agg #[.int .i16 0, .int .i16 0, .int .i16 0, .int .i16 0]] : Array Value).toList 8 = some ([.lit (.int .u8 0), .agg [.lit (.int .i16 0), .lit (.int .i16 0), .lit (.int .i16 0), .lit (.int .i16 0)]], [], places) :=
 ⟨[], by kernel_rfl⟩
set_option maxRecDepth 100000 in
theorem aNQ (os : Os) (started : os.Started) (H : Type) (enc : TypeId × Value → H) (F : Stop.Interp) :
  ReturnsInHanded {} Tryz.checked os 4 .any ((OpenSpec.ofChange Rows.elementUnitsSpec).preRow enc Tryz.prog Tryz.f4 Rows.elementUnitsRow.domain false Rows.elementUnitsRow.laid) (((OpenSpec.ofChange Rows.elementUnitsSpec).at F).post enc Tryz.prog Tryz.f4 false true false false) := by
 obtain ⟨places, hx⟩ := aNk os enc
 refine returnsInHanded_of_row (C := Tryz.checked) (s := OpenSpec.ofChange Rows.elementUnitsSpec) own started (by kernel_rfl) Tryz.func4
  (witness_row_atRef (enc := enc) (C := Tryz.checked) false (World.doorLaid Tryz.prog 4000 os) #[.int .u8 0, .agg #[.int .i16 0, .int .i16 0, .int .i16 0, .int .i16 0]] rfl (by kernel_rfl) (by kernel_rfl) (by kernel_rfl)
   (OpenSpec.preRow_of_cond 8 hx (by kernel_rfl) (fun k hk => by cases hk) (by kernel_rfl) (aJE os))) ?_
 intro W base args ds gs before hval hW _ _ hwt hL _ _
 exact aKa H enc W base args ds gs before hval hW hwt hL
set_option maxRecDepth 100000 in
theorem aN9 : (Rows.elementUnitsRow.inPlace == Tryz.prog.inPlace 4) = true := by kernel_rfl
set_option maxRecDepth 100000 in
theorem aN8 : (Rows.elementUnitsRow.unfollowed == Tryz.prog.unfollowed 4) = true := by kernel_rfl
set_option maxRecDepth 100000 in
theorem aN7 : (Rows.elementUnitsRow.recurses == Tryz.prog.recurses 4) = true := by kernel_rfl
set_option maxRecDepth 100000 in
theorem aN6 : (Rows.elementUnitsRow.named == Tryz.prog.varsNamed 4) = true := by kernel_rfl
end Go.Proofs.YtebeijpmpjpgcaaGreatDoor
