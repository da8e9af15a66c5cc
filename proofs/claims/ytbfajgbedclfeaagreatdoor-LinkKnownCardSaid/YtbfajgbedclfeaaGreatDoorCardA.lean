/-
  The law LinkKnown: the row and its card, over the run. Own work, after the seat's toy over a package-level table; no condition.
-/
import Derived.Test.YtbfajgbedclfeaaGreatDoorTop
import Derived.Test.YtbfajgbedclfeaaGreatDoorCards
import Derived.Test.YtbfajgbedclfeaaGreatDoorTie
import Derived.ProofKit
import Derived.OpenShut
import Derived.LaidMore
import Derived.Deep.DeepHandedRow
import Derived.Deep.DeepWitnessRowRef
import Derived.Lib.LaidTab
namespace Go.Proofs.YtbfajgbedclfeaaGreatDoor
open Go.ChangeShapes Go.WideShapes Go.ChangeAt Go.RowKit

theorem own : ownKnob Tryz.prog.godebug = none := by kernel_rfl
theorem gTab : Tryz.prog.globalNamed "internal/strconv.uint64pow10" = some 0 := by kernel_rfl
theorem gTabType : (Tryz.prog.globals[0]?).map (·.type) = some 306 := by kernel_rfl
theorem cellsTab : Tryz.prog.cellsOf 306 = 20 := by kernel_rfl
theorem cellsElem : Tryz.prog.cellsOf 150 = 1 := by kernel_rfl

theorem table {W : World} (h : laidMetH Tryz.prog Rows.linkKnownRow.laid W) : Vg.Gt Tryz.prog W := by
  have h' : laidMet Tryz.prog Rows.linkKnownRow.laid W := h
  obtain ⟨ps, ⟨_, _, _, _, _, _, _, _, _, _, ⟨_, _, _, _, _, _, _, _, _, _, ⟨g1, t1, cs, fuel, p, q, hg1, ht1, hvar, hd, _, _⟩, _⟩, _⟩, _⟩ := h'
  obtain rfl := Option.some.inj (gTab.symm.trans hg1)
  obtain rfl := Option.some.inj (gTabType.symm.trans ht1)
  have hd' : DataW.trod _ Tryz.prog W 0 _ _ fuel 306 cs.toList = some (Lib.tabData .u64 Lib.pow10Tab, p) := hd
  unfold Vg.Gt Lib.TabIs
  rw [hvar, ← Lib.cells_of_tab Tryz.underlying306 Tryz.underlying150 cellsElem cellsTab hd']

theorem contract (H : Type) (enc : TypeId × Value → H) (W : World) (args : Array Value) (ds gs : List (DataW H)) (before : List MemPlace)
    (hW : DataW.Whole enc Tryz.prog Tryz.f3.params.toList Rows.linkKnownSpec.vars false W args.toList ds gs before) (hL : laidMetH Tryz.prog Rows.linkKnownRow.laid W) :
    Calls Tryz.prog 3 args W fun e W' => ∃ v, e = .returned v ∧ Rows.linkKnownSpec.post enc Tryz.prog Tryz.f3 false true false false W args v W' := by
  have hW' := hW
  obtain ⟨p, q, hA0, hV, rfl, hfz, hnd⟩ := hW
  have hA : DataW.TrodAll enc Tryz.prog W 0 (fun _ => true) true Tryz.f3.params.toList args.toList ds p := hA0
  rw [Tryz.params3] at hA
  obtain ⟨hargs, rfl, rfl⟩ := trodAll_nil hA
  obtain rfl : args = #[] := by cases args; simp_all
  obtain ⟨rfl, rfl⟩ := trodVars_none hV
  clear hA0
  simp only [List.append_nil] at hW'
  refine (Vg.top_at.2 W (fun _ => False) [] () (table hL) (fun _ h => h.elim) rfl rfl).mono fun e W' ⟨rs, he, hr, hb⟩ => ?_
  obtain ⟨v, us, rfl, hv, hus⟩ := hr
  have hus' : us = [] := hus
  subst hus'
  obtain ⟨cs, hc, hv⟩ := hv
  have hc' : cs = [.bool true] := hc
  subst hc'
  have hv' : [Value.bool true] = [v] := hv
  injection hv' with hv'
  subst hv'
  subst he
  exact ⟨_, rfl, [], [], [], [], [], [], hW', trodAll_mk1 (shut_bool Tryz.underlying4 _), trodAll_mk0, rfl, hb.frame _, fun h => by cases h⟩

theorem laid_met (os : Os) : laidMet Tryz.prog Rows.linkKnownRow.laid ((World.doorLaid Tryz.prog 4000 os).forCall (fun _ _ => 0) ⟨#[], #[], []⟩).memory :=
  laidMet_of_run' 8 (by kernel_rfl) (by kernel_rfl)
theorem reads (os : Os) {H : Type} (enc : TypeId × Value → H) : ∃ places, DataW.whole enc Tryz.prog ((World.doorLaid Tryz.prog 4000 os).forCall (fun _ _ => 0) ⟨#[], #[], []⟩).memory Tryz.f3.params.toList Rows.linkKnownSpec.vars false (#[] : Array Value).toList 8 = some ([], [], places) :=
  ⟨[], by kernel_rfl⟩

set_option maxRecDepth 100000 in
theorem lifted (os : Os) (started : os.Started) (H : Type) (enc : TypeId × Value → H) (F : Stop.Interp) :
    ReturnsInHanded {} Tryz.checked os 3 .any ((OpenSpec.ofChange Rows.linkKnownSpec).preRow enc Tryz.prog Tryz.f3 Rows.linkKnownRow.domain false Rows.linkKnownRow.laid) (((OpenSpec.ofChange Rows.linkKnownSpec).at F).post enc Tryz.prog Tryz.f3 false true false false) := by
  obtain ⟨places, hx⟩ := reads os enc
  refine returnsInHanded_of_row (C := Tryz.checked) (s := OpenSpec.ofChange Rows.linkKnownSpec) own started (by kernel_rfl) Tryz.func3
    (witness_row_atRef (enc := enc) (C := Tryz.checked) false (World.doorLaid Tryz.prog 4000 os) #[] rfl (by kernel_rfl) (by kernel_rfl) (by kernel_rfl)
      (OpenSpec.preRow_of_cond 8 hx (by kernel_rfl) (fun k hk => by cases hk) (by kernel_rfl) (laid_met os))) ?_
  intro W base args ds gs before _ hW _ _ _ hL _ _
  exact contract H enc W args ds gs before hW hL

set_option maxRecDepth 100000 in
theorem facts1 : (Rows.linkKnownRow.inPlace == Tryz.prog.inPlace 3) = true := by kernel_rfl
set_option maxRecDepth 100000 in
theorem facts2 : (Rows.linkKnownRow.unfollowed == Tryz.prog.unfollowed 3) = true := by kernel_rfl
set_option maxRecDepth 100000 in
theorem facts3 : (Rows.linkKnownRow.recurses == Tryz.prog.recurses 3) = true := by kernel_rfl
set_option maxRecDepth 100000 in
theorem facts4 : (Rows.linkKnownRow.named == Tryz.prog.varsNamed 3) = true := by kernel_rfl
end Go.Proofs.YtbfajgbedclfeaaGreatDoor
