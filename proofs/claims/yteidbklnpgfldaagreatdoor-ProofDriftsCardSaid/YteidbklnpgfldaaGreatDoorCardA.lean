/-
  The row of the law. After the seat example over a table, turned to this law; no condition.
-/
import Derived.Test.YteidbklnpgfldaaGreatDoorClL6
import Derived.ChangeOld
import Derived.Test.YteidbklnpgfldaaGreatDoorCards
import Derived.Test.YteidbklnpgfldaaGreatDoorTie
import Derived.ProofKit
import Derived.OpenShut
import Derived.LaidMore
import Derived.Lay
import Derived.Deep.DeepHandedRow
import Derived.Deep.DeepWitnessRowRef
import Derived.Lib.LaidTab
set_option linter.unusedVariables false
set_option linter.unusedSimpArgs false
namespace Go.Proofs.YteidbklnpgfldaaGreatDoor
open Go.ChangeShapes Go.WideShapes Go.ChangeAt Go.RowKit
theorem own : ownKnob Tryz.prog.godebug = none := by kernel_rfl
theorem gTab : Tryz.prog.globalNamed "internal/strconv.uint64pow10" = some 2 := by kernel_rfl
theorem gTabType : (Tryz.prog.globals[2]?).map (·.type) = some 357 := by kernel_rfl
theorem aL0 : Tryz.prog.cellsOf 357 = 20 := by kernel_rfl
theorem aJn : Tryz.prog.cellsOf 167 = 1 := by kernel_rfl
theorem gErr : Tryz.prog.globalNamed "strconv.ErrRange" = some 7 := by kernel_rfl
theorem gErrType : (Tryz.prog.globals[7]?).map (·.type) = some 238 := by kernel_rfl
theorem axK {H : Type} {enc : TypeId × Value → H} {P : Program} {w : World} {base : Nat} {spare : Nat → Bool} {held : Bool} {fuel : Nat} {t : TypeId} {ms : Array (String × TypeId)} {cs : List Value} {nm : String} {d : DataW H} {p : List MemPlace}
  (ht : P.underlying t = some (.interface ms)) (h : DataW.trod enc P w base spare held fuel t cs = some (.iface nm d, p)) : ∃ u v, cs = [.iface u v] := by
 cases fuel with
 | zero => cases h
 | succ fuel =>
  match cs, h with
  | [], h => simp [DataW.trod, ht] at h
  | [v], h => cases v <;> first | exact ⟨_, _, rfl⟩ | (simp [DataW.trod, ht] at h)
  | a :: b :: r, h => simp [DataW.trod, ht] at h
theorem aIk {α : Type} {o : Option α} {y : α} (h : o = some y) : o.isSome = true := by rw [h]; rfl
theorem aOs {α : Type} {o : Option α} {y d : α} (h : o = some y) : o.getD d = y := by rw [h]; rfl
theorem aNN {W : World} (h : laidMetH Tryz.prog Rows.proofDriftsRow.laid W) : Vs.Gt W := by
 have h' : laidMet Tryz.prog Rows.proofDriftsRow.laid W := h
 obtain ⟨ps, ⟨_, _, _, _, _, _, _, _, _, _, ⟨_, _, _, _, _, _, _, _, _, _, ⟨g1, t1, cs, fuel, p, q, hg1, ht1, hvar, hd, ⟨_, _, _, _, _, _, _, _, _, _, ⟨g2, t2, cs2, fuel2, p2, q2, hg2, ht2, hvar2, hd2, _, _⟩, _⟩, _⟩, _⟩, _⟩, _⟩ := h'
 obtain rfl := Option.some.inj (gTab.symm.trans hg1)
 obtain rfl := Option.some.inj (gTabType.symm.trans ht1)
 obtain rfl := Option.some.inj (gErr.symm.trans hg2)
 obtain rfl := Option.some.inj (gErrType.symm.trans ht2)
 have hd' : DataW.trod _ Tryz.prog W 0 _ _ fuel 357 cs.toList = some (Lib.tabData .u64 Lib.pow10Tab, p) := hd
 refine ⟨?_, ?_⟩
 ·unfold Lib.TabIs
  rw [hvar, ← Lib.cells_of_tab Tryz.underlying357 Tryz.underlying167 aJn aL0 hd']
 ·obtain ⟨u, v, e⟩ := axK Tryz.underlying238 hd2
  refine ⟨u, v, ?_⟩
  rw [hvar2]
  congr 1
  apply Array.ext'
  exact e
theorem aRv : Vg.aDG Tryz.prog Tryz.f3.params.toList (Vs.P2 (.pair (Vs.P2 (.int .u8) (.sl (.arr 7 (.int .i16)))) (Vs.P4 (.int .u8) (.sl (.arr 3 (.int .i8))) (.int .u8) (.int .u8))) (Vs.P2 (.int .u8) (.sl (.arr 7 (.int .i16))))) = true := by kernel_rfl
theorem aOa : laidOutB Tryz.prog = true := by kernel_rfl
theorem aRb : (Tryz.f3.params.toList.all fun t => Tryz.prog.readableRec t && decide (t < Tryz.prog.types.size)) = true := by kernel_rfl
set_option maxRecDepth 100000 in
theorem aLY (H : Type) (enc : TypeId × Value → H) (W : World) (base : Nat) (args : Array Value) (ds gs : List (DataW H)) (before : List MemPlace)
  (hval : ∀ (j : Nat) t v, Tryz.f3.params[j]? = some t → args[j]? = some v → Value.okWide Tryz.prog W .any base t v)
  (hW : DataW.Whole enc Tryz.prog Tryz.f3.params.toList Rows.proofDriftsSpec.vars false W args.toList ds gs before)
  (hwt : (DataW.weightsEach Tryz.prog (Tryz.f3.params.toList ++ (OpenSpec.ofChange Rows.proofDriftsSpec).bare.plain.varTypes Tryz.prog) (ds ++ gs)).all (· ≤ reachBytes) = true) (hL : laidMetH Tryz.prog Rows.proofDriftsRow.laid W) :
  Calls Tryz.prog 3 args W fun e W' => ∃ v, e = .returned v ∧ Rows.proofDriftsSpec.post enc Tryz.prog Tryz.f3 false true false false W args v W' := by
 have hW' := hW
 obtain ⟨p, q, hA0, hV, rfl, hfz, hnd⟩ := hW
 obtain ⟨rfl, rfl⟩ := trodVars_none hV
 have hA : DataW.TrodAll enc Tryz.prog W 0 (fun _ => true) true Tryz.f3.params.toList args.toList ds p := hA0
 have hw : Vg.akR (DataW.weightsEach Tryz.prog Tryz.f3.params.toList ds) := by
  have h0 : (Tryz.f3.params.toList ++ (OpenSpec.ofChange Rows.proofDriftsSpec).bare.plain.varTypes Tryz.prog) = Tryz.f3.params.toList := by kernel_rfl
  rw [h0, List.append_nil] at hwt
  exact hwt
 obtain ⟨x, hx⟩ := Vg.aDH Tryz.f3.params.toList (Vs.P2 (.pair (Vs.P2 (.int .u8) (.sl (.arr 7 (.int .i16)))) (Vs.P4 (.int .u8) (.sl (.arr 3 (.int .i8))) (.int .u8) (.int .u8))) (Vs.P2 (.int .u8) (.sl (.arr 7 (.int .i16))))) args.toList ds p aRv (fun j t v h1 h2 => hval j t v (by simpa using h1) (by simpa using h2)) hA hw
 have hlt := hA.lt
 obtain ⟨a, ha⟩ : ∃ a, a = args.toList := ⟨_, rfl⟩
 have hargs : args = ⟨a⟩ := by rw [ha]
 have hA2 := hA
 rw [Tryz.params3] at hA2
 obtain ⟨v0, v1, d0, d1, p0, p1, -, rfl, -, h0, h1⟩ := trodAll_two hA2
 simp only [List.append_nil] at hW'
 have hS : Vs.aiZ x = some (true, ()) := rfl
 refine (Vs.o_ProofDrifts.h.2 W (· < W.heap.size) args.toList x (aNN hL) (fun _ h => h) hx (aIk hS)).mono fun e W' ⟨rs, he, hr, hb⟩ => ?_
 have hf : Vs.o_ProofDrifts.c.fn x = (true, ()) := by first | rfl | exact aOs (d := (false, ())) hS
 rw [hf] at hr
 obtain ⟨v, us, rfl, hv, hus⟩ := hr
 have hus' : us = [] := hus
 subst hus'
 obtain ⟨cs, hc, hv⟩ := hv
 have hc' : cs = [.bool true] := hc
 subst hc'
 have hv' : [Value.bool true] = [v] := hv
 injection hv' with hv'
 subst hv'
 subst he
 exact ⟨_, rfl, _, _, _, [], p, [], hW', trodAll_mk1 (shut_bool Tryz.underlying4 _), Vg.aDq aOa hb _ _ _ _ aRb hA hlt, rfl, hb.frame _, fun h => by cases h⟩
def argsW : Array Value := #[.agg #[.int .u8 0, .slice none 0 0, .int .u8 0, .slice none 0 0, .int .u8 0, .int .u8 0], .agg #[.int .u8 0, .slice none 0 0]]
def aRH (H : Type) : List (DataW H) := [.agg [.agg [.lit (.int .u8 0), .nil], .lit (.int .u8 0), .nil, .lit (.int .u8 0), .lit (.int .u8 0)], .agg [.lit (.int .u8 0), .nil]]
theorem aLA (os : Os) : laidMet Tryz.prog Rows.proofDriftsRow.laid ((World.laidAll Tryz.prog os Rows.proofDriftsRow.laid).forCall (fun _ _ => 0) ⟨#[], argsW, []⟩).memory :=
 laidMet_laidAll argsW (by kernel_rfl) (by kernel_rfl)
theorem aPl (os : Os) {H : Type} (enc : TypeId × Value → H) : ∃ places, DataW.whole enc Tryz.prog ((World.laidAll Tryz.prog os Rows.proofDriftsRow.laid).forCall (fun _ _ => 0) ⟨#[], argsW, []⟩).memory Tryz.f3.params.toList Rows.proofDriftsSpec.vars false argsW.toList 8 = some (aRH H, [], places) :=
 ⟨[], by kernel_rfl⟩
set_option maxRecDepth 100000 in
theorem aQa (os : Os) (started : os.Started) (H : Type) (enc : TypeId × Value → H) (F : Stop.Interp) :
  ReturnsInHanded {} Tryz.checked os 3 .any ((OpenSpec.ofChange Rows.proofDriftsSpec).preRow enc Tryz.prog Tryz.f3 Rows.proofDriftsRow.domain false Rows.proofDriftsRow.laid) (((OpenSpec.ofChange Rows.proofDriftsSpec).at F).post enc Tryz.prog Tryz.f3 false true false false) := by
 obtain ⟨places, hx⟩ := aPl os enc
 refine returnsInHanded_of_row (C := Tryz.checked) (s := OpenSpec.ofChange Rows.proofDriftsSpec) own started (by kernel_rfl) Tryz.func3
  (witness_row_atRef (enc := enc) (C := Tryz.checked) false (World.laidAll Tryz.prog os Rows.proofDriftsRow.laid) argsW (World.laidAll_os _ _ _) (by kernel_rfl) (by kernel_rfl) (by kernel_rfl)
   (OpenSpec.preRow_of_cond 8 hx (by kernel_rfl) (fun k hk => by cases hk) (by kernel_rfl) (aLA os))) ?_
 intro W base args ds gs before hval hW _ _ hwt hL _ _
 exact aLY H enc W base args ds gs before hval hW hwt hL
set_option maxRecDepth 100000 in
theorem aQi : (Rows.proofDriftsRow.inPlace == Tryz.prog.inPlace 3) = true := by kernel_rfl
set_option maxRecDepth 100000 in
theorem aQh : (Rows.proofDriftsRow.unfollowed == Tryz.prog.unfollowed 3) = true := by kernel_rfl
set_option maxRecDepth 100000 in
theorem aQg : (Rows.proofDriftsRow.recurses == Tryz.prog.recurses 3) = true := by kernel_rfl
set_option maxRecDepth 100000 in
theorem aQf : (Rows.proofDriftsRow.named == Tryz.prog.varsNamed 3) = true := by kernel_rfl
end Go.Proofs.YteidbklnpgfldaaGreatDoor
