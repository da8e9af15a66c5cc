/-
  The row of the law. After the seat example over a table, turned to this law; no condition.
-/
import Derived.Test.YtgibnaibdcbmmaaGreatDoorClL7
import Derived.ChangeOld
import Derived.Test.YtgibnaibdcbmmaaGreatDoorCards
import Derived.Test.YtgibnaibdcbmmaaGreatDoorTie
import Derived.ProofKit
import Derived.OpenShut
import Derived.LaidMore
import Derived.Deep.DeepHandedRow
import Derived.Deep.DeepWitnessRowRef
import Derived.Lib.LaidTab
set_option linter.unusedVariables false
set_option linter.unusedSimpArgs false
namespace Go.Proofs.YtgibnaibdcbmmaaGreatDoor
open Go.ChangeShapes Go.WideShapes Go.ChangeAt Go.RowKit
theorem own : ownKnob Tryz.prog.godebug = none := by kernel_rfl
theorem gTab : Tryz.prog.globalNamed "internal/strconv.uint64pow10" = some 4 := by kernel_rfl
theorem gTabType : (Tryz.prog.globals[4]?).map (·.type) = some 471 := by kernel_rfl
theorem aJ3 : Tryz.prog.cellsOf 471 = 20 := by kernel_rfl
theorem aH5 : Tryz.prog.cellsOf 234 = 1 := by kernel_rfl
theorem gErr : Tryz.prog.globalNamed "strconv.ErrRange" = some 3 := by kernel_rfl
theorem gErrType : (Tryz.prog.globals[3]?).map (·.type) = some 318 := by kernel_rfl
theorem aw9 {H : Type} {enc : TypeId × Value → H} {P : Program} {w : World} {base : Nat} {spare : Nat → Bool} {held : Bool} {fuel : Nat} {t : TypeId} {ms : Array (String × TypeId)} {cs : List Value} {nm : String} {d : DataW H} {p : List MemPlace}
  (ht : P.underlying t = some (.interface ms)) (h : DataW.trod enc P w base spare held fuel t cs = some (.iface nm d, p)) : ∃ u v, cs = [.iface u v] := by
 cases fuel with
 | zero => cases h
 | succ fuel =>
  match cs, h with
  | [], h => simp [DataW.trod, ht] at h
  | [v], h => cases v <;> first | exact ⟨_, _, rfl⟩ | (simp [DataW.trod, ht] at h)
  | a :: b :: r, h => simp [DataW.trod, ht] at h
theorem aHg {α : Type} {o : Option α} {y : α} (h : o = some y) : o.isSome = true := by rw [h]; rfl
theorem aLR {α : Type} {o : Option α} {y d : α} (h : o = some y) : o.getD d = y := by rw [h]; rfl
theorem ajB {W : World} (h : laidMetH Tryz.prog Rows.chainChecksRow.laid W) : Vs.Gt W := by
 have h' : laidMet Tryz.prog Rows.chainChecksRow.laid W := h
 obtain ⟨ps, ⟨_, _, _, _, _, _, _, _, _, _, ⟨_, _, _, _, _, _, _, _, _, _, ⟨g1, t1, cs, fuel, p, q, hg1, ht1, hvar, hd, ⟨g2, t2, cs2, fuel2, p2, q2, hg2, ht2, hvar2, hd2, _, _⟩, _⟩, _⟩, _⟩, _⟩ := h'
 obtain rfl := Option.some.inj (gTab.symm.trans hg1)
 obtain rfl := Option.some.inj (gTabType.symm.trans ht1)
 obtain rfl := Option.some.inj (gErr.symm.trans hg2)
 obtain rfl := Option.some.inj (gErrType.symm.trans ht2)
 have hd' : DataW.trod _ Tryz.prog W 0 _ _ fuel 471 cs.toList = some (Lib.tabData .u64 Lib.pow10Tab, p) := hd
 refine ⟨?_, ?_⟩
 ·unfold Lib.TabIs
  rw [hvar, ← Lib.cells_of_tab Tryz.underlying471 Tryz.underlying234 aH5 aJ3 hd']
 ·obtain ⟨u, v, e⟩ := aw9 Tryz.underlying318 hd2
  refine ⟨u, v, ?_⟩
  rw [hvar2]
  congr 1
  apply Array.ext'
  exact e
theorem aN9 : Vg.aCZ Tryz.prog Tryz.f3.params.toList (Vs.P3 (Vs.P3 (.int .u8) (.sl (.pair (.int .u8) (.pair (.int .u8) (.pair (.arr 4 (.pair (.int .u8) (.pair (.sl (.int .u16)) (.pair (.sl (.pair (.int .u8) (.pair (.int .i16) (.pair (.int .i16) (.pair (.int .i16) (.pair (.int .u8) (.pair (.int .u8) .unit))))))) (.pair .bool (.pair .bool .unit)))))) (Vs.P4 (.arr 4 (.arr 4 (.int .i16))) (.arr 4 (.int .i16)) (Vs.P4 (.sl (.int .u8)) (.int .u8) (.sl (.int .u16)) .bool) (Vs.P3 (.int .u8) (.int .u8) (.sl (Vs.P2 (.int .u8) (.int .i16))))))))) .bool) (.arr 2 (.pair (.int .u8) (.pair (.int .u8) (.pair (.int .i64) (.pair (.pair (.int .u8) (.pair (.int .u8) (.pair (.arr 4 (.pair (.int .u8) (.pair (.sl (.int .u16)) (.pair (.sl (.pair (.int .u8) (.pair (.int .i16) (.pair (.int .i16) (.pair (.int .i16) (.pair (.int .u8) (.pair (.int .u8) .unit))))))) (.pair .bool (.pair .bool .unit)))))) (.pair (.arr 4 (.arr 4 (.int .i16))) (.pair (.arr 4 (.int .i16)) (.pair (.pair (.sl (.int .u8)) (.pair (.int .u8) (.pair (.sl (.int .u16)) (.pair .bool .unit)))) (.pair (.pair (.int .u8) (.pair (.int .u8) (.pair (.sl (.pair (.int .u8) (.pair (.int .i16) .unit))) .unit))) .unit))))))) .unit))))) Vs.tI) = true := by kernel_rfl
theorem aLG : laidOutB Tryz.prog = true := by kernel_rfl
theorem aN1 : (Tryz.f3.params.toList.all fun t => Tryz.prog.readableRec t && decide (t < Tryz.prog.types.size)) = true := by kernel_rfl
set_option maxRecDepth 100000 in
theorem aJ1 (H : Type) (enc : TypeId × Value → H) (W : World) (base : Nat) (args : Array Value) (ds gs : List (DataW H)) (before : List MemPlace)
  (hval : ∀ (j : Nat) t v, Tryz.f3.params[j]? = some t → args[j]? = some v → Value.okWide Tryz.prog W .any base t v)
  (hW : DataW.Whole enc Tryz.prog Tryz.f3.params.toList Rows.chainChecksSpec.vars false W args.toList ds gs before)
  (hwt : (DataW.weightsEach Tryz.prog (Tryz.f3.params.toList ++ (OpenSpec.ofChange Rows.chainChecksSpec).bare.plain.varTypes Tryz.prog) (ds ++ gs)).all (· ≤ reachBytes) = true) (hL : laidMetH Tryz.prog Rows.chainChecksRow.laid W) :
  Calls Tryz.prog 3 args W fun e W' => ∃ v, e = .returned v ∧ Rows.chainChecksSpec.post enc Tryz.prog Tryz.f3 false true false false W args v W' := by
 have hW' := hW
 obtain ⟨p, q, hA0, hV, rfl, hfz, hnd⟩ := hW
 obtain ⟨rfl, rfl⟩ := trodVars_none hV
 have hA : DataW.TrodAll enc Tryz.prog W 0 (fun _ => true) true Tryz.f3.params.toList args.toList ds p := hA0
 have hw : Vg.ak5 (DataW.weightsEach Tryz.prog Tryz.f3.params.toList ds) := by
  have h0 : (Tryz.f3.params.toList ++ (OpenSpec.ofChange Rows.chainChecksSpec).bare.plain.varTypes Tryz.prog) = Tryz.f3.params.toList := by kernel_rfl
  rw [h0, List.append_nil] at hwt
  exact hwt
 obtain ⟨x, hx⟩ := Vg.aC0 Tryz.f3.params.toList (Vs.P3 (Vs.P3 (.int .u8) (.sl (.pair (.int .u8) (.pair (.int .u8) (.pair (.arr 4 (.pair (.int .u8) (.pair (.sl (.int .u16)) (.pair (.sl (.pair (.int .u8) (.pair (.int .i16) (.pair (.int .i16) (.pair (.int .i16) (.pair (.int .u8) (.pair (.int .u8) .unit))))))) (.pair .bool (.pair .bool .unit)))))) (Vs.P4 (.arr 4 (.arr 4 (.int .i16))) (.arr 4 (.int .i16)) (Vs.P4 (.sl (.int .u8)) (.int .u8) (.sl (.int .u16)) .bool) (Vs.P3 (.int .u8) (.int .u8) (.sl (Vs.P2 (.int .u8) (.int .i16))))))))) .bool) (.arr 2 (.pair (.int .u8) (.pair (.int .u8) (.pair (.int .i64) (.pair (.pair (.int .u8) (.pair (.int .u8) (.pair (.arr 4 (.pair (.int .u8) (.pair (.sl (.int .u16)) (.pair (.sl (.pair (.int .u8) (.pair (.int .i16) (.pair (.int .i16) (.pair (.int .i16) (.pair (.int .u8) (.pair (.int .u8) .unit))))))) (.pair .bool (.pair .bool .unit)))))) (.pair (.arr 4 (.arr 4 (.int .i16))) (.pair (.arr 4 (.int .i16)) (.pair (.pair (.sl (.int .u8)) (.pair (.int .u8) (.pair (.sl (.int .u16)) (.pair .bool .unit)))) (.pair (.pair (.int .u8) (.pair (.int .u8) (.pair (.sl (.pair (.int .u8) (.pair (.int .i16) .unit))) .unit))) .unit))))))) .unit))))) Vs.tI) args.toList ds p aN9 (fun j t v h1 h2 => hval j t v (by simpa using h1) (by simpa using h2)) hA hw
 have hlt := hA.lt
 obtain ⟨a, ha⟩ : ∃ a, a = args.toList := ⟨_, rfl⟩
 have hargs : args = ⟨a⟩ := by rw [ha]
 have hA2 := hA
 rw [Tryz.params3] at hA2
 obtain ⟨v0, v1, v2, d0, d1, d2, p0, p1, p2, -, rfl, -, h0, h1, h2⟩ := trodAll_three hA2
 simp only [List.append_nil] at hW'
 have hS : Vs.ai4 x = some (true, ()) := rfl
 refine (Vs.o_ChainChecks.h.2 W (· < W.heap.size) args.toList x (ajB hL) (fun _ h => h) hx (aHg hS)).mono fun e W' ⟨rs, he, hr, hb⟩ => ?_
 have hf : Vs.o_ChainChecks.c.fn x = (true, ()) := by first | rfl | exact aLR (d := (false, ())) hS
 rw [hf] at hr
 obtain ⟨v, us, rfl, hv, hus⟩ := hr
 have hus' : us = [] := hus
 subst hus'
 obtain ⟨cs, hc, hv⟩ := hv
 have hc' : cs = [.bool true] := hc
 subst hc'
 have hv' : [Value.bool true] = [v] := hv
 injection hv' with hv'
 subst hv'
 subst he
 exact ⟨_, rfl, _, _, _, [], p, [], hW', trodAll_mk1 (shut_bool Tryz.underlying4 _), Vg.aCM aLG hb _ _ _ _ aN1 hA hlt, rfl, hb.frame _, fun h => by cases h⟩
def argsW : Array Value := #[.agg #[.int .u8 0, .slice none 0 0, .bool false], .agg #[.int .u8 0, .int .u8 0, .int .i64 0, .int .u8 0, .int .u8 0, .int .u8 0, .slice none 0 0, .slice none 0 0, .bool false, .bool false, .int .u8 0, .slice none 0 0, .slice none 0 0, .bool false, .bool false, .int .u8 0, .slice none 0 0, .slice none 0 0, .bool false, .bool false, .int .u8 0, .slice none 0 0, .slice none 0 0, .bool false, .bool false, .int .i16 0, .int .i16 0, .int .i16 0, .int .i16 0, .int .i16 0, .int .i16 0, .int .i16 0, .int .i16 0, .int .i16 0, .int .i16 0, .int .i16 0, .int .i16 0, .int .i16 0, .int .i16 0, .int .i16 0, .int .i16 0, .int .i16 0, .int .i16 0, .int .i16 0, .int .i16 0, .slice none 0 0, .int .u8 0, .slice none 0 0, .bool false, .int .u8 0, .int .u8 0, .slice none 0 0, .int .u8 0, .int .u8 0, .int .i64 0, .int .u8 0, .int .u8 0, .int .u8 0, .slice none 0 0, .slice none 0 0, .bool false, .bool false, .int .u8 0, .slice none 0 0, .slice none 0 0, .bool false, .bool false, .int .u8 0, .slice none 0 0, .slice none 0 0, .bool false, .bool false, .int .u8 0, .slice none 0 0, .slice none 0 0, .bool false, .bool false, .int .i16 0, .int .i16 0, .int .i16 0, .int .i16 0, .int .i16 0, .int .i16 0, .int .i16 0, .int .i16 0, .int .i16 0, .int .i16 0, .int .i16 0, .int .i16 0, .int .i16 0, .int .i16 0, .int .i16 0, .int .i16 0, .int .i16 0, .int .i16 0, .int .i16 0, .int .i16 0, .slice none 0 0, .int .u8 0, .slice none 0 0, .bool false, .int .u8 0, .int .u8 0, .slice none 0 0], .int .i64 0]
def aOr (H : Type) : List (DataW H) := [.agg [.lit (.int .u8 0), .nil, .lit (.bool false)], .agg [.agg [.lit (.int .u8 0), .lit (.int .u8 0), .lit (.int .i64 0), .agg [.lit (.int .u8 0), .lit (.int .u8 0), .agg [.agg [.lit (.int .u8 0), .nil, .nil, .lit (.bool false), .lit (.bool false)], .agg [.lit (.int .u8 0), .nil, .nil, .lit (.bool false), .lit (.bool false)], .agg [.lit (.int .u8 0), .nil, .nil, .lit (.bool false), .lit (.bool false)], .agg [.lit (.int .u8 0), .nil, .nil, .lit (.bool false), .lit (.bool false)]], .agg [.agg [.lit (.int .i16 0), .lit (.int .i16 0), .lit (.int .i16 0), .lit (.int .i16 0)], .agg [.lit (.int .i16 0), .lit (.int .i16 0), .lit (.int .i16 0), .lit (.int .i16 0)], .agg [.lit (.int .i16 0), .lit (.int .i16 0), .lit (.int .i16 0), .lit (.int .i16 0)], .agg [.lit (.int .i16 0), .lit (.int .i16 0), .lit (.int .i16 0), .lit (.int .i16 0)]], .agg [.lit (.int .i16 0), .lit (.int .i16 0), .lit (.int .i16 0), .lit (.int .i16 0)], .agg [.nil, .lit (.int .u8 0), .nil, .lit (.bool false)], .agg [.lit (.int .u8 0), .lit (.int .u8 0), .nil]]], .agg [.lit (.int .u8 0), .lit (.int .u8 0), .lit (.int .i64 0), .agg [.lit (.int .u8 0), .lit (.int .u8 0), .agg [.agg [.lit (.int .u8 0), .nil, .nil, .lit (.bool false), .lit (.bool false)], .agg [.lit (.int .u8 0), .nil, .nil, .lit (.bool false), .lit (.bool false)], .agg [.lit (.int .u8 0), .nil, .nil, .lit (.bool false), .lit (.bool false)], .agg [.lit (.int .u8 0), .nil, .nil, .lit (.bool false), .lit (.bool false)]], .agg [.agg [.lit (.int .i16 0), .lit (.int .i16 0), .lit (.int .i16 0), .lit (.int .i16 0)], .agg [.lit (.int .i16 0), .lit (.int .i16 0), .lit (.int .i16 0), .lit (.int .i16 0)], .agg [.lit (.int .i16 0), .lit (.int .i16 0), .lit (.int .i16 0), .lit (.int .i16 0)], .agg [.lit (.int .i16 0), .lit (.int .i16 0), .lit (.int .i16 0), .lit (.int .i16 0)]], .agg [.lit (.int .i16 0), .lit (.int .i16 0), .lit (.int .i16 0), .lit (.int .i16 0)], .agg [.nil, .lit (.int .u8 0), .nil, .lit (.bool false)], .agg [.lit (.int .u8 0), .lit (.int .u8 0), .nil]]]], .lit (.int .i64 0)]
theorem aJD (os : Os) : laidMet Tryz.prog Rows.chainChecksRow.laid ((World.doorLaid Tryz.prog 4000 os).forCall (fun _ _ => 0) ⟨#[], argsW, []⟩).memory :=
 laidMet_of_run' 8 (by kernel_rfl) (by kernel_rfl)
theorem aMJ (os : Os) {H : Type} (enc : TypeId × Value → H) : ∃ places, DataW.whole enc Tryz.prog ((World.doorLaid Tryz.prog 4000 os).forCall (fun _ _ => 0) ⟨#[], argsW, []⟩).memory Tryz.f3.params.toList Rows.chainChecksSpec.vars false argsW.toList 8 = some (aOr H, [], places) :=
 ⟨[], by kernel_rfl⟩
set_option maxRecDepth 100000 in
theorem aM3 (os : Os) (started : os.Started) (H : Type) (enc : TypeId × Value → H) (F : Stop.Interp) :
  ReturnsInHanded {} Tryz.checked os 3 .any ((OpenSpec.ofChange Rows.chainChecksSpec).preRow enc Tryz.prog Tryz.f3 Rows.chainChecksRow.domain false Rows.chainChecksRow.laid) (((OpenSpec.ofChange Rows.chainChecksSpec).at F).post enc Tryz.prog Tryz.f3 false true false false) := by
 obtain ⟨places, hx⟩ := aMJ os enc
 refine returnsInHanded_of_row (C := Tryz.checked) (s := OpenSpec.ofChange Rows.chainChecksSpec) own started (by kernel_rfl) Tryz.func3
  (witness_row_atRef (enc := enc) (C := Tryz.checked) false (World.doorLaid Tryz.prog 4000 os) argsW rfl (by kernel_rfl) (by kernel_rfl) (by kernel_rfl)
   (OpenSpec.preRow_of_cond 8 hx (by kernel_rfl) (fun k hk => by cases hk) (by kernel_rfl) (aJD os))) ?_
 intro W base args ds gs before hval hW _ _ hwt hL _ _
 exact aJ1 H enc W base args ds gs before hval hW hwt hL
set_option maxRecDepth 100000 in
theorem aNb : (Rows.chainChecksRow.inPlace == Tryz.prog.inPlace 3) = true := by kernel_rfl
set_option maxRecDepth 100000 in
theorem aNa : (Rows.chainChecksRow.unfollowed == Tryz.prog.unfollowed 3) = true := by kernel_rfl
set_option maxRecDepth 100000 in
theorem aM9 : (Rows.chainChecksRow.recurses == Tryz.prog.recurses 3) = true := by kernel_rfl
set_option maxRecDepth 100000 in
theorem aM8 : (Rows.chainChecksRow.named == Tryz.prog.varsNamed 3) = true := by kernel_rfl
end Go.Proofs.YtgibnaibdcbmmaaGreatDoor
