/-
  The row of the law. After the seat example over a table, turned to this law; no condition.
-/
import Derived.Test.YtlmjbmgabddkiaaGreatDoorClL7
import Derived.ChangeOld
import Derived.Test.YtlmjbmgabddkiaaGreatDoorCards
import Derived.Test.YtlmjbmgabddkiaaGreatDoorTie
import Derived.ProofKit
import Derived.OpenShut
import Derived.LaidMore
import Derived.Deep.DeepHandedRow
import Derived.Deep.DeepWitnessRowRef
import Derived.Lib.LaidTab
import Derived.ChangeCalls
set_option linter.unusedVariables false
set_option linter.unusedSimpArgs false
namespace Go.Proofs.YtlmjbmgabddkiaaGreatDoor
open Go.ChangeShapes Go.WideShapes Go.ChangeAt Go.RowKit
theorem own : ownKnob Tryz.prog.godebug = none := by kernel_rfl
theorem gTab : Tryz.prog.globalNamed "internal/strconv.uint64pow10" = some 3 := by kernel_rfl
theorem gTabType : (Tryz.prog.globals[3]?).map (·.type) = some 295 := by kernel_rfl
theorem aOB : Tryz.prog.cellsOf 295 = 20 := by kernel_rfl
theorem aLQ : Tryz.prog.cellsOf 248 = 1 := by kernel_rfl
theorem gErr : Tryz.prog.globalNamed "strconv.ErrRange" = some 9 := by kernel_rfl
theorem gErrType : (Tryz.prog.globals[9]?).map (·.type) = some 191 := by kernel_rfl
theorem aAh {H : Type} {enc : TypeId × Value → H} {P : Program} {w : World} {base : Nat} {spare : Nat → Bool} {held : Bool} {fuel : Nat} {t : TypeId} {ms : Array (String × TypeId)} {cs : List Value} {nm : String} {d : DataW H} {p : List MemPlace}
  (ht : P.underlying t = some (.interface ms)) (h : DataW.trod enc P w base spare held fuel t cs = some (.iface nm d, p)) : ∃ u v, cs = [.iface u v] := by
 cases fuel with
 | zero => cases h
 | succ fuel =>
  match cs, h with
  | [], h => simp [DataW.trod, ht] at h
  | [v], h => cases v <;> first | exact ⟨_, _, rfl⟩ | (simp [DataW.trod, ht] at h)
  | a :: b :: r, h => simp [DataW.trod, ht] at h
theorem aKL {α : Type} {o : Option α} {y : α} (h : o = some y) : o.isSome = true := by rw [h]; rfl
theorem aQz {α : Type} {o : Option α} {y d : α} (h : o = some y) : o.getD d = y := by rw [h]; rfl
theorem aPV {W : World} (h : laidMetH Tryz.prog Rows.tripJoinsRow.laid W) : Vs.Gt W := by
 have h' : laidMet Tryz.prog Rows.tripJoinsRow.laid W := h
 obtain ⟨ps, ⟨_, _, _, _, _, _, _, _, _, _, ⟨_, _, _, _, _, _, _, _, _, _, ⟨g1, t1, cs, fuel, p, q, hg1, ht1, hvar, hd, ⟨g2, t2, cs2, fuel2, p2, q2, hg2, ht2, hvar2, hd2, _, _⟩, _⟩, _⟩, _⟩, _⟩ := h'
 obtain rfl := Option.some.inj (gTab.symm.trans hg1)
 obtain rfl := Option.some.inj (gTabType.symm.trans ht1)
 obtain rfl := Option.some.inj (gErr.symm.trans hg2)
 obtain rfl := Option.some.inj (gErrType.symm.trans ht2)
 have hd' : DataW.trod _ Tryz.prog W 0 _ _ fuel 295 cs.toList = some (Lib.tabData .u64 Lib.pow10Tab, p) := hd
 refine ⟨?_, ?_⟩
 ·unfold Lib.TabIs
  rw [hvar, ← Lib.cells_of_tab Tryz.underlying295 Tryz.underlying248 aLQ aOB hd']
 ·obtain ⟨u, v, e⟩ := aAh Tryz.underlying191 hd2
  refine ⟨u, v, ?_⟩
  rw [hvar2]
  congr 1
  apply Array.ext'
  exact e
theorem aTc : Vg.aFU Tryz.prog Tryz.f3.params.toList (Vs.P4 (.pair (.int .u16) (Vs.P4 (.int .u16) (.int .u16) (Vs.P2 (.int .i16) (.int .u8)) (.sl (Vs.P2 (.int .i16) (.int .u8))))) (.pair (.int .u16) (Vs.P4 (.int .u16) (.int .u16) (Vs.P2 (.int .i16) (.int .u8)) (.sl (Vs.P2 (.int .i16) (.int .u8))))) (Vs.P3 (.int .u8) Vs.tI Vs.tF) (Vs.P3 (.int .u8) Vs.tI Vs.tF)) = true := by kernel_rfl
theorem aQe : laidOutB Tryz.prog = true := by kernel_rfl
theorem aS4 : (Tryz.f3.params.toList.all fun t => Tryz.prog.readableRec t && decide (t < Tryz.prog.types.size)) = true := by kernel_rfl
set_option maxRecDepth 100000 in
theorem aOz (H : Type) (enc : TypeId × Value → H) (W : World) (base : Nat) (args : Array Value) (ds gs : List (DataW H)) (before : List MemPlace)
  (hval : ∀ (j : Nat) t v, Tryz.f3.params[j]? = some t → args[j]? = some v → Value.okWide Tryz.prog W .any base t v)
  (hW : DataW.Whole enc Tryz.prog Tryz.f3.params.toList Rows.tripJoinsSpec.vars false W args.toList ds gs before)
  (hwt : (DataW.weightsEach Tryz.prog (Tryz.f3.params.toList ++ (OpenSpec.ofChange Rows.tripJoinsSpec).bare.plain.varTypes Tryz.prog) (ds ++ gs)).all (· ≤ reachBytes) = true) (hL : laidMetH Tryz.prog Rows.tripJoinsRow.laid W) :
  Calls Tryz.prog 3 args W fun e W' => ∃ v, e = .returned v ∧ Rows.tripJoinsSpec.post enc Tryz.prog Tryz.f3 false true false false W args v W' := by
 have hW' := hW
 obtain ⟨p, q, hA0, hV, rfl, hfz, hnd⟩ := hW
 obtain ⟨rfl, rfl⟩ := trodVars_none hV
 have hA : DataW.TrodAll enc Tryz.prog W 0 (fun _ => true) true Tryz.f3.params.toList args.toList ds p := hA0
 have hw : Vg.alZ (DataW.weightsEach Tryz.prog Tryz.f3.params.toList ds) := by
  have h0 : (Tryz.f3.params.toList ++ (OpenSpec.ofChange Rows.tripJoinsSpec).bare.plain.varTypes Tryz.prog) = Tryz.f3.params.toList := by kernel_rfl
  rw [h0, List.append_nil] at hwt
  exact hwt
 obtain ⟨x, hx⟩ := Vg.aFV Tryz.f3.params.toList (Vs.P4 (.pair (.int .u16) (Vs.P4 (.int .u16) (.int .u16) (Vs.P2 (.int .i16) (.int .u8)) (.sl (Vs.P2 (.int .i16) (.int .u8))))) (.pair (.int .u16) (Vs.P4 (.int .u16) (.int .u16) (Vs.P2 (.int .i16) (.int .u8)) (.sl (Vs.P2 (.int .i16) (.int .u8))))) (Vs.P3 (.int .u8) Vs.tI Vs.tF) (Vs.P3 (.int .u8) Vs.tI Vs.tF)) args.toList ds p aTc (fun j t v h1 h2 => hval j t v (by simpa using h1) (by simpa using h2)) hA hw
 have hlt := hA.lt
 obtain ⟨a, ha⟩ : ∃ a, a = args.toList := ⟨_, rfl⟩
 have hargs : args = ⟨a⟩ := by rw [ha]
 have hA2 := hA
 rw [Tryz.params3] at hA2
 obtain ⟨d0, d1, d2, d3, rfl⟩ : ∃ d0 d1 d2 d3, ds = [d0, d1, d2, d3] := by
  match ds, (trodAll_length hA2).2 with
  | [d0, d1, d2, d3], _ => exact ⟨d0, d1, d2, d3, rfl⟩
 simp only [List.append_nil] at hW'
 have hS : Vs.anE x = some (true, ()) := rfl
 refine (Vs.o_TripJoins.h.2 W (· < W.heap.size) args.toList x (aPV hL) (fun _ h => h) hx (aKL hS)).mono fun e W' ⟨rs, he, hr, hb⟩ => ?_
 have hf : Vs.o_TripJoins.c.fn x = (true, ()) := by first | rfl | exact aQz (d := (false, ())) hS
 rw [hf] at hr
 obtain ⟨v, us, rfl, hv, hus⟩ := hr
 have hus' : us = [] := hus
 subst hus'
 obtain ⟨cs, hc, hv⟩ := hv
 have hc' : cs = [.bool true] := hc
 subst hc'
 have hv' : [Value.bool true] = [v] := hv
 injection hv' with hv'
 subst hv'
 subst he
 exact ⟨_, rfl, _, _, _, [], p, [], hW', trodAll_mk1 (shut_bool Tryz.underlying4 _), Vg.aFw aQe hb _ _ _ _ aS4 hA hlt, rfl, hb.frame _, fun h => by cases h⟩
theorem aN1 (os : Os) : laidMet Tryz.prog Rows.tripJoinsRow.laid ((World.doorLaid Tryz.prog 4000 os).forCall (fun _ _ => 0) ⟨#[], #[.agg #[.int .u16 0, .int .u16 0, .int .u16 0, .int .i16 0, .int .u8 0, .slice none 0 0], .agg #[.int .u16 0, .int .u16 0, .int .u16 0, .int .i16 0, .int .u8 0, .slice none 0 0], .agg #[.int .u8 0, .int .i64 0, .string ⟨#[]⟩, .string ⟨#[]⟩], .agg #[.int .u8 0, .int .i64 0, .string ⟨#[]⟩, .string ⟨#[]⟩]], []⟩).memory :=
 laidMet_of_run' 8 (by kernel_rfl) (by kernel_rfl)
theorem aRE (os : Os) {H : Type} (enc : TypeId × Value → H) : ∃ places, DataW.whole enc Tryz.prog ((World.doorLaid Tryz.prog 4000 os).forCall (fun _ _ => 0) ⟨#[], #[.agg #[.int .u16 0, .int .u16 0, .int .u16 0, .int .i16 0, .int .u8 0, .slice none 0 0], .agg #[.int .u16 0, .int .u16 0, .int .u16 0, .int .i16 0, .int .u8 0, .slice none 0 0], .agg #[.int .u8 0, .int .i64 0, .string ⟨#[]⟩, .string ⟨#[]⟩], .agg #[.int .u8 0, .int .i64 0, .string ⟨#[]⟩, .string ⟨#[]⟩]], []⟩).memory Tryz.f3.params.toList Rows.tripJoinsSpec.vars false (#[.agg #[.int .u16 0, .int .u16 0, .int .u16 0, .int .i16 0, .int .u8 0, .slice none 0 0], .agg #[.int .u16 0, .int .u16 0, .int .u16 0, .int .i16 0, .int .u8 0, .slice none 0 0], .agg #[.int .u8 0, .int .i64 0, .string ⟨#[]⟩, .string ⟨#[]⟩], .agg #[.int .u8 0, .int .i64 0, .string ⟨#[]⟩, .string ⟨#[]⟩]] : Array Value).toList 8 = some ([.agg [.lit (.int .u16 0), .lit (.int .u16 0), .lit (.int .u16 0), .agg [.lit (.int .i16 0), .lit (.int .u8 0)], .nil], .agg [.lit (.int .u16 0), .lit (.int .u16 0), .lit (.int .u16 0), .agg [.lit (.int .i16 0), .lit (.int .u8 0)], .nil], .agg [.lit (.int .u8 0), .lit (.int .i64 0), .agg [.lit (.string []), .lit (.string [])]], .agg [.lit (.int .u8 0), .lit (.int .i64 0), .agg [.lit (.string []), .lit (.string [])]]], [], places) :=
 ⟨[], by kernel_rfl⟩
set_option maxRecDepth 100000 in
theorem aR9 (os : Os) (started : os.Started) (H : Type) (enc : TypeId × Value → H) (F : Stop.Interp) :
  ReturnsInHanded {} Tryz.checked os 3 .any ((OpenSpec.ofChange Rows.tripJoinsSpec).preRow enc Tryz.prog Tryz.f3 Rows.tripJoinsRow.domain false Rows.tripJoinsRow.laid) (((OpenSpec.ofChange Rows.tripJoinsSpec).at F).post enc Tryz.prog Tryz.f3 false true false false) := by
 obtain ⟨places, hx⟩ := aRE os enc
 refine returnsInHanded_of_row (C := Tryz.checked) (s := OpenSpec.ofChange Rows.tripJoinsSpec) own started (by kernel_rfl) Tryz.func3
  (witness_row_atRef (enc := enc) (C := Tryz.checked) false (World.doorLaid Tryz.prog 4000 os) #[.agg #[.int .u16 0, .int .u16 0, .int .u16 0, .int .i16 0, .int .u8 0, .slice none 0 0], .agg #[.int .u16 0, .int .u16 0, .int .u16 0, .int .i16 0, .int .u8 0, .slice none 0 0], .agg #[.int .u8 0, .int .i64 0, .string ⟨#[]⟩, .string ⟨#[]⟩], .agg #[.int .u8 0, .int .i64 0, .string ⟨#[]⟩, .string ⟨#[]⟩]] rfl (by kernel_rfl) (by kernel_rfl) (by kernel_rfl)
   (OpenSpec.preRow_of_cond 8 hx (by kernel_rfl) (fun k hk => by cases hk) (by kernel_rfl) (aN1 os))) ?_
 intro W base args ds gs before hval hW _ _ hwt hL _ _
 exact aOz H enc W base args ds gs before hval hW hwt hL
set_option maxRecDepth 100000 in
theorem aSj : (Rows.tripJoinsRow.inPlace == Tryz.prog.inPlace 3) = true := by kernel_rfl
set_option maxRecDepth 100000 in
theorem aSi : (Rows.tripJoinsRow.unfollowed == Tryz.prog.unfollowed 3) = true := by kernel_rfl
set_option maxRecDepth 100000 in
theorem aSh : (Rows.tripJoinsRow.recurses == Tryz.prog.recurses 3) = true := by kernel_rfl
set_option maxRecDepth 100000 in
theorem aSg : (Rows.tripJoinsRow.named == Tryz.prog.varsNamed 3) = true := by kernel_rfl
end Go.Proofs.YtlmjbmgabddkiaaGreatDoor
