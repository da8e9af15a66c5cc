/-
  The row of the law. After the seat example over a table, turned to this law; no condition.
-/
import Derived.Test.YtakjojajnblpoaaGreatDoorClT1
import Derived.Test.YtakjojajnblpoaaGreatDoorCards
import Derived.Test.YtakjojajnblpoaaGreatDoorTie
import Derived.ProofKit
import Derived.OpenShut
import Derived.LaidMore
import Derived.Deep.DeepHandedRow
import Derived.Deep.DeepWitnessRowRef
import Derived.Lib.LaidTab
set_option linter.unusedVariables false
set_option linter.unusedSimpArgs false
namespace Go.Proofs.YtakjojajnblpoaaGreatDoor
open Go.ChangeShapes Go.WideShapes Go.ChangeAt Go.RowKit
theorem own : ownKnob Tryz.prog.godebug = none := by kernel_rfl
theorem gTab : Tryz.prog.globalNamed "internal/strconv.uint64pow10" = some 2 := by kernel_rfl
theorem gTabType : (Tryz.prog.globals[2]?).map (·.type) = some 325 := by kernel_rfl
theorem cellsTab : Tryz.prog.cellsOf 325 = 20 := by kernel_rfl
theorem cellsElem : Tryz.prog.cellsOf 218 = 1 := by kernel_rfl
theorem gErr : Tryz.prog.globalNamed "strconv.ErrRange" = some 1 := by kernel_rfl
theorem gErrType : (Tryz.prog.globals[1]?).map (·.type) = some 149 := by kernel_rfl
theorem iface_of_trod {H : Type} {enc : TypeId × Value → H} {P : Program} {w : World} {base : Nat} {spare : Nat → Bool} {held : Bool} {fuel : Nat} {t : TypeId} {ms : Array (String × TypeId)} {cs : List Value} {nm : String} {d : DataW H} {p : List MemPlace}
  (ht : P.underlying t = some (.interface ms)) (h : DataW.trod enc P w base spare held fuel t cs = some (.iface nm d, p)) : ∃ u v, cs = [.iface u v] := by
 cases fuel with
 | zero => cases h
 | succ fuel =>
  match cs, h with
  | [], h => simp [DataW.trod, ht] at h
  | [v], h => cases v <;> first | exact ⟨_, _, rfl⟩ | (simp [DataW.trod, ht] at h)
  | a :: b :: r, h => simp [DataW.trod, ht] at h
theorem isSome_of {α : Type} {o : Option α} {y : α} (h : o = some y) : o.isSome = true := by rw [h]; rfl
theorem getD_of {α : Type} {o : Option α} {y d : α} (h : o = some y) : o.getD d = y := by rw [h]; rfl
theorem table {W : World} (h : laidMetH Tryz.prog Rows.curvePowersRow.laid W) : Vs.Gt W := by
 have h' : laidMet Tryz.prog Rows.curvePowersRow.laid W := h
 obtain ⟨ps, ⟨_, _, _, _, _, _, _, _, _, _, ⟨_, _, _, _, _, _, _, _, _, _, ⟨g1, t1, cs, fuel, p, q, hg1, ht1, hvar, hd, ⟨g2, t2, cs2, fuel2, p2, q2, hg2, ht2, hvar2, hd2, _, _⟩, _⟩, _⟩, _⟩, _⟩ := h'
 obtain rfl := Option.some.inj (gTab.symm.trans hg1)
 obtain rfl := Option.some.inj (gTabType.symm.trans ht1)
 obtain rfl := Option.some.inj (gErr.symm.trans hg2)
 obtain rfl := Option.some.inj (gErrType.symm.trans ht2)
 have hd' : DataW.trod _ Tryz.prog W 0 _ _ fuel 325 cs.toList = some (Lib.tabData .u64 Lib.pow10Tab, p) := hd
 refine ⟨?_, ?_⟩
 ·unfold Lib.TabIs
  rw [hvar, ← Lib.cells_of_tab Tryz.underlying325 Tryz.underlying218 cellsElem cellsTab hd']
 ·obtain ⟨u, v, e⟩ := iface_of_trod Tryz.underlying149 hd2
  refine ⟨u, v, ?_⟩
  rw [hvar2]
  congr 1
  apply Array.ext'
  exact e
set_option maxRecDepth 100000 in
theorem contract (H : Type) (enc : TypeId × Value → H) (W : World) (base : Nat) (args : Array Value) (ds gs : List (DataW H)) (before : List MemPlace)
  (hval : ∀ (j : Nat) t v, Tryz.f6.params[j]? = some t → args[j]? = some v → Value.okWide Tryz.prog W .any base t v)
  (hW : DataW.Whole enc Tryz.prog Tryz.f6.params.toList Rows.curvePowersSpec.vars false W args.toList ds gs before) (hL : laidMetH Tryz.prog Rows.curvePowersRow.laid W) :
  Calls Tryz.prog 6 args W fun e W' => ∃ v, e = .returned v ∧ Rows.curvePowersSpec.post enc Tryz.prog Tryz.f6 false true false false W args v W' := by
 have hW' := hW
 obtain ⟨p, q, hA0, hV, rfl, hfz, hnd⟩ := hW
 have hA : DataW.TrodAll enc Tryz.prog W 0 (fun _ => true) true Tryz.f6.params.toList args.toList ds p := hA0
 rw [Tryz.params6] at hA hval
 obtain ⟨v0, v1, v2, d0, d1, d2, p0, p1, p2, rfl, rfl, rfl, h0, h1, h2⟩ := trodAll_three hA
 obtain ⟨n0, rfl, rfl, rfl, w0⟩ := open_int Tryz.underlying5 (hval 0 5 _ rfl rfl) h0
 have r0 : 0 ≤ n0 ∧ n0 ≤ 255 := by have := w0; simp [Lit.wf, IntKind.min, IntKind.max, IntKind.signed, IntKind.bits] at this; omega
 obtain ⟨n1, rfl, rfl, rfl, w1⟩ := open_int Tryz.underlying29 (hval 1 29 _ rfl rfl) h1
 have r1 : 0 ≤ n1 ∧ n1 ≤ 65535 := by have := w1; simp [Lit.wf, IntKind.min, IntKind.max, IntKind.signed, IntKind.bits] at this; omega
 obtain ⟨n2, rfl, rfl, rfl, w2⟩ := open_int Tryz.underlying29 (hval 2 29 _ rfl rfl) h2
 have r2 : 0 ≤ n2 ∧ n2 ≤ 65535 := by have := w2; simp [Lit.wf, IntKind.min, IntKind.max, IntKind.signed, IntKind.bits] at this; omega
 obtain ⟨rfl, rfl⟩ := trodVars_none hV
 clear hA0
 simp only [List.append_nil] at hW'
 have hS : Vs.S_CurvePowers (n0, n1, n2, ()) = some (true, ()) := by unfold Vs.S_CurvePowers; exact if_pos ⟨r0, r1, r2⟩
 refine (Vs.o_CurvePowers.h.2 W (fun _ => False) _ (n0, n1, n2, ()) (table hL) (fun _ h => h.elim) ⟨_, _, rfl, ⟨_, ⟨rfl, by simp [IntKind.min, IntKind.signed, IntKind.bits]; omega, by simp [IntKind.max, IntKind.signed, IntKind.bits]; omega⟩, rfl⟩, ⟨_, _, rfl, ⟨_, ⟨rfl, by simp [IntKind.min, IntKind.signed, IntKind.bits]; omega, by simp [IntKind.max, IntKind.signed, IntKind.bits]; omega⟩, rfl⟩, ⟨_, _, rfl, ⟨_, ⟨rfl, by simp [IntKind.min, IntKind.signed, IntKind.bits]; omega, by simp [IntKind.max, IntKind.signed, IntKind.bits]; omega⟩, rfl⟩, rfl⟩⟩⟩ (isSome_of hS)).mono fun e W' ⟨rs, he, hr, hb⟩ => ?_
 have hf : Vs.o_CurvePowers.c.fn (n0, n1, n2, ()) = (true, ()) := getD_of hS
 rw [hf] at hr
 obtain ⟨v, us, rfl, hv, hus⟩ := hr
 have hus' : us = [] := hus
 subst hus'
 obtain ⟨cs, hc, hv⟩ := hv
 have hc' : cs = [.bool true] := hc
 subst hc'
 have hv' : [Value.bool true] = [v] := hv
 injection hv' with hv'
 subst hv'
 subst he
 exact ⟨_, rfl, _, _, _, [], [], [], hW', trodAll_mk1 (shut_bool Tryz.underlying4 _), trodAll_mk3 (shut_int Tryz.underlying5 w0) (shut_int Tryz.underlying29 w1) (shut_int Tryz.underlying29 w2), rfl, hb.frame _, fun h => by cases h⟩
theorem laid_met (os : Os) : laidMet Tryz.prog Rows.curvePowersRow.laid ((World.doorLaid Tryz.prog 4000 os).forCall (fun _ _ => 0) ⟨#[], #[.int .u8 0, .int .u16 0, .int .u16 0], []⟩).memory :=
 laidMet_of_run' 8 (by kernel_rfl) (by kernel_rfl)
theorem reads (os : Os) {H : Type} (enc : TypeId × Value → H) : ∃ places, DataW.whole enc Tryz.prog ((World.doorLaid Tryz.prog 4000 os).forCall (fun _ _ => 0) ⟨#[], #[.int .u8 0, .int .u16 0, .int .u16 0], []⟩).memory Tryz.f6.params.toList Rows.curvePowersSpec.vars false (#[.int .u8 0, .int .u16 0, .int .u16 0] : Array Value).toList 8 = some ([.lit (.int .u8 0), .lit (.int .u16 0), .lit (.int .u16 0)], [], places) :=
 ⟨[], by kernel_rfl⟩
set_option maxRecDepth 100000 in
theorem lifted (os : Os) (started : os.Started) (H : Type) (enc : TypeId × Value → H) (F : Stop.Interp) :
  ReturnsInHanded {} Tryz.checked os 6 .any ((OpenSpec.ofChange Rows.curvePowersSpec).preRow enc Tryz.prog Tryz.f6 Rows.curvePowersRow.domain false Rows.curvePowersRow.laid) (((OpenSpec.ofChange Rows.curvePowersSpec).at F).post enc Tryz.prog Tryz.f6 false true false false) := by
 obtain ⟨places, hx⟩ := reads os enc
 refine returnsInHanded_of_row (C := Tryz.checked) (s := OpenSpec.ofChange Rows.curvePowersSpec) own started (by kernel_rfl) Tryz.func6
  (witness_row_atRef (enc := enc) (C := Tryz.checked) false (World.doorLaid Tryz.prog 4000 os) #[.int .u8 0, .int .u16 0, .int .u16 0] rfl (by kernel_rfl) (by kernel_rfl) (by kernel_rfl)
   (OpenSpec.preRow_of_cond 8 hx (by kernel_rfl) (fun k hk => by cases hk) (by kernel_rfl) (laid_met os))) ?_
 intro W base args ds gs before hval hW _ _ _ hL _ _
 exact contract H enc W base args ds gs before hval hW hL
set_option maxRecDepth 100000 in
theorem facts1 : (Rows.curvePowersRow.inPlace == Tryz.prog.inPlace 6) = true := by kernel_rfl
set_option maxRecDepth 100000 in
theorem facts2 : (Rows.curvePowersRow.unfollowed == Tryz.prog.unfollowed 6) = true := by kernel_rfl
set_option maxRecDepth 100000 in
theorem facts3 : (Rows.curvePowersRow.recurses == Tryz.prog.recurses 6) = true := by kernel_rfl
set_option maxRecDepth 100000 in
theorem facts4 : (Rows.curvePowersRow.named == Tryz.prog.varsNamed 6) = true := by kernel_rfl
end Go.Proofs.YtakjojajnblpoaaGreatDoor
