/-
  Contracts of library functions at this program. Own work, in part after the library of contracts; no condition.
-/
import Derived.Test.YteidbklnpgfldaaGreatDoorClS1
import Derived.Shelf.Strings.BuilderF
import Derived.Lib.FrozenHead2
import Derived.Lib.OthersKept
import Derived.WalkKit
import Derived.BigCall
import Derived.Test.YteidbklnpgfldaaGreatDoorLib
import Derived.LoopTactic
import Derived.Lib.AppendIntMem
import Derived.KernelRfl
set_option linter.unusedVariables false
set_option linter.unusedSimpArgs false
namespace Go.Proofs
open Go.Shelf Go.RowKit
theorem Tryz.bd_size : (Tryz.prog.info? 273).map (·.size) = some 2 := by kernel_rfl
theorem Tryz.bd_lies : liesAt Tryz.prog Tryz.prog.depth 273 (2 / Tryz.prog.cellsOf 273) 0 273 1 = true := by kernel_rfl
theorem Tryz.bd_byte : (Tryz.prog.info? 5).map (fun i => (i.zero, i.size, i.bytes)) = some (some (.int .u8 0), 1, 1) := by kernel_rfl
set_option maxHeartbeats 1000000 in
set_option maxRecDepth 100000 in
theorem Tryz.bd_check_used (b : Nat) (w : World) (h0 : w.cell? ⟨b, 0, none⟩ = some (.pointer (some ⟨b, 0, none⟩))) :
  Calls Tryz.prog 223 #[.pointer (some ⟨b, 0, none⟩)] w fun e w' => e = .returned (.tuple #[]) ∧ w' = w := by
 obtain ⟨j, hj, _⟩ := Option.map_eq_some_iff.1 Tryz.bd_size
 go_enter Tryz.func223, Tryz.ntmps223
 go_wp2
 rw [Lib.run_neq_ptr_same w _ Tryz.underlying270 hj]
 go_wp2
 go_end0
 exact ⟨rfl, rfl⟩
set_option maxHeartbeats 1000000 in
set_option maxRecDepth 100000 in
theorem Tryz.bd_check_fresh (b : Nat) (w : World) (h0 : w.cell? ⟨b, 0, none⟩ = some (.pointer none)) (hsh : w.shape? b = some (273, 2)) (hfz : w.frozen? ⟨b, 0, none⟩ = false) :
  Calls Tryz.prog 223 #[.pointer (some ⟨b, 0, none⟩)] w fun e w' => e = .returned (.tuple #[]) ∧ w' = w.setCell ⟨b, 0, none⟩ (.pointer (some ⟨b, 0, none⟩)) := by
 obtain ⟨j, hj, hjs⟩ := Option.map_eq_some_iff.1 Tryz.bd_size
 go_enter Tryz.func223, Tryz.ntmps223
 go_wp2
 rw [Lib.run_to_unsafe w ⟨b, 0, none⟩ Tryz.underlying270 Tryz.underlying354 hj (by rw [hjs]; decide) hsh (Nat.zero_lt_succ 1)]
 simp only [Result.andThen]
 rw [Oper.upon_value]
 go_wp2
 rw [run_callFunc_extern Tryz.func269 (by kernel_rfl) (by kernel_rfl) (by kernel_rfl) (e := Extern.AbiNoEscape.same) (by kernel_rfl)]
 rw [Lib.run_noEscape]
 simp only [Result.andThen]
 rw [Oper.upon_value]
 go_wp2
 rw [Lib.run_from_unsafe w ⟨b, 0, none⟩ Tryz.underlying354 Tryz.underlying270 hj hsh Tryz.bd_lies]
 simp only [Result.andThen]
 rw [Oper.upon_value]
 go_wp2
 go_end0
 exact ⟨rfl, rfl⟩
theorem Tryz.bd_check (B b : Nat) (bs : List Value) (w : World) (h : Lib.IsBuilderF 273 5 B b bs w) :
  Calls Tryz.prog 223 #[.pointer (some ⟨b, 0, none⟩)] w fun e w' => e = .returned (.tuple #[]) ∧ (Lib.BuilderAtF 273 5 B b (.pointer (some ⟨b, 0, none⟩)) bs w' ∧ Below B w w' ∧ Lib.OthersKept 5 (some b) w w') := by
 rcases h with h | h
 ·refine (Tryz.bd_check_fresh b w h.cell0 h.shape h.frozen0).mono ?_
  rintro e w' ⟨rfl, rfl⟩
  exact ⟨rfl, h.used _, (Below.refl B w).setCell (p := ⟨b, 0, none⟩) h.1 _, (Lib.OthersKept.refl _ _ w).setCell ⟨b, 0, none⟩ rfl _⟩
 ·refine (Tryz.bd_check_used b w h.cell0).mono ?_
  rintro e w' ⟨rfl, rfl⟩
  exact ⟨rfl, h, Below.refl B _, Lib.OthersKept.refl _ _ _⟩
set_option maxHeartbeats 2000000 in
set_option maxRecDepth 100000 in
theorem Tryz.bd_byte1 (B b : Nat) (bs : List Value) (c : Int) (w : World) (h : Lib.IsBuilderF 273 5 B b bs w) (hlen : bs.length + 1 ≤ 140737488355328) (hBw : B ≤ w.heap.size) :
  Calls Tryz.prog 174 #[.pointer (some ⟨b, 0, none⟩), .int .u8 c] w fun e w' => e = .returned .nilIface ∧ (Lib.BuilderAtF 273 5 B b (.pointer (some ⟨b, 0, none⟩)) (bs ++ [.int .u8 c]) w' ∧ Below B w w' ∧ Lib.OthersKept 5 (some b) w w') := by
 obtain ⟨i0, hi, hz0, hz1, hz2⟩ := info_parts Tryz.bd_byte
 go_enter Tryz.func174, Tryz.ntmps174
 go_wp2_with (go_at_call 223; refine (Tryz.bd_check B b bs _ h).mono ?_)
 rintro e w1 ⟨rfl, h1, hb1, hk1⟩
 obtain ⟨hB, v, hbk, hown, hne⟩ := h1
 have c0 : w1.cell? ⟨b, 0, none⟩ = some (.pointer (some ⟨b, 0, none⟩)) := by rw [Lib.cell_of_heap hbk]; rfl
 have c1 : w1.cell? ⟨b, 1, none⟩ = some v := by rw [Lib.cell_of_heap hbk]; rfl
 go_wp2_with (at_builtin; refine wpList_append_ownF _ rfl _ _ 271 rfl B 5 i0 (.int .u8 0) 1 1 Tryz.underlying271 hi hz0 hz1 hz2 rfl zc _ _ _ rfl (hown.alloc _) ⟨w1.heap.size, 0, none⟩ 1 1 [.int .u8 c] rfl rfl ?c1 ?c2 ?c3 ?c4 ?c5 ?_)
 case c1 =>
  intro j u hj
  match j, hj with
  | 0, hj => simp at hj; subst hj; simp [Addr.add]
 case c2 => intro u hu; simp at hu; subst hu; rfl
 case c3 => unfold maxLen; omega
 case c4 => omega
 case c5 => have := hb1.size; simp; omega
 intro v' w2 hown' hgrow _
 have hlt : b < w1.heap.size := by
  rcases zD b w1.heap.size with h' | h'
  ·exact h'
  ·simp [yZ h'] at hbk
 have hb2 : w2.heap[b]? = some (.cells #[.pointer (some ⟨b, 0, none⟩), v] 273 (0, 0)) := by
  rw [hgrow.block b zg (fun e => hne e.symm), Lib.alloc_old w1 _ b hlt]
  exact hbk
 have d0 : w2.cell? ⟨b, 0, none⟩ = some (.pointer (some ⟨b, 0, none⟩)) := by rw [Lib.cell_of_heap hb2]; rfl
 have d1 : w2.cell? ⟨b, 1, none⟩ = some v := by rw [Lib.cell_of_heap hb2]; rfl
 have f1 : w2.frozen? ⟨b, 1, none⟩ = false := Lib.frozen_of_heap hb2 1
 obtain ⟨g, cap, rfl⟩ : ∃ g cap, v' = .slice (some ⟨g, 0, none⟩) (bs.length + 1) cap := by
  rcases hown'.2 with ⟨_, h0⟩ | ⟨g, cap, cur, fz, hv, _⟩
  ·omega
  ·exact ⟨g, cap, hv⟩
 go_wp2
 go_ret
 refine ⟨rfl, ?_, ?_, ((hk1.alloc _).grown hgrow (Lib.ownsRowF_kind (hown.alloc _))).setCell ⟨b, 1, none⟩ rfl _⟩
 ·exact Lib.BuilderAtF.put (T := 273) (e := 5) hB hb2 (bs' := bs ++ [.int .u8 c]) (by simpa using hown') zc
 ·exact ((hb1.alloc (by have := hb1.size; omega) _).grown hgrow (by have := hb1.size; simp; omega) (fun k hk => (hown.lt k hk).1)).setCell (p := ⟨b, 1, none⟩) hB _
set_option maxHeartbeats 2000000 in
set_option maxRecDepth 100000 in
theorem Tryz.bd_text (B b : Nat) (bs : List Value) (s : ByteArray) (w : World) (h : Lib.IsBuilderF 273 5 B b bs w) (hlen : bs.length + s.size ≤ 140737488355328) (hBw : B ≤ w.heap.size) :
  Calls Tryz.prog 175 #[.pointer (some ⟨b, 0, none⟩), .string s] w fun e w' => e = .returned (.tuple #[.int .i64 s.size, .nilIface]) ∧ (Lib.BuilderAtF 273 5 B b (.pointer (some ⟨b, 0, none⟩)) (bs ++ Lib.strCells s) w' ∧ Below B w w' ∧ Lib.OthersKept 5 (some b) w w') := by
 obtain ⟨i0, hi, hz0, hz1, hz2⟩ := info_parts Tryz.bd_byte
 go_enter Tryz.func175, Tryz.ntmps175
 go_wp2_with (go_at_call 223; refine (Tryz.bd_check B b bs _ h).mono ?_)
 rintro e w1 ⟨rfl, h1, hb1, hk1⟩
 obtain ⟨hB, v, hbk, hown, hne⟩ := h1
 have c0 : w1.cell? ⟨b, 0, none⟩ = some (.pointer (some ⟨b, 0, none⟩)) := by rw [Lib.cell_of_heap hbk]; rfl
 have c1 : w1.cell? ⟨b, 1, none⟩ = some v := by rw [Lib.cell_of_heap hbk]; rfl
 go_wp2_with (at_builtin; refine Lib.wpList_append_own_stringF _ rfl _ _ 271 9 rfl B 5 i0 Tryz.underlying271 Tryz.underlying9 hi hz0 hz1 hz2 _ _ _ rfl hown s rfl ?c3 ?c4 ?c5 ?_)
 case c3 => unfold maxLen; omega
 case c4 => omega
 case c5 => have := hb1.size; omega
 intro v' w2 hown' hgrow _
 have hlt : b < w1.heap.size := by
  rcases zD b w1.heap.size with h' | h'
  ·exact h'
  ·simp [yZ h'] at hbk
 have hb2 : w2.heap[b]? = some (.cells #[.pointer (some ⟨b, 0, none⟩), v] 273 (0, 0)) := by
  rw [hgrow.block b hlt (fun e => hne e.symm)]
  exact hbk
 have d0 : w2.cell? ⟨b, 0, none⟩ = some (.pointer (some ⟨b, 0, none⟩)) := by rw [Lib.cell_of_heap hb2]; rfl
 have d1 : w2.cell? ⟨b, 1, none⟩ = some v := by rw [Lib.cell_of_heap hb2]; rfl
 have f1 : w2.frozen? ⟨b, 1, none⟩ = false := Lib.frozen_of_heap hb2 1
 obtain ⟨ao, n', cap, rfl⟩ : ∃ ao n' cap, v' = .slice ao n' cap := by
  rcases hown'.2 with ⟨hv, _⟩ | ⟨g, cap, cur, fz, hv, _⟩
  ·exact ⟨_, _, _, hv⟩
  ·exact ⟨_, _, _, hv⟩
 go_wp2
 go_ret2
 refine ⟨rfl, ?_, ?_, (hk1.grown hgrow (Lib.ownsRowF_kind hown)).setCell ⟨b, 1, none⟩ rfl _⟩
 ·exact Lib.BuilderAtF.put (T := 273) (e := 5) hB hb2 (bs' := bs ++ Lib.strCells s) (by simpa [Lib.strCells_length] using hown') zc
 ·exact (hb1.grown hgrow (by have := hb1.size; omega) (fun k hk => (hown.lt k hk).1)).setCell (p := ⟨b, 1, none⟩) hB _
end Go.Proofs
namespace Go.Proofs
open Go.RowKit
theorem Tryz.bd_keep {B b : Nat} {bs : List Value} {w w' : World} (h : Lib.IsBuilderF 273 5 B b bs w) (hb : Below w.heap.size w w') : Lib.IsBuilderF 273 5 B b bs w' := by
 have one : ∀ p, Lib.BuilderAtF 273 5 B b p bs w → Lib.BuilderAtF 273 5 B b p bs w' := by
  rintro p ⟨hB, v, h1, h2, h3⟩
  have lt : ∀ {k : Nat} {o : Obj}, w.heap[k]? = some o → k < w.heap.size := fun h => (yX.1 h).1
  refine ⟨hB, v, (hb.block b (lt h1)).trans h1, ⟨h2.1, ?_⟩, h3⟩
  rcases h2.2 with h | ⟨g, cap, cur, fz, e1, e2, e3, e4⟩
  ·exact Or.inl h
  ·exact Or.inr ⟨g, cap, cur, fz, e1, e2, (hb.block g (lt e3)).trans e3, e4⟩
 exact h.imp (one _) (one _)
theorem Tryz.itoa_nat (n : Nat) : Lib.itoa (n : Int) = Vs.ab1 n := by
 unfold Lib.itoa
 rw [if_neg zb, zn]
 rfl
set_option maxHeartbeats 4000000 in
set_option maxRecDepth 1000000 in
theorem Tryz.put_frac (g : Int) (h0 : 0 ≤ g ∧ g < 1000000000) (k : Nat) (hk : k ≤ 9) (B b : Nat) (acc : List UInt8) (w : World) (hI : Lib.IsBuilderF 273 5 B b (Lib.byteCells acc) w) (hl : acc.length ≤ 100000000000) (hB : B ≤ w.heap.size)
  (hT : ∀ w', Below B w w' → Lib.TabIs Tryz.prog w' "internal/strconv.uint64pow10" .u64 Lib.pow10Tab) :
  Calls Tryz.prog 173 #[.int .u32 g, .int .i64 k, .pointer (some ⟨b, 0, none⟩)] w fun e w' => e = .returned (.tuple #[]) ∧ Lib.IsBuilderF 273 5 B b (Lib.byteCells (acc ++ Vs.aCd k g.toNat)) w' ∧ Below B w w' := by
 obtain ⟨h0, h1⟩ := h0
 obtain ⟨g, rfl⟩ := zM h0
 rw [zn]
 have h1 : g < 1000000000 := zb
 have hd := Vs.aON h1
 have hw : IntKind.i64.wrap (g : Int) = g := Vs.aaC ⟨by omega, by omega⟩
 have hls : (⟨(Vs.ab1 g).toArray⟩ : ByteArray).size = (Vs.ab1 g).length := rfl
 go_enter Tryz.func173, Tryz.ntmps173
 go_wp2_with (go_at_call 77; refine (Tryz.strconv_Itoa g zb zb _ (hT _ (Below.refl _ _))).mono ?_)
 rintro e W1 ⟨rfl, n1, os, rfl⟩
 rw [Tryz.itoa_nat]
 have hb1 : Below B w (Sort.grow (w.drewN n1) os) := Lib.below_grow _ _ hB _ _
 have hI1 := Tryz.bd_keep hI (Lib.below_grow _ _ (zj _) n1 os)
 generalize Sort.grow (w.drewN n1) os = W1 at hb1 hI1 ⊢
 have hwid : IntKind.i64.wrap ((k : Int) - ((Vs.ab1 g).length : Int)) = (k : Int) - ((Vs.ab1 g).length : Int) := Vs.aaC ⟨by omega, by omega⟩
 go_wp2
 go_loopw [13] (fun i wr => ∃ j : Nat, i = .int .i64 j ∧ j ≤ k - (Vs.ab1 g).length ∧ Lib.IsBuilderF 273 5 B b (Lib.byteCells (acc ++ List.replicate j 48)) wr ∧ Below B w wr) (fun i _ => 10 - (intOf i).toNat)
 case atStart => exact ⟨0, rfl, by omega, by simpa using hI1, hb1⟩
 case round =>
  obtain ⟨j, rfl, hj, hIj, hbj⟩ := hrel
  have hbs := hbj.size
  by_cases c : (j : Int) < (k : Int) - ((Vs.ab1 g).length : Int)
  ·have hj1 : IntKind.i64.wrap ((j : Int) + 1) = ((j + 1 : Nat) : Int) := (Vs.aaC (x := (j : Int) + 1) ⟨by omega, by omega⟩ : IntKind.i64.wrap _ = _).trans zb
   go_wp2_with (go_at_call 174; refine (Tryz.bd_byte1 B b _ 48 _ hIj (by rw [Lib.byteCells_length]; simp; omega) zb).mono ?_)
   rintro e W2 ⟨rfl, h2, b2, _⟩
   go_wp2
   go_roundw
   case rel =>
    refine ⟨j + 1, rfl, by omega, ?_, hbj.trans b2⟩
    rw [List.replicate_succ', ← xa, Lib.byteCells_append]
    exact Or.inr h2
   case measure => simp [intOf]; omega
  ·go_wp2_with (go_at_call 175; refine (Tryz.bd_text B b _ ⟨(Vs.ab1 g).toArray⟩ _ hIj (by rw [Lib.byteCells_length, hls]; simp; omega) zb).mono ?_)
   rintro e W2 rfl h2 b2 _
   go_wp2
   go_end0
   have hjk : j = k - (Vs.ab1 g).length := zb
   refine ⟨rfl, ?_, hbj.trans b2⟩
   unfold Vs.aCd
   rw [← hjk, ← xa, Lib.byteCells_append]
   exact Or.inr h2
theorem Tryz.zero_frac (a : Option Addr) (k cap : Nat) (w : World) :
  Calls Tryz.prog 73 #[.slice a (k + 1) cap] w fun e w' => e = .returned (.bool false) ∧ w' = w := by
 have hk : (((k : Int) + 1) == 0) = false := by rw [beq_eq_false_iff_ne]; omega
 go_enter Tryz.func73, Tryz.ntmps73
 go_wp2
 go_ret
 exact ⟨rfl, rfl⟩
set_option maxHeartbeats 4000000 in
set_option maxRecDepth 1000000 in
theorem Tryz.digits_frac (n : Nat) (hlen : (Vs.mag n).length ≤ 1000000) (a : Option Addr) (cap : Nat) (w : World)
  (hc : ∀ i (h : i < (Vs.mag n).length), ∃ b o, a = some ⟨b, o, none⟩ ∧ b < w.heap.size ∧ w.cell? ⟨b, o + i, none⟩ = some (.int .u32 (Vs.mag n)[i]))
  (hT : ∀ w', Below w.heap.size w w' → Lib.TabIs Tryz.prog w' "internal/strconv.uint64pow10" .u64 Lib.pow10Tab) :
  Calls Tryz.prog 122 #[.slice a (Vs.mag n).length cap] w fun e w' => e = .returned (.string ⟨(Vs.ab1 n).toArray⟩) ∧ Below w.heap.size w w' := by
 have hdg := Vs.ajM n
 have hbig := Vs.aEg n
 generalize hm : Vs.mag n = m at hlen hc hdg hbig ⊢
 have hmf : ∀ (fn : Fn) (first cap : Array Value) (w : World), (Instr.makeFunc fn first cap).run Tryz.prog w = .ok (.func fn first cap) w := fun _ _ _ _ => rfl
 by_cases h0 : m = []
 ·subst h0
  have hn : n = 0 := by
   have := Vs.atN n
   rw [hm] at this
   simp [Vs.V] at this; omega
  subst hn
  have hd0 : Vs.ab1 0 = [48] := by rw [Vs.ab5 zb]; rfl
  go_enter Tryz.func122, Tryz.ntmps122
  go_wp2
  go_ret
  rw [hd0]
  exact ⟨rfl, Below.refl _ _⟩
 have hpos : 0 < m.length := zN.2 h0
 obtain ⟨last, hlast⟩ : ∃ last, m.length = last + 1 := ⟨m.length - 1, by omega⟩
 obtain ⟨b, o, rfl, hb, -⟩ := hc 0 hpos
 have hcell : ∀ i (h : i < m.length) w', Below w.heap.size w w' → w'.cell? ⟨b, o + i, none⟩ = some (.int .u32 m[i]) := by
  intro i h w' hw'
  obtain ⟨b', o', e, _, hx⟩ := hc i h
  injection e with e
  injection e with e1 e2
  subst e1 e2
  rw [hw'.cell hb]; exact hx
 have hn : n ≠ 0 := by
  intro h
  subst h
  unfold Vs.mag at hm
  rw [Vs.ac3] at hm
  exact h0 hm.symm
 clear hc
 have hw1 : IntKind.i64.wrap ((last : Int) - 1) = (last : Int) - 1 := Vs.aaC ⟨by omega, by omega⟩
 have hbA : Below w.heap.size w (w.alloc (.cells #[.pointer none, .slice none 0 0] 273)) := (Below.refl _ w).alloc (zj _) _
 have hcA := hcell last zb _ hbA
 have hIA := Lib.IsBuilderF.of (Lib.fresh_isBuilder 273 5 w)
 rw [hlast]
 go_enter Tryz.func122, Tryz.ntmps122
 go_wp2_with (go_at_call 73; refine (Tryz.zero_frac _ _ _ _).mono ?_)
 rintro e W0 ⟨rfl, hW0⟩
 obtain rfl : w = W0 := hW0.symm
 go_wp2_with (go_at_call 173; refine (Tryz.put_frac _ (Vs.aJS hdg zb) 0 zb w.heap.size w.heap.size [] _ hIA zf zf (fun w' h => hT w' (hbA.trans h))).mono ?_)
 rintro e W1 ⟨rfl, hI1, hb1⟩
 have hb1 := hbA.trans hb1
 have hpd : [] ++ Vs.aCd 0 m[last].toNat = Vs.aC6 (m.drop last) := by rw [Vs.aJs zb]; simp [Vs.aCd]
 rw [hpd] at hI1
 clear hcA hbA hIA hpd
 go_wp2
 go_loopw [6] (fun i wr => (i = .int .i64 (-1) ∧ Lib.IsBuilderF 273 5 w.heap.size w.heap.size (Lib.byteCells (Vs.aC6 m)) wr ∧ Below w.heap.size w wr) ∨
  ∃ j : Nat, i = .int .i64 j ∧ j + 1 < m.length ∧ Lib.IsBuilderF 273 5 w.heap.size w.heap.size (Lib.byteCells (Vs.aC6 (m.drop (j + 1)))) wr ∧ Below w.heap.size w wr) (fun i _ => (intOf i + 1).toNat)
 case atStart =>
  rcases zL last with h | h
  ·subst h
   exact Or.inl ⟨rfl, by simpa using hI1, hb1⟩
  ·refine Or.inr ⟨last - 1, ?_, by omega, ?_, hb1⟩
   ·congr 1; omega
   ·rw [show last - 1 + 1 = last by omega]; exact hI1
 case round =>
  rcases hrel with ⟨rfl, hI2, hb2⟩ | ⟨j, rfl, hj, hI2, hb2⟩
  ·have hs2 := hb2.size
   go_wp2_with (go_at_call 176; refine (Tryz.Builder_String_any_k w.heap.size w.heap.size _ _ hI2 zb).mono ?_)
   rintro e W3 ⟨rfl, _, hb3, _⟩
   go_wp2
   go_ret
   exact ⟨rfl, hb2.trans hb3⟩
  ·have hs2 := hb2.size
   have hc2 := hcell j zb _ hb2
   have hw2 : IntKind.i64.wrap ((j : Int) - 1) = (j : Int) - 1 := Vs.aaC ⟨by omega, by omega⟩
   have hlen2 := Vs.ayE (l := m.drop (j + 1)) (fun d hd => hdg d (yT hd))
   rw [yf] at hlen2
   go_wp2_with (go_at_call 173; refine (Tryz.put_frac _ (Vs.aJS hdg zb) 9 zb w.heap.size w.heap.size _ _ hI2 zb zb (fun w' h => hT w' (hb2.trans h))).mono ?_)
   rintro e W3 ⟨rfl, hI3, hb3⟩
   have hb3 := hb2.trans hb3
   rw [← Vs.aFP zb] at hI3
   clear hc2 hlen2
   go_wp2
   go_roundw
   case rel =>
    rcases zL j with h | h
    ·subst h
     exact Or.inl ⟨rfl, by simpa using hI3, hb3⟩
    ·refine Or.inr ⟨j - 1, ?_, by omega, ?_, hb3⟩
     ·congr 1; omega
     ·rw [show j - 1 + 1 = j by omega]; exact hI3
   case measure => simp [intOf]
end Go.Proofs
namespace Go.Vs
open Go Go.Vg Go.RowKit Go.Proofs
def Gt (w : World) : Prop := Lib.TabIs Tryz.prog w "internal/strconv.uint64pow10" .u64 Lib.pow10Tab ∧ ∃ tp p, w.var? Tryz.prog "strconv.ErrRange" = some #[.iface tp p]
theorem aDg {n : String} {g : Nat} (hg : Tryz.prog.globalNamed n = some g) {w w' : World} (hlt : ∀ cs, w.var? Tryz.prog n = some cs → g < w.heap.size) (hb : Below w.heap.size w w') {cs : Array Value} (h : w.var? Tryz.prog n = some cs) : w'.var? Tryz.prog n = some cs := by
 have hl := hlt cs h
 unfold World.var? at h ⊢
 rw [hg] at h ⊢
 simp only [wi] at h ⊢
 rw [hb.block g hl]
 exact h
theorem aMe {n : String} {g : Nat} (hg : Tryz.prog.globalNamed n = some g) {w : World} {cs : Array Value} (h : w.var? Tryz.prog n = some cs) : g < w.heap.size := by
 unfold World.var? at h
 rw [hg] at h
 simp only [wi] at h
 rcases zD g w.heap.size with h' | h'
 ·exact h'
 ·rw [yZ h'] at h; cases h
theorem aQc : acS Gt := by
 intro w w' hb h
 obtain ⟨h1, tp, p, h2⟩ := h
 refine ⟨?_, tp, p, ?_⟩
 ·exact aDg (g := 2) (by kernel_rfl) (fun cs => aMe (by kernel_rfl)) hb h1
 ·exact aDg (g := 7) (by kernel_rfl) (fun cs => aMe (by kernel_rfl)) hb h2
theorem aRx : Tryz.prog.follows .mixedOrders = true := by kernel_rfl
theorem aCZ {f : FuncId} {A R : Ty} {F : A.T → Option R.T} (he : acM Tryz.prog f = true)
  (h : ∀ (w : World) (ok : Nat → Prop) (vs : List Value) (x : A.T) (y : R.T), Gt w → (∀ b, ok b → b < w.heap.size) → RdVs ok w A x vs → F x = some y →
   Calls Tryz.prog f ⟨vs⟩ w fun e w' => ∃ rs, e = .returned (aJX rs) ∧ RdVs (aEW ok w w') w' R y rs ∧ Below w.heap.size w w') : (aNx A R F).ok Tryz.prog Gt f := by
 refine Con.ok_plain rfl ⟨he, fun w ok vs x hG hok hvs hp => ?_⟩
 obtain ⟨y, hy⟩ := xo.1 (show (F x).isSome = true from hp)
 have e : (aNx A R F).fn x = y := by show (F x).getD R.dflt = y; rw [hy]; rfl
 rw [e]
 exact h w ok vs x y hG hok hvs hy
theorem aOp {ok : Nat → Prop} {w : World} {x : Int} {v : Value} (h : RdV ok w (.int .i64) x v) : v = .int .i64 x := by
 obtain ⟨cs, ⟨rfl, h1, h2⟩, hv⟩ := h
 have hv' : [Value.int .i64 x] = [v] := hv
 injection hv' with hv'
 exact hv'.symm
theorem aMg {ok : Nat → Prop} {w : World} {x : List UInt8} (h : x.length ≤ lim) : RdVs ok w (.pair .str .unit) (x, ()) [.string ⟨⟨x⟩⟩] :=
 ⟨_, [], rfl, ⟨_, ⟨rfl, h⟩, rfl⟩, rfl⟩
theorem aAj : 1000000000000 ≤ lim := zc
theorem aJa {n : Int} (h : ae4 n) : (dec n).length ≤ 21 := by
 obtain ⟨h1, h2⟩ := h
 have hl := ab9 (k := 19) (n := n.natAbs) zb
 unfold dec
 split
 ·rw [yh]; omega
 ·omega
structure OkC where
 f : FuncId
 c : Con
 h : c.ok Tryz.prog Gt f
def gOf : List OkC → Cons
 | [] => []
 | x :: r => (x.f, x.c) :: gOf r
theorem gOk : ∀ l : List OkC, (gOf l).ok Tryz.prog Gt
 | [] => trivial
 | x :: r => ⟨x.h, gOk r⟩
def okT (f : FuncId) (A R : Ty) (F : A.T → Option R.T) (Λ : LTab) (l : List OkC) {fn : Func} (hf : Tryz.prog.funcs[f]? = some fn) (t : A.T → TT R.T) (hF : ∀ x y, Wf A x → F x = some y → (t x).toO = some y)
  (hex : ∀ (x : A.T) (K : R.T → Prop), aOr Tryz.prog Gt (gOf l) Λ 8 f fn A R x K = (t x).holds K := by intro x K; kernel_rfl)
  (hb : fn.body.isSome = true := by rfl) (he : acM Tryz.prog f = true := by kernel_rfl) (hn : ∀ x, Nat.ble (ajY A x).length fn.ntmps = true := by exact fun _ => rfl) : OkC :=
 ⟨f, aNx A R F, aCY aQc aRx (gOk l) hf hb he A R Λ 8 hn t hex F hF⟩
abbrev P1 (a : Ty) : Ty := .pair a .unit
abbrev P2 (a b : Ty) : Ty := .pair a (P1 b)
abbrev P3 (a b c : Ty) : Ty := .pair a (P2 b c)
abbrev P4 (a b c d : Ty) : Ty := .pair a (P3 b c d)
abbrev tI : Ty := .int .i64
abbrev tL : Ty := .sl tI
abbrev tM : Ty := .sl (.int .u32)
abbrev tF : Ty := P2 .str .str
abbrev tB : Ty := P2 tI tI
theorem aIj (n : Int) (h : ae4 n) (ok : Nat → Prop) (w : World) (hG : Gt w) :
  Calls Tryz.prog 77 ⟨[.int .i64 n]⟩ w fun e w' => ∃ rs, e = .returned (aJX rs) ∧ RdVs (aEW ok w w') w' (.pair .str .unit) (dec n, ()) rs ∧ Below w.heap.size w w' := by
 refine (Tryz.strconv_Itoa n h.1 h.2 w hG.1).mono ?_
 rintro e w' ⟨rfl, k, os, rfl⟩
 rw [aLC]
 refine ⟨[.string ⟨⟨dec n⟩⟩], rfl, aMg (zt (m := 1000000000000) ?_ aAj), Lib.below_grow _ _ (zj _) _ _⟩
 have := aJa h
 omega
theorem aOb : (aNx (.pair (.int .i64) .unit) (.pair .str .unit) av7).ok Tryz.prog Gt 77 := by
 refine aCZ (by kernel_rfl) (fun w ok vs x y hG hok hvs hy => ?_)
 obtain ⟨n, u⟩ := x
 obtain ⟨v, us, rfl, hv, hus⟩ := hvs
 obtain rfl : us = [] := hus
 obtain rfl := aOp hv
 unfold av7 at hy
 split at hy
 case isFalse => cases hy
 case isTrue hr =>
 injection hy with hy
 subst hy
 exact aIj n hr ok w hG
theorem aJm {ok : Nat → Prop} {w : World} (l : List Int) : ∀ (cs : List Value), RdL (Rd ok w (.int .u32)) l cs → ∀ i (h : i < l.length), cs[i]? = some (.int .u32 l[i]) := by
 induction l with
 | nil => intro cs _ i h; exact absurd h (wO _)
 | cons d l ih =>
  rintro cs ⟨c1, c2, rfl, ⟨e1, _⟩, h2⟩ i h
  subst e1
  cases i with
  | zero => rfl
  | succ i => exact ih c2 h2 i (by simpa using h)
theorem aNX {ok : Nat → Prop} {w : World} {l : List Int} {a : Option Addr} (hok : ∀ b, ok b → b < w.heap.size)
  (h : l = [] ∨ ∃ b o c e fr, a = some ⟨b, o, none⟩ ∧ ok b ∧ w.heap[b]? = some (.cells c e fr) ∧ o + l.length * vH.size ≤ c.size ∧ RdL (Rd ok w (.int .u32)) l ((c.toList.drop o).take (l.length * vH.size))) :
  ∀ i (h : i < l.length), ∃ b o, a = some ⟨b, o, none⟩ ∧ b < w.heap.size ∧ w.cell? ⟨b, o + i, none⟩ = some (.int .u32 l[i]) := by
 intro i hi
 rcases h with h3 | ⟨b, o, c, e, fr, ha, hb, hc, hs, hr⟩
 ·subst h3; exact absurd hi (wO _)
 ·refine ⟨b, o, ha, hok b hb, ?_⟩
  have hk := aJm _ _ hr i hi
  rw [show vH.size = 1 from rfl, Nat.mul_one, List.getElem?_take_of_lt hi, yJ] at hk
  unfold World.cell?
  dsimp only
  rw [hc]
  dsimp only
  rw [← hk]
  simp
theorem aJb {n : Nat} (h : (mag n).length ≤ 1000000) : (ab1 n).length ≤ lim := by
 refine zt (m := 1000000000000) ?_ aAj
 by_cases h0 : n = 0
 ·subst h0
  rw [ab5 zb]; simp
 ·have := ayE (ajM n)
  rw [aEg n h0] at this
  omega
theorem az2 : (aNx (.pair (.sl (.int .u32)) .unit) (.pair .str .unit) agA).ok Tryz.prog Gt 122 := by
 refine aCZ (by kernel_rfl) (fun w ok vs x y hG hok hvs hy => ?_)
 obtain ⟨n, hn, rfl, rfl⟩ := aaP hy
 obtain ⟨v, us, rfl, hv, hus⟩ := hvs
 obtain rfl : us = [] := hus
 obtain ⟨cs, ⟨a, cap, rfl, h1, h2, h3⟩, hv⟩ := hv
 have hv' : [Value.slice a (mag n).length cap] = [v] := hv
 injection hv' with hv'
 subst hv'
 refine (Tryz.digits_frac n hn a cap w (aNX hok h3) (fun w' hw => (aQc w w' hw hG).1)).mono ?_
 rintro e w' ⟨rfl, hb⟩
 exact ⟨[.string ⟨⟨ab1 n⟩⟩], rfl, aMg (aJb hn), hb⟩
end Go.Vs
