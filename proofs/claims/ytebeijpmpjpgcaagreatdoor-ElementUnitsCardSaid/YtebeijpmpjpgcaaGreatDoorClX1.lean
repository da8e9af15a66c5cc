/-
  Contracts of library functions at this program. Own work, in part after the library of contracts; no condition.
-/
import Derived.Test.YtebeijpmpjpgcaaGreatDoorClS1
import Derived.Shelf.Strings.BuilderF
import Derived.Lib.FrozenHead2
import Derived.Lib.OthersKept
import Derived.WalkKit
import Derived.BigCall
import Derived.Test.YtebeijpmpjpgcaaGreatDoorLib
import Derived.LoopTactic
import Derived.Lib.AppendIntMem
import Derived.KernelRfl
set_option linter.unusedVariables false
set_option linter.unusedSimpArgs false
namespace Go.Proofs
open Go.Shelf Go.RowKit
theorem Tryz.bd_size : (Tryz.prog.info? 361).map (·.size) = some 2 := by kernel_rfl
theorem Tryz.bd_lies : liesAt Tryz.prog Tryz.prog.depth 361 (2 / Tryz.prog.cellsOf 361) 0 361 1 = true := by kernel_rfl
theorem Tryz.bd_byte : (Tryz.prog.info? 5).map (fun i => (i.zero, i.size, i.bytes)) = some (some (.int .u8 0), 1, 1) := by kernel_rfl
set_option maxHeartbeats 1000000 in
set_option maxRecDepth 100000 in
theorem Tryz.bd_check_used (b : Nat) (w : World) (h0 : w.cell? ⟨b, 0, none⟩ = some (.pointer (some ⟨b, 0, none⟩))) :
  Calls Tryz.prog 329 #[.pointer (some ⟨b, 0, none⟩)] w fun e w' => e = .returned (.tuple #[]) ∧ w' = w := by
 obtain ⟨j, hj, _⟩ := Option.map_eq_some_iff.1 Tryz.bd_size
 go_enter Tryz.func329, Tryz.ntmps329
 go_wp2
 rw [Lib.run_neq_ptr_same w _ Tryz.underlying359 hj]
 go_wp2
 go_end0
 exact ⟨rfl, rfl⟩
set_option maxHeartbeats 1000000 in
set_option maxRecDepth 100000 in
theorem Tryz.bd_check_fresh (b : Nat) (w : World) (h0 : w.cell? ⟨b, 0, none⟩ = some (.pointer none)) (hsh : w.shape? b = some (361, 2)) (hfz : w.frozen? ⟨b, 0, none⟩ = false) :
  Calls Tryz.prog 329 #[.pointer (some ⟨b, 0, none⟩)] w fun e w' => e = .returned (.tuple #[]) ∧ w' = w.setCell ⟨b, 0, none⟩ (.pointer (some ⟨b, 0, none⟩)) := by
 obtain ⟨j, hj, hjs⟩ := Option.map_eq_some_iff.1 Tryz.bd_size
 go_enter Tryz.func329, Tryz.ntmps329
 go_wp2
 rw [Lib.run_to_unsafe w ⟨b, 0, none⟩ Tryz.underlying359 Tryz.underlying404 hj (by rw [hjs]; decide) hsh (Nat.zero_lt_succ 1)]
 simp only [Result.andThen]
 rw [Oper.upon_value]
 go_wp2
 rw [run_callFunc_extern Tryz.func344 (by kernel_rfl) (by kernel_rfl) (by kernel_rfl) (e := Extern.AbiNoEscape.same) (by kernel_rfl)]
 rw [Lib.run_noEscape]
 simp only [Result.andThen]
 rw [Oper.upon_value]
 go_wp2
 rw [Lib.run_from_unsafe w ⟨b, 0, none⟩ Tryz.underlying404 Tryz.underlying359 hj hsh Tryz.bd_lies]
 simp only [Result.andThen]
 rw [Oper.upon_value]
 go_wp2
 go_end0
 exact ⟨rfl, rfl⟩
theorem Tryz.bd_check (B b : Nat) (bs : List Value) (w : World) (h : Lib.IsBuilderF 361 5 B b bs w) :
  Calls Tryz.prog 329 #[.pointer (some ⟨b, 0, none⟩)] w fun e w' => e = .returned (.tuple #[]) ∧ (Lib.BuilderAtF 361 5 B b (.pointer (some ⟨b, 0, none⟩)) bs w' ∧ Below B w w' ∧ Lib.OthersKept 5 (some b) w w') := by
 rcases h with h | h
 ·refine (Tryz.bd_check_fresh b w h.cell0 h.shape h.frozen0).mono ?_
  rintro e w' ⟨rfl, rfl⟩
  exact ⟨rfl, h.used _, (Below.refl B w).setCell (p := ⟨b, 0, none⟩) h.1 _, (Lib.OthersKept.refl _ _ w).setCell ⟨b, 0, none⟩ rfl _⟩
 ·refine (Tryz.bd_check_used b w h.cell0).mono ?_
  rintro e w' ⟨rfl, rfl⟩
  exact ⟨rfl, h, Below.refl B _, Lib.OthersKept.refl _ _ _⟩
set_option maxHeartbeats 2000000 in
set_option maxRecDepth 100000 in
theorem Tryz.bd_byte1 (B b : Nat) (bs : List Value) (c : Int) (w : World) (h : Lib.IsBuilderF 361 5 B b bs w) (hlen : bs.length + 1 ≤ 140737488355328) (hBw : B ≤ w.heap.size) :
  Calls Tryz.prog 312 #[.pointer (some ⟨b, 0, none⟩), .int .u8 c] w fun e w' => e = .returned .nilIface ∧ (Lib.BuilderAtF 361 5 B b (.pointer (some ⟨b, 0, none⟩)) (bs ++ [.int .u8 c]) w' ∧ Below B w w' ∧ Lib.OthersKept 5 (some b) w w') := by
 obtain ⟨i0, hi, hz0, hz1, hz2⟩ := info_parts Tryz.bd_byte
 go_enter Tryz.func312, Tryz.ntmps312
 go_wp2_with (go_at_call 329; refine (Tryz.bd_check B b bs _ h).mono ?_)
 rintro e w1 ⟨rfl, h1, hb1, hk1⟩
 obtain ⟨hB, v, hbk, hown, hne⟩ := h1
 have c0 : w1.cell? ⟨b, 0, none⟩ = some (.pointer (some ⟨b, 0, none⟩)) := by rw [Lib.cell_of_heap hbk]; rfl
 have c1 : w1.cell? ⟨b, 1, none⟩ = some v := by rw [Lib.cell_of_heap hbk]; rfl
 go_wp2_with (at_builtin; refine wpList_append_ownF _ rfl _ _ 30 rfl B 5 i0 (.int .u8 0) 1 1 Tryz.underlying30 hi hz0 hz1 hz2 rfl zd _ _ _ rfl (hown.alloc _) ⟨w1.heap.size, 0, none⟩ 1 1 [.int .u8 c] rfl rfl ?c1 ?c2 ?c3 ?c4 ?c5 ?_)
 case c1 =>
  intro j u hj
  match j, hj with
  | 0, hj => simp at hj; subst hj; simp [Addr.add]
 case c2 => intro u hu; simp at hu; subst hu; rfl
 case c3 => unfold maxLen; omega
 case c4 => omega
 case c5 => have := hb1.size; simp; omega
 intro v' w2 hown' hgrow _
 have hlt : b < w1.heap.size := by
  rcases zx b w1.heap.size with h' | h'
  ·exact h'
  ·simp [yR h'] at hbk
 have hb2 : w2.heap[b]? = some (.cells #[.pointer (some ⟨b, 0, none⟩), v] 361 (0, 0)) := by
  rw [hgrow.block b zg (fun e => hne e.symm), Lib.alloc_old w1 _ b hlt]
  exact hbk
 have d0 : w2.cell? ⟨b, 0, none⟩ = some (.pointer (some ⟨b, 0, none⟩)) := by rw [Lib.cell_of_heap hb2]; rfl
 have d1 : w2.cell? ⟨b, 1, none⟩ = some v := by rw [Lib.cell_of_heap hb2]; rfl
 have f1 : w2.frozen? ⟨b, 1, none⟩ = false := Lib.frozen_of_heap hb2 1
 obtain ⟨g, cap, rfl⟩ : ∃ g cap, v' = .slice (some ⟨g, 0, none⟩) (bs.length + 1) cap := by
  rcases hown'.2 with ⟨_, h0⟩ | ⟨g, cap, cur, fz, hv, _⟩
  ·omega
  ·exact ⟨g, cap, hv⟩
 go_wp2
 go_ret
 refine ⟨rfl, ?_, ?_, ((hk1.alloc _).grown hgrow (Lib.ownsRowF_kind (hown.alloc _))).setCell ⟨b, 1, none⟩ rfl _⟩
 ·exact Lib.BuilderAtF.put (T := 361) (e := 5) hB hb2 (bs' := bs ++ [.int .u8 c]) (by simpa using hown') zd
 ·exact ((hb1.alloc (by have := hb1.size; omega) _).grown hgrow (by have := hb1.size; simp; omega) (fun k hk => (hown.lt k hk).1)).setCell (p := ⟨b, 1, none⟩) hB _
set_option maxHeartbeats 2000000 in
set_option maxRecDepth 100000 in
theorem Tryz.bd_text (B b : Nat) (bs : List Value) (s : ByteArray) (w : World) (h : Lib.IsBuilderF 361 5 B b bs w) (hlen : bs.length + s.size ≤ 140737488355328) (hBw : B ≤ w.heap.size) :
  Calls Tryz.prog 313 #[.pointer (some ⟨b, 0, none⟩), .string s] w fun e w' => e = .returned (.tuple #[.int .i64 s.size, .nilIface]) ∧ (Lib.BuilderAtF 361 5 B b (.pointer (some ⟨b, 0, none⟩)) (bs ++ Lib.strCells s) w' ∧ Below B w w' ∧ Lib.OthersKept 5 (some b) w w') := by
 obtain ⟨i0, hi, hz0, hz1, hz2⟩ := info_parts Tryz.bd_byte
 go_enter Tryz.func313, Tryz.ntmps313
 go_wp2_with (go_at_call 329; refine (Tryz.bd_check B b bs _ h).mono ?_)
 rintro e w1 ⟨rfl, h1, hb1, hk1⟩
 obtain ⟨hB, v, hbk, hown, hne⟩ := h1
 have c0 : w1.cell? ⟨b, 0, none⟩ = some (.pointer (some ⟨b, 0, none⟩)) := by rw [Lib.cell_of_heap hbk]; rfl
 have c1 : w1.cell? ⟨b, 1, none⟩ = some v := by rw [Lib.cell_of_heap hbk]; rfl
 go_wp2_with (at_builtin; refine Lib.wpList_append_own_stringF _ rfl _ _ 30 9 rfl B 5 i0 Tryz.underlying30 Tryz.underlying9 hi hz0 hz1 hz2 _ _ _ rfl hown s rfl ?c3 ?c4 ?c5 ?_)
 case c3 => unfold maxLen; omega
 case c4 => omega
 case c5 => have := hb1.size; omega
 intro v' w2 hown' hgrow _
 have hlt : b < w1.heap.size := by
  rcases zx b w1.heap.size with h' | h'
  ·exact h'
  ·simp [yR h'] at hbk
 have hb2 : w2.heap[b]? = some (.cells #[.pointer (some ⟨b, 0, none⟩), v] 361 (0, 0)) := by
  rw [hgrow.block b hlt (fun e => hne e.symm)]
  exact hbk
 have d0 : w2.cell? ⟨b, 0, none⟩ = some (.pointer (some ⟨b, 0, none⟩)) := by rw [Lib.cell_of_heap hb2]; rfl
 have d1 : w2.cell? ⟨b, 1, none⟩ = some v := by rw [Lib.cell_of_heap hb2]; rfl
 have f1 : w2.frozen? ⟨b, 1, none⟩ = false := Lib.frozen_of_heap hb2 1
 obtain ⟨ao, n', cap, rfl⟩ : ∃ ao n' cap, v' = .slice ao n' cap := by
  rcases hown'.2 with ⟨hv, _⟩ | ⟨g, cap, cur, fz, hv, _⟩
  ·exact ⟨_, _, _, hv⟩
  ·exact ⟨_, _, _, hv⟩
 go_wp2
 go_ret2
 refine ⟨rfl, ?_, ?_, (hk1.grown hgrow (Lib.ownsRowF_kind hown)).setCell ⟨b, 1, none⟩ rfl _⟩
 ·exact Lib.BuilderAtF.put (T := 361) (e := 5) hB hb2 (bs' := bs ++ Lib.strCells s) (by simpa [Lib.strCells_length] using hown') zd
 ·exact (hb1.grown hgrow (by have := hb1.size; omega) (fun k hk => (hown.lt k hk).1)).setCell (p := ⟨b, 1, none⟩) hB _
end Go.Proofs
namespace Go.Proofs
open Go.RowKit
theorem Tryz.bd_keep {B b : Nat} {bs : List Value} {w w' : World} (h : Lib.IsBuilderF 361 5 B b bs w) (hb : Below w.heap.size w w') : Lib.IsBuilderF 361 5 B b bs w' := by
 have one : ∀ p, Lib.BuilderAtF 361 5 B b p bs w → Lib.BuilderAtF 361 5 B b p bs w' := by
  rintro p ⟨hB, v, h1, h2, h3⟩
  have lt : ∀ {k : Nat} {o : Obj}, w.heap[k]? = some o → k < w.heap.size := fun h => (yP.1 h).1
  refine ⟨hB, v, (hb.block b (lt h1)).trans h1, ⟨h2.1, ?_⟩, h3⟩
  rcases h2.2 with h | ⟨g, cap, cur, fz, e1, e2, e3, e4⟩
  ·exact Or.inl h
  ·exact Or.inr ⟨g, cap, cur, fz, e1, e2, (hb.block g (lt e3)).trans e3, e4⟩
 exact h.imp (one _) (one _)
theorem Tryz.itoa_nat (n : Nat) : Lib.itoa (n : Int) = Vs.acG n := by
 unfold Lib.itoa
 rw [if_neg zc, zk]
 rfl
set_option maxHeartbeats 4000000 in
set_option maxRecDepth 1000000 in
theorem Tryz.put_frac (g : Int) (h0 : 0 ≤ g ∧ g < 1000000000) (k : Nat) (hk : k ≤ 9) (B b : Nat) (acc : List UInt8) (w : World) (hI : Lib.IsBuilderF 361 5 B b (Lib.byteCells acc) w) (hl : acc.length ≤ 100000000000) (hB : B ≤ w.heap.size)
  (hT : ∀ w', Below B w w' → Lib.TabIs Tryz.prog w' "internal/strconv.uint64pow10" .u64 Lib.pow10Tab) :
  Calls Tryz.prog 311 #[.int .u32 g, .int .i64 k, .pointer (some ⟨b, 0, none⟩)] w fun e w' => e = .returned (.tuple #[]) ∧ Lib.IsBuilderF 361 5 B b (Lib.byteCells (acc ++ Vs.aA2 k g.toNat)) w' ∧ Below B w w' := by
 obtain ⟨h0, h1⟩ := h0
 obtain ⟨g, rfl⟩ := zI h0
 rw [zk]
 have h1 : g < 1000000000 := zc
 have hd := Vs.aMn h1
 have hw : IntKind.i64.wrap (g : Int) = g := Vs.aaB ⟨by omega, by omega⟩
 have hls : (⟨(Vs.acG g).toArray⟩ : ByteArray).size = (Vs.acG g).length := rfl
 go_enter Tryz.func311, Tryz.ntmps311
 go_wp2_with (go_at_call 266; refine (Tryz.strconv_Itoa g zc zc _ (hT _ (Below.refl _ _))).mono ?_)
 rintro e W1 ⟨rfl, n1, os, rfl⟩
 rw [Tryz.itoa_nat]
 have hb1 : Below B w (Sort.grow (w.drewN n1) os) := Lib.below_grow _ _ hB _ _
 have hI1 := Tryz.bd_keep hI (Lib.below_grow _ _ (zi _) n1 os)
 generalize Sort.grow (w.drewN n1) os = W1 at hb1 hI1 ⊢
 have hwid : IntKind.i64.wrap ((k : Int) - ((Vs.acG g).length : Int)) = (k : Int) - ((Vs.acG g).length : Int) := Vs.aaB ⟨by omega, by omega⟩
 go_wp2
 go_loopw [13] (fun i wr => ∃ j : Nat, i = .int .i64 j ∧ j ≤ k - (Vs.acG g).length ∧ Lib.IsBuilderF 361 5 B b (Lib.byteCells (acc ++ List.replicate j 48)) wr ∧ Below B w wr) (fun i _ => 10 - (intOf i).toNat)
 case atStart => exact ⟨0, rfl, by omega, by simpa using hI1, hb1⟩
 case round =>
  obtain ⟨j, rfl, hj, hIj, hbj⟩ := hrel
  have hbs := hbj.size
  by_cases c : (j : Int) < (k : Int) - ((Vs.acG g).length : Int)
  ·have hj1 : IntKind.i64.wrap ((j : Int) + 1) = ((j + 1 : Nat) : Int) := (Vs.aaB (x := (j : Int) + 1) ⟨by omega, by omega⟩ : IntKind.i64.wrap _ = _).trans zc
   go_wp2_with (go_at_call 312; refine (Tryz.bd_byte1 B b _ 48 _ hIj (by rw [Lib.byteCells_length]; simp; omega) zc).mono ?_)
   rintro e W2 ⟨rfl, h2, b2, _⟩
   go_wp2
   go_roundw
   case rel =>
    refine ⟨j + 1, rfl, by omega, ?_, hbj.trans b2⟩
    rw [List.replicate_succ', ← yY, Lib.byteCells_append]
    exact Or.inr h2
   case measure => simp [intOf]; omega
  ·go_wp2_with (go_at_call 313; refine (Tryz.bd_text B b _ ⟨(Vs.acG g).toArray⟩ _ hIj (by rw [Lib.byteCells_length, hls]; simp; omega) zc).mono ?_)
   rintro e W2 rfl h2 b2 _
   go_wp2
   go_end0
   have hjk : j = k - (Vs.acG g).length := zc
   refine ⟨rfl, ?_, hbj.trans b2⟩
   unfold Vs.aA2
   rw [← hjk, ← yY, Lib.byteCells_append]
   exact Or.inr h2
theorem Tryz.zero_frac (a : Option Addr) (k cap : Nat) (w : World) :
  Calls Tryz.prog 163 #[.slice a (k + 1) cap] w fun e w' => e = .returned (.bool false) ∧ w' = w := by
 have hk : (((k : Int) + 1) == 0) = false := by rw [beq_eq_false_iff_ne]; omega
 go_enter Tryz.func163, Tryz.ntmps163
 go_wp2
 go_ret
 exact ⟨rfl, rfl⟩
set_option maxHeartbeats 4000000 in
set_option maxRecDepth 1000000 in
theorem Tryz.digits_frac (n : Nat) (hlen : (Vs.mag n).length ≤ 1000000) (a : Option Addr) (cap : Nat) (w : World)
  (hc : ∀ i (h : i < (Vs.mag n).length), ∃ b o, a = some ⟨b, o, none⟩ ∧ b < w.heap.size ∧ w.cell? ⟨b, o + i, none⟩ = some (.int .u32 (Vs.mag n)[i]))
  (hT : ∀ w', Below w.heap.size w w' → Lib.TabIs Tryz.prog w' "internal/strconv.uint64pow10" .u64 Lib.pow10Tab) :
  Calls Tryz.prog 268 #[.slice a (Vs.mag n).length cap] w fun e w' => e = .returned (.string ⟨(Vs.acG n).toArray⟩) ∧ Below w.heap.size w w' := by
 have hdg := Vs.af6 n
 have hbig := Vs.aC4 n
 generalize hm : Vs.mag n = m at hlen hc hdg hbig ⊢
 have hmf : ∀ (fn : Fn) (first cap : Array Value) (w : World), (Instr.makeFunc fn first cap).run Tryz.prog w = .ok (.func fn first cap) w := fun _ _ _ _ => rfl
 by_cases h0 : m = []
 ·subst h0
  have hn : n = 0 := by
   have := Vs.ak7 n
   rw [hm] at this
   simp [Vs.V] at this; omega
  subst hn
  have hd0 : Vs.acG 0 = [48] := by rw [Vs.acL zc]; rfl
  go_enter Tryz.func268, Tryz.ntmps268
  go_wp2
  go_ret
  rw [hd0]
  exact ⟨rfl, Below.refl _ _⟩
 have hpos : 0 < m.length := zO.2 h0
 obtain ⟨last, hlast⟩ : ∃ last, m.length = last + 1 := ⟨m.length - 1, by omega⟩
 obtain ⟨b, o, rfl, hb, -⟩ := hc 0 hpos
 have hcell : ∀ i (h : i < m.length) w', Below w.heap.size w w' → w'.cell? ⟨b, o + i, none⟩ = some (.int .u32 m[i]) := by
  intro i h w' hw'
  obtain ⟨b', o', e, _, hx⟩ := hc i h
  injection e with e
  injection e with e1 e2
  subst e1 e2
  rw [hw'.cell hb]; exact hx
 have hn : n ≠ 0 := by
  intro h
  subst h
  unfold Vs.mag at hm
  rw [Vs.adN] at hm
  exact h0 hm.symm
 clear hc
 have hw1 : IntKind.i64.wrap ((last : Int) - 1) = (last : Int) - 1 := Vs.aaB ⟨by omega, by omega⟩
 have hbA : Below w.heap.size w (w.alloc (.cells #[.pointer none, .slice none 0 0] 361)) := (Below.refl _ w).alloc (zi _) _
 have hcA := hcell last zc _ hbA
 have hIA := Lib.IsBuilderF.of (Lib.fresh_isBuilder 361 5 w)
 rw [hlast]
 go_enter Tryz.func268, Tryz.ntmps268
 go_wp2_with (go_at_call 163; refine (Tryz.zero_frac _ _ _ _).mono ?_)
 rintro e W0 ⟨rfl, hW0⟩
 obtain rfl : w = W0 := hW0.symm
 go_wp2_with (go_at_call 311; refine (Tryz.put_frac _ (Vs.aId hdg zc) 0 zc w.heap.size w.heap.size [] _ hIA zh zh (fun w' h => hT w' (hbA.trans h))).mono ?_)
 rintro e W1 ⟨rfl, hI1, hb1⟩
 have hb1 := hbA.trans hb1
 have hpd : [] ++ Vs.aA2 0 m[last].toNat = Vs.aBP (m.drop last) := by rw [Vs.aHM zc]; simp [Vs.aA2]
 rw [hpd] at hI1
 clear hcA hbA hIA hpd
 go_wp2
 go_loopw [6] (fun i wr => (i = .int .i64 (-1) ∧ Lib.IsBuilderF 361 5 w.heap.size w.heap.size (Lib.byteCells (Vs.aBP m)) wr ∧ Below w.heap.size w wr) ∨
  ∃ j : Nat, i = .int .i64 j ∧ j + 1 < m.length ∧ Lib.IsBuilderF 361 5 w.heap.size w.heap.size (Lib.byteCells (Vs.aBP (m.drop (j + 1)))) wr ∧ Below w.heap.size w wr) (fun i _ => (intOf i + 1).toNat)
 case atStart =>
  rcases zC last with h | h
  ·subst h
   exact Or.inl ⟨rfl, by simpa using hI1, hb1⟩
  ·refine Or.inr ⟨last - 1, ?_, by omega, ?_, hb1⟩
   ·congr 1; omega
   ·rw [show last - 1 + 1 = last by omega]; exact hI1
 case round =>
  rcases hrel with ⟨rfl, hI2, hb2⟩ | ⟨j, rfl, hj, hI2, hb2⟩
  ·have hs2 := hb2.size
   go_wp2_with (go_at_call 314; refine (Tryz.Builder_String_any_k w.heap.size w.heap.size _ _ hI2 zc).mono ?_)
   rintro e W3 ⟨rfl, _, hb3, _⟩
   go_wp2
   go_ret
   exact ⟨rfl, hb2.trans hb3⟩
  ·have hs2 := hb2.size
   have hc2 := hcell j zc _ hb2
   have hw2 : IntKind.i64.wrap ((j : Int) - 1) = (j : Int) - 1 := Vs.aaB ⟨by omega, by omega⟩
   have hlen2 := Vs.axB (l := m.drop (j + 1)) (fun d hd => hdg d (yW hd))
   rw [zZ] at hlen2
   go_wp2_with (go_at_call 311; refine (Tryz.put_frac _ (Vs.aId hdg zc) 9 zc w.heap.size w.heap.size _ _ hI2 zc zc (fun w' h => hT w' (hb2.trans h))).mono ?_)
   rintro e W3 ⟨rfl, hI3, hb3⟩
   have hb3 := hb2.trans hb3
   rw [← Vs.aEC zc] at hI3
   clear hc2 hlen2
   go_wp2
   go_roundw
   case rel =>
    rcases zC j with h | h
    ·subst h
     exact Or.inl ⟨rfl, by simpa using hI3, hb3⟩
    ·refine Or.inr ⟨j - 1, ?_, by omega, ?_, hb3⟩
     ·congr 1; omega
     ·rw [show j - 1 + 1 = j by omega]; exact hI3
   case measure => simp [intOf]
end Go.Proofs
namespace Go.Vs
open Go Go.Vg Go.RowKit Go.Proofs
def Gt (w : World) : Prop := Lib.TabIs Tryz.prog w "internal/strconv.uint64pow10" .u64 Lib.pow10Tab ∧ ∃ tp p, w.var? Tryz.prog "strconv.ErrRange" = some #[.iface tp p]
theorem aB0 {n : String} {g : Nat} (hg : Tryz.prog.globalNamed n = some g) {w w' : World} (hlt : ∀ cs, w.var? Tryz.prog n = some cs → g < w.heap.size) (hb : Below w.heap.size w w') {cs : Array Value} (h : w.var? Tryz.prog n = some cs) : w'.var? Tryz.prog n = some cs := by
 have hl := hlt cs h
 unfold World.var? at h ⊢
 rw [hg] at h ⊢
 simp only [xT] at h ⊢
 rw [hb.block g hl]
 exact h
theorem aKq {n : String} {g : Nat} (hg : Tryz.prog.globalNamed n = some g) {w : World} {cs : Array Value} (h : w.var? Tryz.prog n = some cs) : g < w.heap.size := by
 unfold World.var? at h
 rw [hg] at h
 simp only [xT] at h
 rcases zx g w.heap.size with h' | h'
 ·exact h'
 ·rw [yR h'] at h; cases h
theorem aL5 : adG Gt := by
 intro w w' hb h
 obtain ⟨h1, tp, p, h2⟩ := h
 refine ⟨?_, tp, p, ?_⟩
 ·exact aB0 (g := 4) (by kernel_rfl) (fun cs => aKq (by kernel_rfl)) hb h1
 ·exact aB0 (g := 3) (by kernel_rfl) (fun cs => aKq (by kernel_rfl)) hb h2
theorem aNM : Tryz.prog.follows .mixedOrders = true := by kernel_rfl
theorem anI {f : FuncId} {A R : Ty} {F : A.T → Option R.T} (he : ac1 Tryz.prog f = true)
  (h : ∀ (w : World) (ok : Nat → Prop) (vs : List Value) (x : A.T) (y : R.T), Gt w → (∀ b, ok b → b < w.heap.size) → RdVs ok w A x vs → F x = some y →
   Calls Tryz.prog f ⟨vs⟩ w fun e w' => ∃ rs, e = .returned (aFj rs) ∧ RdVs (aA3 ok w w') w' R y rs ∧ Below w.heap.size w w') : (aCY A R F).ok Tryz.prog Gt f := by
 refine Con.ok_plain rfl ⟨he, fun w ok vs x hG hok hvs hp => ?_⟩
 obtain ⟨y, hy⟩ := xe.1 (show (F x).isSome = true from hp)
 have e : (aCY A R F).fn x = y := by show (F x).getD R.dflt = y; rw [hy]; rfl
 rw [e]
 exact h w ok vs x y hG hok hvs hy
theorem aL3 {ok : Nat → Prop} {w : World} {x : Int} {v : Value} (h : RdV ok w (.int .i64) x v) : v = .int .i64 x := by
 obtain ⟨cs, ⟨rfl, h1, h2⟩, hv⟩ := h
 have hv' : [Value.int .i64 x] = [v] := hv
 injection hv' with hv'
 exact hv'.symm
theorem aKt {ok : Nat → Prop} {w : World} {x : List UInt8} (h : x.length ≤ lim) : RdVs ok w (.pair .str .unit) (x, ()) [.string ⟨⟨x⟩⟩] :=
 ⟨_, [], rfl, ⟨_, ⟨rfl, h⟩, rfl⟩, rfl⟩
theorem ay4 : 1000000000000 ≤ lim := zd
theorem aHt {n : Int} (h : aeW n) : (dec n).length ≤ 21 := by
 obtain ⟨h1, h2⟩ := h
 have hl := acR (k := 19) (n := n.natAbs) zc
 unfold dec
 split
 ·rw [yr]; omega
 ·omega
structure OkC where
 f : FuncId
 c : Con
 h : c.ok Tryz.prog Gt f
def gOf : List OkC → Cons
 | [] => []
 | x :: r => (x.f, x.c) :: gOf r
theorem gOk : ∀ l : List OkC, (gOf l).ok Tryz.prog Gt
 | [] => trivial
 | x :: r => ⟨x.h, gOk r⟩
def okT (f : FuncId) (A R : Ty) (F : A.T → Option R.T) (Λ : LTab) (l : List OkC) {fn : Func} (hf : Tryz.prog.funcs[f]? = some fn) (t : A.T → TT R.T) (hF : ∀ x y, Wf A x → F x = some y → (t x).toO = some y)
  (hex : ∀ (x : A.T) (K : R.T → Prop), aJR Tryz.prog Gt (gOf l) Λ 8 f fn A R x K = (t x).holds K := by intro x K; kernel_rfl)
  (hb : fn.body.isSome = true := by rfl) (he : ac1 Tryz.prog f = true := by kernel_rfl) (hn : ∀ x, Nat.ble (aiI A x).length fn.ntmps = true := by exact fun _ => rfl) : OkC :=
 ⟨f, aCY A R F, arZ aL5 aNM (gOk l) hf hb he A R Λ 8 hn t hex F hF⟩
abbrev P1 (a : Ty) : Ty := .pair a .unit
abbrev P2 (a b : Ty) : Ty := .pair a (P1 b)
abbrev tI : Ty := .int .i64
abbrev tL : Ty := .sl tI
abbrev tM : Ty := .sl (.int .u32)
abbrev tF : Ty := P2 .str .str
abbrev tB : Ty := P2 tI tI
theorem aGB (n : Int) (h : aeW n) (ok : Nat → Prop) (w : World) (hG : Gt w) :
  Calls Tryz.prog 266 ⟨[.int .i64 n]⟩ w fun e w' => ∃ rs, e = .returned (aFj rs) ∧ RdVs (aA3 ok w w') w' (.pair .str .unit) (dec n, ()) rs ∧ Below w.heap.size w w' := by
 refine (Tryz.strconv_Itoa n h.1 h.2 w hG.1).mono ?_
 rintro e w' ⟨rfl, k, os, rfl⟩
 rw [aJK]
 refine ⟨[.string ⟨⟨dec n⟩⟩], rfl, aKt (zu (m := 1000000000000) ?_ ay4), Lib.below_grow _ _ (zi _) _ _⟩
 have := aHt h
 omega
theorem aLQ : (aCY (.pair (.int .i64) .unit) (.pair .str .unit) au8).ok Tryz.prog Gt 266 := by
 refine anI (by kernel_rfl) (fun w ok vs x y hG hok hvs hy => ?_)
 obtain ⟨n, u⟩ := x
 obtain ⟨v, us, rfl, hv, hus⟩ := hvs
 obtain rfl : us = [] := hus
 obtain rfl := aL3 hv
 unfold au8 at hy
 split at hy
 case isFalse => cases hy
 case isTrue hr =>
 injection hy with hy
 subst hy
 exact aGB n hr ok w hG
theorem aHG {ok : Nat → Prop} {w : World} (l : List Int) : ∀ (cs : List Value), RdL (Rd ok w (.int .u32)) l cs → ∀ i (h : i < l.length), cs[i]? = some (.int .u32 l[i]) := by
 induction l with
 | nil => intro cs _ i h; exact absurd h (Nat.not_lt_zero _)
 | cons d l ih =>
  rintro cs ⟨c1, c2, rfl, ⟨e1, _⟩, h2⟩ i h
  subst e1
  cases i with
  | zero => rfl
  | succ i => exact ih c2 h2 i (by simpa using h)
theorem aLE {ok : Nat → Prop} {w : World} {l : List Int} {a : Option Addr} (hok : ∀ b, ok b → b < w.heap.size)
  (h : l = [] ∨ ∃ b o c e fr, a = some ⟨b, o, none⟩ ∧ ok b ∧ w.heap[b]? = some (.cells c e fr) ∧ o + l.length * vB.size ≤ c.size ∧ RdL (Rd ok w (.int .u32)) l ((c.toList.drop o).take (l.length * vB.size))) :
  ∀ i (h : i < l.length), ∃ b o, a = some ⟨b, o, none⟩ ∧ b < w.heap.size ∧ w.cell? ⟨b, o + i, none⟩ = some (.int .u32 l[i]) := by
 intro i hi
 rcases h with h3 | ⟨b, o, c, e, fr, ha, hb, hc, hs, hr⟩
 ·subst h3; exact absurd hi (Nat.not_lt_zero _)
 ·refine ⟨b, o, ha, hok b hb, ?_⟩
  have hk := aHG _ _ hr i hi
  rw [show vB.size = 1 from rfl, Nat.mul_one, List.getElem?_take_of_lt hi, yJ] at hk
  unfold World.cell?
  dsimp only
  rw [hc]
  dsimp only
  rw [← hk]
  simp
theorem aHu {n : Nat} (h : (mag n).length ≤ 1000000) : (acG n).length ≤ lim := by
 refine zu (m := 1000000000000) ?_ ay4
 by_cases h0 : n = 0
 ·subst h0
  rw [acL zc]; simp
 ·have := axB (af6 n)
  rw [aC4 n h0] at this
  omega
theorem ayL : (aCY (.pair (.sl (.int .u32)) .unit) (.pair .str .unit) agI).ok Tryz.prog Gt 268 := by
 refine anI (by kernel_rfl) (fun w ok vs x y hG hok hvs hy => ?_)
 obtain ⟨n, hn, rfl, rfl⟩ := aaP hy
 obtain ⟨v, us, rfl, hv, hus⟩ := hvs
 obtain rfl : us = [] := hus
 obtain ⟨cs, ⟨a, cap, rfl, h1, h2, h3⟩, hv⟩ := hv
 have hv' : [Value.slice a (mag n).length cap] = [v] := hv
 injection hv' with hv'
 subst hv'
 refine (Tryz.digits_frac n hn a cap w (aLE hok h3) (fun w' hw => (aL5 w w' hw hG).1)).mono ?_
 rintro e w' ⟨rfl, hb⟩
 exact ⟨[.string ⟨⟨acG n⟩⟩], rfl, aKt (aHu hn), hb⟩
end Go.Vs
