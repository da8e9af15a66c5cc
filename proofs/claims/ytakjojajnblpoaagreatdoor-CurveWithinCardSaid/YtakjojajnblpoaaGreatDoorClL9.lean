/-
  Trees of what the functions compute, and their laws. Own work; no condition.
-/
import Derived.Test.YtakjojajnblpoaaGreatDoorClL8
import Derived.Test.YtakjojajnblpoaaGreatDoorProg
set_option linter.unusedVariables false
set_option linter.unusedSimpArgs false
namespace Go.Vs
open Go Go.Vg
theorem ayA {c : CvT} (hr : ab1 c) {lo hi : Int} (h1 : -32768 ≤ lo) (h : lo ≤ hi) (h2 : hi ≤ 32767) :
  acH (c, (1000000000 * lo, 1000000000 * hi, ()), ()) = some (ad5 c (max 0 (min lo 1000) * 1000000000, max 0 (min hi 1000) * 1000000000, ())) := by
 unfold acH
 dsimp only
 rw [if_pos hr, if_pos ⟨by omega, by omega, by omega⟩]
 unfold anP
 dsimp only
 rw [show min (max (1000000000 * lo) 0) 1000000000000 = max 0 (min lo 1000) * 1000000000 by omega, show min (max (1000000000 * hi) 0) 1000000000000 = max 0 (min hi 1000) * 1000000000 by omega]
theorem aKR {x : DrT × List Int × Unit} (h : Wf (.pair (.pair (.int .u8) (.pair (.sl (.int .u16)) (.pair (.sl (.pair (.int .u8) (.pair (.int .i16) (.pair (.int .i16) (.pair (.int .i16) (.pair (.int .u8) (.pair (.int .u8) .unit))))))) (.pair .bool (.pair .bool .unit))))) (.pair (.arr 3 (.int .i16)) .unit)) x) :
  aR3 x.1 ∧ x.2.1.length = 3 ∧ ∀ v ∈ x.2.1, inR v (-32768) 32767 := by
 obtain ⟨⟨h1, ⟨-, h2⟩, ⟨-, h3⟩, -⟩, ⟨h4, h5⟩, -⟩ := h
 refine ⟨⟨ap1 h1, fun v hv => ap1 (h2 v hv), fun s hs => ?_⟩, h4, fun v hv => ap1 (h5 v hv)⟩
 obtain ⟨a1, a2, a3, a4, a5, a6, -⟩ := h3 s hs
 exact ⟨ap1 a1, ap1 a2, ap1 a3, ap1 a4, ap1 a5, ap1 a6⟩
theorem ay6 (d : DrT) (at0 : List Int) (hp : aR3 d ∧ at0.length = 3 ∧ ∀ v ∈ at0, inR v (-32768) 32767) (y) (h : ak5 (d, at0, ()) = some y) : (ak6 d at0).toO = some y := by
 injection h with h
 subst h
 obtain ⟨hd, hl, hb⟩ := hp
 obtain ⟨p, q, r, rfl⟩ : ∃ p q r, at0 = [p, q, r] := by
  match at0, hl with
  | [p, q, r], _ => exact ⟨p, q, r, rfl⟩
 obtain ⟨p1, p2⟩ := hb p zi
 obtain ⟨q1, q2⟩ := hb q zi
 obtain ⟨r1, r2⟩ := hb r zi
 obtain ⟨c, hc, hr⟩ := aP4 d hd
 obtain ⟨lo, hlo⟩ : ∃ lo, lo = (if q < p then q else p) := ⟨_, rfl⟩
 obtain ⟨hi, hhi⟩ : ∃ hi, hi = (if q > p then q else p) := ⟨_, rfl⟩
 have o1 : lo ≤ hi := by rw [hlo, hhi]; split <;> split <;> omega
 have o2 : -32768 ≤ lo := by rw [hlo]; split <;> omega
 have o3 : hi ≤ 32767 := by rw [hhi]; split <;> omega
 have w1 : w64 lo = lo := aaA zc
 have w2 : w64 hi = hi := aaA zc
 have w3 : w64 (w64 (hi - lo) + 1) = hi - lo + 1 := by rw [aaA (x := hi - lo) zc, aaA zc]
 have w4 : abE (w64 (w64 r + 32768)) = r + 32768 := by rw [aaA (x := r) zc, aaA zc, aaN zc]
 have w5 : abE (hi - lo + 1) = hi - lo + 1 := aaN zc
 obtain ⟨k, hk⟩ : ∃ k, k = Int.tmod (r + 32768) (hi - lo + 1) := ⟨_, rfl⟩
 have k1 : 0 ≤ k := by rw [hk]; exact wF _ zc
 have k2 : k < hi - lo + 1 := by rw [hk]; exact Int.tmod_lt_of_pos _ zc
 have eN : w64 (w64 (if q < p then q else p) + w64 (Int.tmod (abE (w64 (w64 r + 32768))) (abE (w64 (w64 (w64 (if q > p then q else p) - w64 (if q < p then q else p)) + 1))))) = lo + k := by
  rw [← hlo, ← hhi, w1, w2, w3, w4, w5, ← hk, aaA (x := k) zc, aaA zc]
 have hne : abE (w64 (w64 (w64 (if q > p then q else p) - w64 (if q < p then q else p)) + 1)) ≠ 0 := by
  rw [← hlo, ← hhi, w1, w2, w3, w5]; omega
 obtain ⟨n, hn⟩ : ∃ n, n = lo + k := ⟨_, rfl⟩
 have n1 : lo ≤ n := zc
 have n2 : n ≤ hi := zc
 have iN : aa8 n := ⟨by omega, by omega⟩
 have hW : acH (c, (w64 (1000000000 * w64 (if q < p then q else p)), w64 (1000000000 * w64 (if q > p then q else p)), ()), ()) = some (ad5 c (max 0 (min lo 1000) * 1000000000, max 0 (min hi 1000) * 1000000000, ())) := by
  rw [← hlo, ← hhi, w1, w2, aaA (x := 1000000000 * lo) zc, aaA (x := 1000000000 * hi) zc]
  exact ayA hr o2 o1 o3
 have hS : acH (c, (w64 (1000000000 * w64 (if q < p then q else p)), w64 (1000000000 * w64 (w64 (if q < p then q else p) + w64 (Int.tmod (abE (w64 (w64 r + 32768))) (abE (w64 (w64 (w64 (if q > p then q else p) - w64 (if q < p then q else p)) + 1)))))), ()), ()) = some (ad5 c (max 0 (min lo 1000) * 1000000000, max 0 (min n 1000) * 1000000000, ())) := by
  rw [eN, ← hn, ← hlo, w1, aaA (x := 1000000000 * lo) zc, aaA (x := 1000000000 * n) zc]
  exact ayA hr o2 n1 zc
 have oN : acY (w64 (w64 (if q < p then q else p) + w64 (Int.tmod (abE (w64 (w64 r + 32768))) (abE (w64 (w64 (w64 (if q > p then q else p) - w64 (if q < p then q else p)) + 1))))), 1000, ()) = some (fx (mkRat n 1000), ()) := by
  rw [eN, ← hn]; exact ajG (d := 1000) iN zc zc
 obtain ⟨N, eM, m1, m2, hM⟩ := aJ2 hr iN
 rw [← eM] at hS
 have i1 : inU (max 0 (min lo 1000) * 1000000000) := ⟨by omega, by omega⟩
 have i2 : inU (N * 1000000000) := ⟨by omega, by omega⟩
 have i3 : inU (max 0 (min hi 1000) * 1000000000) := ⟨by omega, by omega⟩
 have l1 : max 0 (min lo 1000) * 1000000000 ≤ N * 1000000000 := zc
 have l2 : N * 1000000000 ≤ max 0 (min hi 1000) * 1000000000 := zc
 unfold ak6
 refine uC (true, ()) rfl (uF rfl (uC _ hc (uV (uV (uV (uV (uV (uN hne (uC _ hW (uC _ hS ?_))))))))))
 rcases aKq hr i1 i3 (wC l1 l2) with e0 | e6
 ·obtain ⟨s0, s1, s2⟩ := aA3 hr i1 i2 i3 l1 l2 e0
  obtain ⟨-, -, v1, v2, v3⟩ := aA3 hr i1 i3 i3 (wC l1 l2) (yl _) e0
  obtain ⟨s1, s3⟩ := s1
  refine uF (by rw [e0]; rfl) (uF (by rw [s0]; rfl) (uF (zn (vv.2 s1)) (uF (zn (vv.2 s3)) (uF (zn (vv.2 v1)) (uF (zn (vv.2 v3)) (uF (zn (vv.2 v2)) (uC _ oN (uC _ hM ?_))))))))
  rcases aPI hr m1 m2 with ⟨v, e1, f1⟩ | ⟨x1, x2⟩
  ·have hh := aRd hr i1 m1 m2 l1 s0 e1
   rw [e1]
   refine uF rfl (uC (true, 0, ()) ?_ (uT rfl rfl))
   show anG ((ad5 c (max 0 (min lo 1000) * 1000000000, N * 1000000000, ())).1, fx v, ()) = some (true, 0, ())
   unfold anG
   rw [if_pos (aRE f1)]
   unfold aSx
   dsimp only
   rw [if_pos ⟨by have := s2.1; omega, s2.2.1, by have := s2.2.2; omega⟩, ae7 f1]
   dsimp only
   rw [zo hh]
  ·refine uT (yW.2 (by rw [x2]; decide)) (uT (yJ.2 x2) (uC _ (aOa c) ?_))
   show some (!decide (axE c), ()) = some (true, ())
   rw [zn x1]; rfl
 ·refine uT (yW.2 (by rw [e6]; decide)) ?_
  show some ((ad5 c (max 0 (min lo 1000) * 1000000000, max 0 (min hi 1000) * 1000000000, ())).2.1 == 6, ()) = some (true, ())
  rw [e6]; rfl
set_option maxRecDepth 100000
open Go Go.Vg Go.Proofs
noncomputable section
def aKN : LTab := []
def aKO : LTab := [(233, 12, 1025, ⟨0, (List Int) × Unit, .dat (.s 0) uZ <| .nil, [2], [], 0⟩)]
def aC6 : LTab := [(266, 58, 10240, ⟨0, (Int) × Unit, .dat (.s 5) uk <| .nil, [0, 1], [], 0⟩)]
def aKQ : LTab := [(248, 3, 1025, ⟨0, (List Int) × (List Int) × Unit, .dat (.s 0) uZ <| .dat (.s 1) uZ <| .nil, [4], [], 0⟩), (248, 250, 10241, ⟨1, (Int) × (Int) × (List Int) × Unit, .dat (.s 22) uk <| .dat (.s 6) un <| .app (.s 5) 10 189 un <| .nil, [21, 20, 1, 4], [], 1⟩)]
def aIF : LTab := [(249, 122, 9217, ⟨0, (Int) × (Int) × (List Int) × Unit, .dat (.s 15) uk <| .dat (.s 6) un <| .row 3 un <| .nil, [14, 13, 5, 4, 1], [3], 0⟩)]
def aIC : LTab := [(257, 58, 11265, ⟨0, (Int) × (List Int) × Unit, .dat (.s 19) uk <| .row 6 un <| .nil, [18, 17, 5, 4, 1], [6], 0⟩), (257, 59802, 21505, ⟨1, (Int) × (Int) × (List Int) × Unit, .dat (.s 26) uk <| .dat (.s 8) uJ <| .row 6 un <| .nil, [25, 24, 7, 6, 23, 22, 21, 20, 19, 18, 17, 5, 4, 1], [6], 0⟩)]
def aID : LTab := [(267, 122, 11265, ⟨0, (Int) × (Int) × (List Int) × Unit, .dat (.s 8) uk <| .dat (.s 7) uJ <| .row 4 un <| .nil, [6, 5, 4, 0, 1], [4], 0⟩)]
def aBn : LTab := [(268, 28, 2050, ⟨0, Bool × (List Int) × (Int) × Unit, .appN (.s 3) 2 189 un <| .dat (.s 0) uJ <| .nil, [2], [], 1⟩)]
def aII : LTab := [(205, 218, 5122, ⟨0, (Int) × Bool × (List Int) × Unit, .dat (.s 4) uk <| .appN (.s 3) 5 189 un <| .nil, [2, 0], [], 1⟩), (205, 55834, 13314, ⟨1, (Int) × (Int) × Unit, .dat (.s 7) uk <| .dat (.s 6) un <| .nil, [15, 5, 14, 13, 12, 3, 4, 2, 0], [], 0⟩), (205, 55834, 13313, ⟨2, (Int) × (Int) × Unit, .dat (.s 7) uk <| .dat (.s 6) un <| .nil, [15, 5, 14, 13, 12, 3, 4, 2, 0], [5], 0⟩)]
def aFp : LTab := []
end
end Go.Vs
