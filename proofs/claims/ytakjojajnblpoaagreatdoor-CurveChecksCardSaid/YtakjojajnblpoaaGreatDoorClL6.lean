/-
  Trees of what the functions compute, and their laws. Own work; no condition.
-/
import Derived.Test.YtakjojajnblpoaaGreatDoorClL5
import Derived.Test.YtakjojajnblpoaaGreatDoorProg
set_option linter.unusedVariables false
set_option linter.unusedSimpArgs false
set_option maxRecDepth 100000
namespace Go.Vs
open Go Go.Vg Go.Proofs
noncomputable section
def aEZ : LTab := []
def anS (n : Int) (low : Int) (high : Int) : TT uk :=
 .ite (decide (n ≥ low))
 (.ok ((decide (n ≤ high), ())))
 (.ok ((false, ())))
def aE1 : LTab := [(126, 26, 2048, ⟨0, (Int) × Unit, .dat (.s 5) vZ <| .nil, [0, 1], [], 0⟩)]
def asU (a : Int) (b : Int) (i : (Int) × Unit) : TT uZ :=
 .ite (decide (i.1 ≤ a))
 (.ite (decide (i.1 ≤ b))
 (.need (i.1 ≠ 0) <| .ite (Int.tmod a i.1 == 0)
 (.need (i.1 ≠ 0) <| .ite (Int.tmod b i.1 == 0)
 (.ok (.inr ((true, ()))))
 (.tt <| .lt (w64 (i.1 + 1) : Int) fun z => .vI (vL z a b) <| .tr <| .ok (.inl ((z, ())))))
 (.tt <| .lt (w64 (i.1 + 1) : Int) fun z1 => .vI (vL z1 a b) <| .tr <| .ok (.inl ((z1, ())))))
 (.ok (.inr ((false, ())))))
 (.ok (.inr ((false, ()))))
def anT (a : Int) (b : Int) : TT uk :=
 .loop 0 (.tt <| .vI (vL (2 : Int) a b) <| .tr <| .ok ((2, ()))) (asU a b)
def aCH : LTab := []
def ak7 (s : Int × Int × Int × Int × Int × Int × Unit) : TT uk :=
 .call (ab0 (s.2.1, -100000000, 100000000, ())) Dd1 fun y =>
 .ite (y.1)
 (.call (ab0 (s.2.2.1, -100000000, 100000000, ())) Dd1 fun y1 =>
 .ite (y1.1)
 (.call (ab0 (s.2.2.2.2.2.1, -100000000, 100000000, ())) Dd1 fun y2 =>
 .ite (y2.1)
 (.call (ab0 (s.2.2.2.1, 1, 36, ())) Dd1 fun y3 =>
 .ite (y3.1)
 (.call (ab0 (s.2.2.2.2.1, 1, 12, ())) Dd1 fun y4 =>
 .ite (y4.1)
 (.call (abB (s.2.2.2.1, s.2.2.2.2.1, ())) Dd1 fun y5 =>
 .ok ((!y5.1, ())))
 (.ok ((false, ()))))
 (.ok ((false, ()))))
 (.ok ((false, ()))))
 (.ok ((false, ()))))
 (.ok ((false, ())))
def aH3 : LTab := [(49, 3442, 9216, ⟨0, (Int) × Unit, .dat (.s 3) vZ <| .nil, [8, 1], [0], 0⟩), (49, 27626, 12288, ⟨1, (Int) × (Int) × Unit, .dat (.s 5) vZ <| .dat (.s 4) vZ <| .nil, [1], [0], 0⟩)]
def au4 (c : Int × List Int × List vY × Unit) (i : (Int) × Unit) : TT uZ :=
 .ite (decide (i.1 < len c.2.1))
 (.need (inb i.1 (len c.2.1)) <| .call (ab0 (gi c.2.1 i.1 0, 0, 65535, ())) Dd1 fun y =>
 .ite (!y.1)
 (.ok (.inr ((false, ()))))
 (.tt <| .lt (w64 (i.1 + 1) : Int) fun z => .vI (vP z c.1 <| ue ∧ True) <| .vI (vH (vK 42 c.1 c.2.1 c.2.2.1) True) <| .ok (.inl ((z, ())))))
 (.call (ab0 (len c.2.1, 2, 17, ())) Dd1 fun y1 =>
 .ite (y1.1)
 (.ok (.inr ((len c.2.2.1 == 0, ()))))
 (.ok (.inr ((false, ())))))
def au3 (c : Int × List Int × List vY × Unit) (i1 : (Int) × (Int) × Unit) : TT (ur ⊕ uk) :=
 .ite (decide (i1.1 < len c.2.2.1))
 (.need (inb i1.1 (len c.2.2.1)) <| .call (ah4 (((gi c.2.2.1 i1.1 (0, 0, 0, 0, 0, 0, ())).1, (gi c.2.2.1 i1.1 (0, 0, 0, 0, 0, 0, ())).2.1, (gi c.2.2.1 i1.1 (0, 0, 0, 0, 0, 0, ())).2.2.1, (gi c.2.2.1 i1.1 (0, 0, 0, 0, 0, 0, ())).2.2.2.1, (gi c.2.2.1 i1.1 (0, 0, 0, 0, 0, 0, ())).2.2.2.2.1, (gi c.2.2.1 i1.1 (0, 0, 0, 0, 0, 0, ())).2.2.2.2.2.1, ()), ())) Dd1 fun y2 =>
 .ite (!y2.1)
 (.ok (.inr ((false, ()))))
 (.ite (decide ((gi c.2.2.1 i1.1 (0, 0, 0, 0, 0, 0, ())).1 ≤ i1.2.1))
 (.ok (.inr ((false, ()))))
 (.tt <| .lt (w64 (i1.1 + 1) : Int) fun z1 => .lt ((gi c.2.2.1 i1.1 (0, 0, 0, 0, 0, 0, ())).1 : Int) fun z2 => .vI (vP z2 z1 <| ue ∧ True) <| .vI (vH (vK 42 c.1 c.2.1 c.2.2.1) True) <| .ok (.inl ((z1, z2, ()))))))
 (.call (ab0 (len c.2.2.1, 1, 4, ())) Dd1 fun y3 =>
 .ite (y3.1)
 (.ite (i1.2.1 == 1000000)
 (.ok (.inr ((len c.2.1 == 0, ()))))
 (.ok (.inr ((false, ())))))
 (.ok (.inr ((false, ())))))
def aqZ (c : Int × List Int × List vY × Unit) : TT uk :=
 .ite (c.1 == 1)
 (.ite (len c.2.1 == 0)
 (.ok ((len c.2.2.1 == 0, ())))
 (.ok ((false, ()))))
 (.ite (c.1 == 2)
 (.loop 0 (.tt <| .vI (vP (0 : Int) c.1 <| ue ∧ True) <| .vI (vH (vK 42 c.1 c.2.1 c.2.2.1) True) <| .ok ((0, ()))) (au4 c))
 (.ite (c.1 == 3)
 (.loop 1 (.tt <| .vI (vP (0 : Int) (0 : Int) <| ue ∧ True) <| .vI (vH (vK 42 c.1 c.2.1 c.2.2.1) True) <| .ok ((0, 0, ()))) (au3 c))
 (.ok ((false, ())))))
def aH6 : LTab := []
def aq1 (c : Int × List Int × List vY × Unit) : TT uz :=
 .call (aeP ((c.1, c.2.1, c.2.2.1, ()), ())) Dd1 fun y =>
 .ite (y.1)
 (.ok ((0, ())))
 (.ok ((90, ())))
def aKz : LTab := [(33, 3, 3072, ⟨0, (Bool) × Unit, .dat (.s 4) tw <| .nil, [3, 2], [1, 0], 0⟩), (33, 58, 4096, ⟨1, (Int) × Unit, .dat (.s 5) vZ <| .nil, [3, 2], [1, 0], 0⟩), (33, 122, 10240, ⟨2, (Int) × Unit, .dat (.s 6) vZ <| .nil, [3, 2], [1, 0], 0⟩)]
def azG (a : Int × List Int × List vY × Unit) (b : Int × List Int × List vY × Unit) (j : Bool × Unit) (i : Int × Unit) (i1 : (Int) × Unit) : TT (uq ⊕ uZ) :=
 .ite (decide (i1.1 < len a.2.2.1))
 (.need (inb i1.1 (len a.2.2.1)) <| .need (inb i1.1 (len b.2.2.1)) <| .ite (!(match (gi a.2.2.1 i1.1 (0, 0, 0, 0, 0, 0, ())).1 == (gi b.2.2.1 i1.1 (0, 0, 0, 0, 0, 0, ())).1 with | true => (match (gi a.2.2.1 i1.1 (0, 0, 0, 0, 0, 0, ())).2.1 == (gi b.2.2.1 i1.1 (0, 0, 0, 0, 0, 0, ())).2.1 with | true => (match (gi a.2.2.1 i1.1 (0, 0, 0, 0, 0, 0, ())).2.2.1 == (gi b.2.2.1 i1.1 (0, 0, 0, 0, 0, 0, ())).2.2.1 with | true => (match (gi a.2.2.1 i1.1 (0, 0, 0, 0, 0, 0, ())).2.2.2.1 == (gi b.2.2.1 i1.1 (0, 0, 0, 0, 0, 0, ())).2.2.2.1 with | true => (match (gi a.2.2.1 i1.1 (0, 0, 0, 0, 0, 0, ())).2.2.2.2.1 == (gi b.2.2.1 i1.1 (0, 0, 0, 0, 0, 0, ())).2.2.2.2.1 with | true => (match (gi a.2.2.1 i1.1 (0, 0, 0, 0, 0, 0, ())).2.2.2.2.2.1 == (gi b.2.2.1 i1.1 (0, 0, 0, 0, 0, 0, ())).2.2.2.2.2.1 with | true => true | false => false) | false => false) | false => false) | false => false) | false => false) | false => false))
 (.ok (.inr (.inr ((false, ())))))
 (.tt <| .lt (w64 (i1.1 + 1) : Int) fun z1 => .vI (vJ z1 <| uh ∧ ue ∧ True) <| .vI (vH (vK 42 b.1 b.2.1 b.2.2.1) <| vH (vK 42 a.1 a.2.1 a.2.2.1) True) <| .ok (.inl ((z1, ())))))
 (.ok (.inr (.inr ((true, ())))))
def azH (a : Int × List Int × List vY × Unit) (b : Int × List Int × List vY × Unit) (j : Bool × Unit) (i : (Int) × Unit) : TT uZ :=
 .ite (decide (i.1 < len a.2.1))
 (.need (inb i.1 (len a.2.1)) <| .need (inb i.1 (len b.2.1)) <| .ite (gi a.2.1 i.1 0 != gi b.2.1 i.1 0)
 (.ok (.inr ((false, ()))))
 (.tt <| .lt (w64 (i.1 + 1) : Int) fun z => .vI (vJ z <| uh ∧ ue ∧ True) <| .vI (vH (vK 42 b.1 b.2.1 b.2.2.1) <| vH (vK 42 a.1 a.2.1 a.2.2.1) True) <| .ok (.inl ((z, ())))))
 (.loop 2 (.tt <| .vI (vJ (0 : Int) <| uh ∧ ue ∧ True) <| .vI (vH (vK 42 b.1 b.2.1 b.2.2.1) <| vH (vK 42 a.1 a.2.1 a.2.2.1) True) <| .ok ((0, ()))) (azG a b j i))
def azI (a : Int × List Int × List vY × Unit) (b : Int × List Int × List vY × Unit) (j : (Bool) × Unit) : TT uk :=
 .loop 1 (.tt <| .vI (vJ (0 : Int) <| uh ∧ ue ∧ True) <| .vI (vH (vK 42 b.1 b.2.1 b.2.2.1) <| vH (vK 42 a.1 a.2.1 a.2.2.1) True) <| .ok ((0, ()))) (azH a b j)
def au2 (a : Int × List Int × List vY × Unit) (b : Int × List Int × List vY × Unit) : TT uk :=
 .join 0 (ι := (Bool) × Unit) (.ite (a.1 != b.1)
 (.ok (.inr ((false, ()))))
 (.ite (len a.2.1 != len b.2.1)
 (.ok (.inr ((false, ()))))
 (.ite (len a.2.2.1 != len b.2.2.1)
 (.ok (.inr ((false, ()))))
 (.tt <| .vI (vJ false <| uh ∧ ue ∧ True) <| .vI (vH (vK 42 b.1 b.2.1 b.2.2.1) <| vH (vK 42 a.1 a.2.1 a.2.2.1) True) <| .ok (.inl ((false, ()))))))) (azI a b)
def aH4 : LTab := [(31, 58, 6144, ⟨0, (Int) × Unit, .dat (.s 3) vZ <| .nil, [1], [0], 0⟩)]
def au5 (c : Int × List Int × List vY × Unit) (y : Bool × Unit) (i : (Int) × Unit) : TT uZ :=
 .ite (decide (i.1 < len c.2.2.1))
 (.need (inb i.1 (len c.2.2.1)) <| .ite ((gi c.2.2.1 i.1 (0, 0, 0, 0, 0, 0, ())).2.2.2.2.1 != 1)
 (.ok (.inr ((false, ()))))
 (.tt <| .lt (w64 (i.1 + 1) : Int) fun z => .vI (vJ z <| ue ∧ True) <| .vI (vH (vK 42 c.1 c.2.1 c.2.2.1) True) <| .ok (.inl ((z, ())))))
 (.ok (.inr ((true, ()))))
def aq0 (c : Int × List Int × List vY × Unit) : TT uk :=
 .call (aeP ((c.1, c.2.1, c.2.2.1, ()), ())) Dd1 fun y =>
 .ite (!y.1)
 (.ok ((false, ())))
 (.loop 0 (.tt <| .vI (vJ (0 : Int) <| ue ∧ True) <| .vI (vH (vK 42 c.1 c.2.1 c.2.2.1) True) <| .ok ((0, ()))) (au5 c y))
def aH2 : LTab := [(28, 250, 12288, ⟨0, (Int) × (Bool) × (Bool) × Unit, .dat (.s 6) vZ <| .dat (.s 5) tw <| .dat (.s 4) tw <| .nil, [3, 2, 1], [0], 0⟩)]
def au1 (c : Int × List Int × List vY × Unit) (y : Bool × Unit) (i : (Int) × (Bool) × (Bool) × Unit) : TT (((Int) × (Bool) × (Bool) × Unit) ⊕ uc) :=
 .ite (decide (i.1 < len c.2.1))
 (.ite (i.2.2.1)
 (.ite (i.2.1)
 (.tt <| .lt (w64 (i.1 + 1) : Int) fun z => .vI (vO true true z (0 : Int) (0 : Int) <| ue ∧ True) <| .vI (vH (vK 42 c.1 c.2.1 c.2.2.1) True) <| .ok (.inl ((z, true, true, ()))))
 (.need (inb i.1 (len c.2.1)) <| .need (inb (w64 (i.1 - 1)) (len c.2.1)) <| .tt <| .lt (w64 (i.1 + 1) : Int) fun z1 => .lt (decide (gi c.2.1 i.1 0 < gi c.2.1 (w64 (i.1 - 1)) 0) : Bool) fun z2 => .vI (vO true z2 z1 (0 : Int) (0 : Int) <| ue ∧ True) <| .vI (vH (vK 42 c.1 c.2.1 c.2.2.1) True) <| .ok (.inl ((z1, z2, true, ())))))
 (.need (inb i.1 (len c.2.1)) <| .need (inb (w64 (i.1 - 1)) (len c.2.1)) <| .ite (i.2.1)
 (.tt <| .lt (w64 (i.1 + 1) : Int) fun z3 => .lt (decide (gi c.2.1 i.1 0 > gi c.2.1 (w64 (i.1 - 1)) 0) : Bool) fun z4 => .vI (vO z4 true z3 (0 : Int) (0 : Int) <| ue ∧ True) <| .vI (vH (vK 42 c.1 c.2.1 c.2.2.1) True) <| .ok (.inl ((z3, true, z4, ()))))
 (.need (inb i.1 (len c.2.1)) <| .need (inb (w64 (i.1 - 1)) (len c.2.1)) <| .tt <| .lt (w64 (i.1 + 1) : Int) fun z5 => .lt (decide (gi c.2.1 i.1 0 < gi c.2.1 (w64 (i.1 - 1)) 0) : Bool) fun z6 => .lt (decide (gi c.2.1 i.1 0 > gi c.2.1 (w64 (i.1 - 1)) 0) : Bool) fun z7 => .vI (vO z7 z6 z5 (0 : Int) (0 : Int) <| ue ∧ True) <| .vI (vH (vK 42 c.1 c.2.1 c.2.2.1) True) <| .ok (.inl ((z5, z6, z7, ()))))))
 (.ite (!i.2.1)
 (.ok (.inr ((1, 0, ()))))
 (.ite (!i.2.2.1)
 (.ok (.inr ((-1, 0, ()))))
 (.ok (.inr ((0, 0, ()))))))
def aqY (c : Int × List Int × List vY × Unit) : TT uc :=
 .call (aeP ((c.1, c.2.1, c.2.2.1, ()), ())) Dd1 fun y =>
 .ite (!y.1)
 (.ok ((0, 90, ())))
 (.ite (c.1 == 3)
 (.ite (decide (len c.2.2.1 > 1))
 (.ok ((0, 0, ())))
 (.need (asT Int 0 ≤ 0 ∧ 0 < len c.2.2.1) <| .ite (decide ((gi c.2.2.1 0 (0, 0, 0, 0, 0, 0, ())).2.1 < 0))
 (.ok ((-1, 0, ())))
 (.ok ((1, 0, ())))))
 (.loop 0 (.tt <| .vI tE <| .vI (vH (vK 42 c.1 c.2.1 c.2.2.1) True) <| .ok ((1, false, false, ()))) (au1 c y)))
end
open Go Go.Vg
theorem aA0 (n a b : Int) (y) (h : ab0 (n, a, b, ()) = some y) : (anS n a b).toO = some y := by
 injection h with h
 subst h
 unfold anS
 dsimp only
 by_cases c : a ≤ n
 ·refine uT (zo c) ?_
  rw [aaH]
  by_cases d : n ≤ b
  ·rw [zo d, zo (show inR n a b from ⟨c, d⟩)]
  ·rw [zn d, zn (fun h : inR n a b => d h.2)]
 ·refine uF (zn c) ?_
  rw [aaH, zn (fun h : inR n a b => c h.1)]
theorem ac2 (n a b : Int) : ab0 (n, a, b, ()) = some (decide (inR n a b), ()) := rfl
theorem aA3 (a b : Int) (y) (h : abB (a, b, ()) = some y) : (anT a b).toO = some y := by
 unfold abB at h
 split at h
 case isFalse => cases h
 case isTrue hp =>
 injection h with h
 subst h
 obtain ⟨⟨a1, a2⟩, b1, b2⟩ := hp
 dsimp only at a1 a2 b1 b2 ⊢
 obtain ⟨m, rfl⟩ := zw (show 0 ≤ a by omega)
 obtain ⟨n, rfl⟩ := zw (show 0 ≤ b by omega)
 unfold anT
 refine uO (2, ()) rfl ?_
 refine aaL (fun i : Int × Unit => ∃ k : Nat, 2 ≤ k ∧ k ≤ 50 ∧ i.1 = (k : Int) ∧ ∀ j, 2 ≤ j → j < k → ¬ (j ∣ m ∧ j ∣ n)) (fun i => ((60 : Int) - i.1).toNat) (fun _ => (!decide (Nat.gcd (m : Int).natAbs (n : Int).natAbs = 1), ())) ?_ _ ⟨2, by omega, by omega, rfl, fun j h1 h2 => by omega⟩
 rintro ⟨i, u⟩ ⟨k, h1, h1', h2, h3⟩
 dsimp only at h2
 subst h2
 simp only [asU, zQ]
 have hstop : ¬ (k ≤ m ∧ k ≤ n) → (!decide (Nat.gcd m n = 1)) = false := by
  intro hk
  refine (fun hg : Nat.gcd m n = 1 => by rw [zo hg]; rfl) ?_
  have g1 : 0 < Nat.gcd m n := Nat.gcd_pos_of_pos_left _ zc
  have g2 := xF m n
  have g3 := xA m n
  have g4 := Nat.le_of_dvd zc g2
  have g5 := Nat.le_of_dvd zc g3
  rcases zr 1 (Nat.gcd m n) with g6 | g6
  ·exact absurd ⟨g2, g3⟩ (h3 _ zc zc)
  ·omega
 have hdiv : ∀ z : Nat, ((Int.tmod (z : Int) (k : Int)) == 0) = decide (k ∣ z) := by
  intro z
  rw [← Int.ofNat_tmod]
  by_cases c : k ∣ z
  ·rw [zo c, Nat.mod_eq_zero_of_dvd c]; rfl
  ·rw [zn c, beq_eq_false_iff_ne]
   intro h
   exact c (Nat.dvd_of_mod_eq_zero zc)
 by_cases c1 : k ≤ m
 ·by_cases c2 : k ≤ n
  ·by_cases d1 : k ∣ m
   ·by_cases d2 : k ∣ n
    ·right
     rw [zn (fun h : Nat.gcd m n = 1 => by have := Nat.dvd_gcd d1 d2; rw [h] at this; have := Nat.le_of_dvd zc this; omega)]
     exact uT sd (uT sd (uN zc (uT (by rw [hdiv]; exact zo d1) (uN zc (uT (by rw [hdiv]; exact zo d2) rfl)))))
    ·left
     refine ⟨(((k + 1 : Nat) : Int), ()), ?_, ⟨k + 1, by omega, by omega, rfl, fun j j1 j2 => ?_⟩, by dsimp only; omega, ze⟩
     ·refine uT sd (uT sd (uN zc (uT (by rw [hdiv]; exact zo d1) (uN zc (uF (by rw [hdiv]; exact zn d2) ?_)))))
      rw [aaA (x := (k : Int) + 1) zc]; rfl
     ·rcases zr j k with hj | hj
      ·exact h3 j j1 hj
      ·obtain rfl : j = k := zc
       exact fun h => d2 h.2
   ·left
    refine ⟨(((k + 1 : Nat) : Int), ()), ?_, ⟨k + 1, by omega, by omega, rfl, fun j j1 j2 => ?_⟩, by dsimp only; omega, ze⟩
    ·refine uT sd (uT sd (uN zc (uF (by rw [hdiv]; exact zn d1) ?_)))
     rw [aaA (x := (k : Int) + 1) zc]; rfl
    ·rcases zr j k with hj | hj
     ·exact h3 j j1 hj
     ·obtain rfl : j = k := zc
      exact fun h => d1 h.1
  ·right
   rw [hstop (fun h => c2 h.2)]
   exact uT sd (uF sd rfl)
 ·right
  rw [hstop (fun h => c1 h.1)]
  exact uF sd rfl
theorem ayF (s : adS) (y) (h : ah4 (s, ()) = some y) : (ak7 s).toO = some y := by
 injection h with h
 subst h
 obtain ⟨till, mul, add, num, den, off, u⟩ := s
 unfold ak7
 dsimp only
 refine uC _ (ac2 _ _ _) ?_
 by_cases c1 : inR mul (-100000000) 100000000
 case neg => rw [zn (fun h : aeM (till, mul, add, num, den, off, u) => c1 h.1)]; exact uF (zn c1) rfl
 refine uT (zo c1) (uC _ (ac2 _ _ _) ?_)
 by_cases c2 : inR add (-100000000) 100000000
 case neg => rw [zn (fun h : aeM (till, mul, add, num, den, off, u) => c2 h.2.1)]; exact uF (zn c2) rfl
 refine uT (zo c2) (uC _ (ac2 _ _ _) ?_)
 by_cases c3 : inR off (-100000000) 100000000
 case neg => rw [zn (fun h : aeM (till, mul, add, num, den, off, u) => c3 h.2.2.1)]; exact uF (zn c3) rfl
 refine uT (zo c3) (uC _ (ac2 _ _ _) ?_)
 by_cases c4 : inR num 1 36
 case neg => rw [zn (fun h : aeM (till, mul, add, num, den, off, u) => c4 h.2.2.2.1)]; exact uF (zn c4) rfl
 refine uT (zo c4) (uC _ (ac2 _ _ _) ?_)
 by_cases c5 : inR den 1 12
 case neg => rw [zn (fun h : aeM (till, mul, add, num, den, off, u) => c5 h.2.2.2.2.1)]; exact uF (zn c5) rfl
 refine uT (zo c5) (uC (!decide (Nat.gcd num.natAbs den.natAbs = 1), ()) (by unfold abB; rw [if_pos ⟨c4, c5⟩]) ?_)
 rw [aaH]
 by_cases c6 : Nat.gcd num.natAbs den.natAbs = 1
 ·rw [zo (show aeM (till, mul, add, num, den, off, u) from ⟨c1, c2, c3, c4, c5, c6⟩), zo c6]; rfl
 ·rw [zn (fun h : aeM (till, mul, add, num, den, off, u) => c6 h.2.2.2.2.2), zn c6]; rfl
theorem asJ {c : CvT} (h : shC c) : aeP (c, ()) = some (decide (abF c), ()) := by unfold aeP; rw [if_pos h]
theorem aCM (c : CvT) (y) (h : ajC (c, ()) = some y) : (aq1 c).toO = some y := by
 unfold ajC at h
 split at h
 case isFalse => cases h
 case isTrue hp =>
 injection h with h
 subst h
 obtain ⟨kind, tab, l, u⟩ := c
 unfold aq1
 dsimp only at hp ⊢
 refine uC _ (asJ (c := (kind, tab, l, ())) hp) ?_
 by_cases c : abF (kind, tab, l, u)
 ·rw [if_pos c]; exact uT (zo c) rfl
 ·rw [if_neg c]; exact uF (zn c) rfl
theorem aQy {n : Int} {d : Nat} (hn : abD n) (hd : d ≠ 0) (h2 : d ≤ 9223372036854775807) : aQx (n, (d : Int), ()) = some (fx (mkRat n d), ()) := afD hn hd h2
def aEV : Int → List adS → Prop
 | last, [] => last = 1000000
 | last, s :: r => (aeM s ∧ last < s.1) ∧ aEV s.1 r
theorem aGO : ∀ (l : List adS) (last : Int), aEV last l → last ≤ 1000000
 | [], _, h => by have : _ = _ := h; omega
 | _ :: r, _, h => by have := aGO r _ h.2; have := h.1.2; omega
theorem ak2 : ∀ (l : List adS) (last : Int), aEV last l ↔ agA last l
 | [], _ => Iff.rfl
 | s :: r, last => by
  constructor
  ·intro h
   have := aGO r _ h.2
   exact ⟨⟨h.1.1, by have := h.1.2; omega, this⟩, (ak2 r _).1 h.2⟩
  ·intro h
   exact ⟨⟨h.1.1, by have := h.1.2.1; omega⟩, (ak2 r _).2 h.2⟩
theorem aHZ {last : Int} {s : adS} {r : List adS} : aEV last (s :: r) ↔ (aeM s ∧ last < s.1) ∧ aEV s.1 r := Iff.rfl
theorem aCJ (c : CvT) (y) (h : aeP (c, ()) = some y) : (aqZ c).toO = some y := by
 unfold aeP at h
 split at h
 case isFalse => cases h
 case isTrue hp =>
 injection h with h
 subst h
 obtain ⟨kind, tab, l, u0⟩ := c
 obtain ⟨hs1, hs2⟩ := hp
 dsimp only at hs1 hs2
 unfold aqZ
 dsimp only
 by_cases k1 : kind = 1
 ·subst k1
  have hd : decide (abF (1, tab, l, u0)) = decide (tab = [] ∧ l = []) := decide_eq_decide.2 ⟨fun h => by
   rcases h with h | h | h
   ·exact h.2
   ·exact absurd h.1 (by decide : ¬ (1 : Int) = 2)
   ·exact absurd h.1 (by decide : ¬ (1 : Int) = 3), fun h => Or.inl ⟨rfl, h⟩⟩
  rw [hd]
  refine uT rfl ?_
  simp only [ajY]
  by_cases a1 : tab = []
  ·refine uT (zo a1) ?_
   rw [aaH]
   by_cases a2 : l = []
   ·rw [zo a2, zo (show tab = [] ∧ l = [] from ⟨a1, a2⟩)]
   ·rw [zn a2, zn (fun h : tab = [] ∧ l = [] => a2 h.2)]
  ·refine uF (zn a1) ?_
   rw [aaH, zn (fun h : tab = [] ∧ l = [] => a1 h.1)]
 refine uF (beq_eq_false_iff_ne.2 k1) ?_
 by_cases k2 : kind = 2
 ·subst k2
  have hd : decide (abF (2, tab, l, u0)) = decide (adE tab ∧ l = []) := decide_eq_decide.2 ⟨fun h => by
   rcases h with h | h | h
   ·exact absurd h.1 (by decide : ¬ (2 : Int) = 1)
   ·exact h.2
   ·exact absurd h.1 (by decide : ¬ (2 : Int) = 3), fun h => Or.inr (Or.inl ⟨rfl, h⟩)⟩
  rw [hd]
  refine uT rfl (uO (0, ()) rfl ?_)
  refine aaL (fun i : Int × Unit => ∃ k : Nat, k ≤ tab.length ∧ i = ((k : Int), ()) ∧ ∀ v ∈ tab.take k, inR v 0 65535) (fun i => ((tab.length : Int) - i.1).toNat) (fun _ => (decide (adE tab ∧ l = []), ())) ?_ _ ⟨0, by omega, rfl, by simp⟩
  rintro i ⟨k, h3, rfl, h4⟩
  simp only [au4, aaM]
  rcases zr k tab.length with hk | hk
  ·have e : tab.getD k 0 = tab[k] := by simp [hk]
   rw [e]
   by_cases c : inR tab[k] 0 65535
   ·left
    refine ⟨(((k + 1 : Nat) : Int), ()), ?_, ⟨k + 1, by omega, rfl, ?_⟩, by simp only; omega, ze⟩
    ·refine uT sd (uN sd (uC _ (ac2 _ _ _) (uF (by rw [zo c]; rfl) ?_)))
     rw [aaA (x := (k : Int) + 1) zc]
     rfl
    ·intro v hv
     rw [zO hk] at hv
     rcases zH.1 hv with hv | hv
     ·exact h4 v hv
     ·rw [zX.1 hv]; exact c
   ·right
    rw [zn (fun h : adE tab ∧ l = [] => c (h.1.2.2 _ (ym hk)))]
    exact uT sd (uN sd (uC _ (ac2 _ _ _) (uT (by rw [zn c]; rfl) rfl)))
  ·right
   rw [zu hk] at h4
   refine uF sd (uC _ (ac2 _ _ _) ?_)
   by_cases c1 : inR (len tab) 2 17
   ·refine uT (zo c1) ?_
    rw [aaH, ajY]
    have ht : adE tab := ⟨by have := c1.1; rw [aaB] at this; omega, by have := c1.2; rw [aaB] at this; omega, h4⟩
    by_cases c2 : l = []
    ·rw [zo c2, zo (show adE tab ∧ l = [] from ⟨ht, c2⟩)]
    ·rw [zn c2, zn (fun h : adE tab ∧ l = [] => c2 h.2)]
   ·refine uF (zn c1) ?_
    rw [aaH, zn (fun h : adE tab ∧ l = [] => c1 ⟨by have := h.1.1; rw [aaB]; omega, by have := h.1.2.1; rw [aaB]; omega⟩)]
 refine uF (beq_eq_false_iff_ne.2 k2) ?_
 by_cases k3 : kind = 3
 ·subst k3
  have hd : decide (abF (3, tab, l, u0)) = decide (tab = [] ∧ ab6 l) := decide_eq_decide.2 ⟨fun h => by
   rcases h with h | h | h
   ·exact absurd h.1 (by decide : ¬ (3 : Int) = 1)
   ·exact absurd h.1 (by decide : ¬ (3 : Int) = 2)
   ·exact h.2, fun h => Or.inr (Or.inr ⟨rfl, h⟩)⟩
  rw [hd]
  refine uT rfl (uO (0, 0, ()) rfl ?_)
  refine aaL (fun i : Int × Int × Unit => ∃ k : Nat, k ≤ l.length ∧ i.1 = (k : Int) ∧ (aEV 0 l ↔ aEV i.2.1 (l.drop k))) (fun i => ((l.length : Int) - i.1).toNat) (fun _ => (decide (tab = [] ∧ ab6 l), ())) ?_ _ ⟨0, by omega, rfl, Iff.rfl⟩
  rintro ⟨i, last, u⟩ ⟨k, h3, h4, h6⟩
  dsimp only at h4 h6
  subst h4
  simp only [au3, aaM]
  rcases zr k l.length with hk | hk
  ·have e : l.getD k zs = l[k] := by simp [hk]
   rw [yo hk, aHZ] at h6
   have hv : ah4 (((l.getD k zs).1, (l.getD k zs).2.1, (l.getD k zs).2.2.1, (l.getD k zs).2.2.2.1, (l.getD k zs).2.2.2.2.1, (l.getD k zs).2.2.2.2.2.1, ()), ()) = some (decide (aeM l[k]), ()) := by
    rw [← e]; rfl
   by_cases c : aeM l[k]
   ·by_cases c2 : last < l[k].1
    ·left
     refine ⟨(((k + 1 : Nat) : Int), l[k].1, ()), ?_, ⟨k + 1, by omega, rfl, ⟨fun h => (h6.1 h).2, fun h => h6.2 ⟨⟨c, c2⟩, h⟩⟩⟩, by dsimp only; omega, ze⟩
     refine uT sd (uN sd (uC _ hv (uF (by rw [zo c]; rfl) (uF (zn (by rw [e]; omega)) ?_))))
     rw [aaA (x := (k : Int) + 1) zc, e]
     rfl
    ·right
     rw [zn (fun h : tab = [] ∧ ab6 l => c2 (h6.1 ((ak2 _ _).2 h.2.2.2)).1.2)]
     exact uT sd (uN sd (uC _ hv (uF (by rw [zo c]; rfl) (uT (zo (by rw [e]; omega)) rfl))))
   ·right
    rw [zn (fun h : tab = [] ∧ ab6 l => c (h6.1 ((ak2 _ _).2 h.2.2.2)).1.1)]
    exact uT sd (uN sd (uC _ hv (uT (by rw [zn c]; rfl) rfl)))
  ·right
   have hkl : k = l.length := zc
   subst hkl
   rw [List.drop_length] at h6
   have h7 : agA 0 l ↔ last = 1000000 := by rw [← ak2]; exact h6
   refine uF sd (uC _ (ac2 _ _ _) ?_)
   by_cases c1 : inR (len l) 1 4
   ·refine uT (zo c1) ?_
    by_cases c2 : last = 1000000
    ·refine uT (zV.2 c2) ?_
     have hs : ab6 l := ⟨by have := c1.1; rw [aaB] at this; omega, by have := c1.2; rw [aaB] at this; omega, h7.2 c2⟩
     rw [aaH, ajY]
     by_cases c3 : tab = []
     ·rw [zo c3, zo (show tab = [] ∧ ab6 l from ⟨c3, hs⟩)]
     ·rw [zn c3, zn (fun h : tab = [] ∧ ab6 l => c3 h.1)]
    ·refine uF (beq_eq_false_iff_ne.2 c2) ?_
     rw [aaH, zn (fun h : tab = [] ∧ ab6 l => c2 (h7.1 h.2.2.2))]
   ·refine uF (zn c1) ?_
    rw [aaH, zn (fun h : tab = [] ∧ ab6 l => c1 ⟨by have := h.2.1; rw [aaB]; omega, by have := h.2.2.1; rw [aaB]; omega⟩)]
 ·refine uF (beq_eq_false_iff_ne.2 k3) ?_
  rw [aaH, zn (fun h : abF (kind, tab, l, u0) => by
   rcases h with h | h | h
   ·exact k1 h.1
   ·exact k2 h.1
   ·exact k3 h.1)]
theorem aCK (c : CvT) (y) (h : ajA (c, ()) = some y) : (aq0 c).toO = some y := by
 unfold ajA at h
 split at h
 case isFalse => cases h
 case isTrue hp =>
 injection h with h
 subst h
 obtain ⟨kind, tab, l, u0⟩ := c
 unfold aq0
 dsimp only
 refine uC _ (asJ (c := (kind, tab, l, ())) hp) ?_
 by_cases hr : abF (kind, tab, l, ())
 case neg =>
  rw [zn (fun h : aAe (kind, tab, l, u0) => hr h.1)]
  exact uT (by rw [zn hr]; rfl) rfl
 have hlen : l.length ≤ 4 := by
  rcases hr with h | h | h
  ·rw [show l = [] from h.2.2]; simp
  ·rw [show l = [] from h.2.2]; simp
  ·exact h.2.2.2.1
 have hd : decide (aAe (kind, tab, l, u0)) = decide (∀ s ∈ l, s.2.2.2.2.1 = 1) := decide_eq_decide.2 ⟨fun h => h.2, fun h => ⟨hr, h⟩⟩
 rw [hd]
 refine uF (by rw [zo hr]; rfl) (uO (0, ()) rfl ?_)
 refine aaL (fun i : Int × Unit => ∃ k : Nat, k ≤ l.length ∧ i.1 = (k : Int) ∧ ∀ s ∈ l.take k, s.2.2.2.2.1 = 1) (fun i => ((l.length : Int) - i.1).toNat) (fun _ => (decide (∀ s ∈ l, s.2.2.2.2.1 = 1), ())) ?_ _ ⟨0, by omega, rfl, by simp⟩
 rintro ⟨i, u⟩ ⟨k, h1, h2, h3⟩
 dsimp only at h2
 subst h2
 simp only [au5, aaM]
 rcases zr k l.length with hk | hk
 ·have e : l.getD k zs = l[k] := by simp [hk]
  by_cases c : l[k].2.2.2.2.1 = 1
  ·left
   refine ⟨(((k + 1 : Nat) : Int), ()), ?_, ⟨k + 1, by omega, rfl, ?_⟩, by dsimp only; omega, ze⟩
   ·refine uT sd (uN sd (uF ?_ ?_))
    ·rw [e, c]; rfl
    ·rw [aaA (x := (k : Int) + 1) zc]
     rfl
   ·intro s hs
    rw [zO hk] at hs
    rcases zH.1 hs with hs | hs
    ·exact h3 s hs
    ·rw [zX.1 hs]; exact c
  ·right
   rw [zn (fun h : ∀ s ∈ l, s.2.2.2.2.1 = 1 => c (h _ (ym hk)))]
   refine uT sd (uN sd (uT ?_ rfl))
   rw [e]; simpa using c
 ·right
  rw [zu hk] at h3
  rw [zo h3]
  exact uF sd rfl
theorem aCI (c : CvT) (y) (h : ai9 (c, ()) = some y) : (aqY c).toO = some y := by
 unfold ai9 at h
 split at h
 case isFalse => cases h
 case isTrue hp =>
 injection h with h
 subst h
 obtain ⟨kind, tab, l, u0⟩ := c
 unfold aqY
 dsimp only
 refine uC _ (asJ (c := (kind, tab, l, ())) hp) ?_
 by_cases hr : abF (kind, tab, l, ())
 case neg =>
  have hr' : ¬ abF (kind, tab, l, u0) := hr
  rw [if_neg hr']
  exact uT (by rw [zn hr]; rfl) rfl
 have hr' : abF (kind, tab, l, u0) := hr
 rw [if_pos hr']
 obtain ⟨hl1, hl2⟩ := azD hr
 dsimp only at hl1 hl2
 refine uF (by rw [zo hr]; rfl) ?_
 by_cases k3 : kind = 3
 ·obtain ⟨g1, g2⟩ := hl2 k3
  unfold ay5
  dsimp only
  rw [if_pos k3]
  refine uT (zV.2 k3) ?_
  have hg : gi l 0 zs = l.getD 0 zs := aaM l 0 zs
  rw [hg]
  by_cases g3 : l.length > 1
  ·rw [if_pos g3]
   exact uT (zo (by rw [aaB]; omega)) rfl
  ·rw [if_neg g3]
   refine uF (zn (by rw [aaB]; omega)) (uN ⟨by exact sn, by exact sn⟩ ?_)
   by_cases g4 : (l.getD 0 zs).2.1 < 0
   ·rw [if_pos g4]; exact uT (zo g4) rfl
   ·rw [if_neg g4]; exact uF (zn g4) rfl
 refine uF (beq_eq_false_iff_ne.2 k3) (uO (1, false, false, ()) rfl ?_)
 refine aaL (fun i : Int × Bool × Bool × Unit => ∃ j : Nat, j ≤ tab.length - 1 ∧ i.1 = (j : Int) + 1 ∧ i.2.1 = aoA tab j ∧ i.2.2.1 = ak3 tab j) (fun i => ((tab.length : Int) - i.1).toNat) (fun _ => (ay5 (kind, tab, l, u0), 0, ())) ?_ _ ⟨0, by omega, rfl, rfl, rfl⟩
 rintro ⟨i, dn, up, u⟩ ⟨j, h1, h2, h3, h4⟩
 dsimp only at h2 h3 h4
 subst h2
 simp only [au1]
 have hw1 : w64 ((j : Int) + 1 + 1) = (((j + 1 : Nat) : Int)) + 1 := by rw [aaA zc]; omega
 have hw2 : w64 ((j : Int) + 1 - 1) = (j : Int) := by rw [aaA zc]; omega
 have hj1 : (j : Int) + 1 = ((j + 1 : Nat) : Int) := rfl
 rcases zr (j + 1) tab.length with hk | hk
 ·left
  refine ⟨((((j + 1 : Nat) : Int)) + 1, aoA tab (j + 1), ak3 tab (j + 1), ()), ?_, ⟨j + 1, by omega, rfl, rfl, rfl⟩, by dsimp only; omega, ze⟩
  refine uT sd ?_
  rw [hw1, hw2, hj1, atB, asS, ← h3, ← h4]
  simp only [aaM]
  cases up
  ·refine uF rfl (uN ⟨by exact sn, by exact sn⟩ (uN ⟨by exact sn, by exact sn⟩ ?_))
   cases dn
   ·exact uF rfl (uN ⟨by exact sn, by exact sn⟩ (uN ⟨by exact sn, by exact sn⟩ rfl))
   ·exact uT rfl rfl
  ·refine uT rfl ?_
   cases dn
   ·exact uF rfl (uN ⟨by exact sn, by exact sn⟩ (uN ⟨by exact sn, by exact sn⟩ rfl))
   ·exact uT rfl rfl
 ·right
  refine uF sd ?_
  have hj : j = tab.length - 1 := zc
  subst hj
  have h3' : dn = aLU tab := h3
  have h4' : up = aKp tab := h4
  unfold ay5
  dsimp only
  rw [if_neg k3, h3', h4']
  cases aLU tab
  ·exact uT rfl rfl
  ·refine uF rfl ?_
   cases aKp tab
   ·exact uT rfl rfl
   ·exact uF rfl rfl
theorem alH {α : Type} {d : α} {a b : List α} (hl : a.length = b.length) (h : ∀ j, j < a.length → a.getD j d = b.getD j d) : a = b := by
 refine List.ext_getElem hl (fun i h1 h2 => ?_)
 have := h i h1
 simpa [h1, h2] using this
theorem aQL {a b : adS} : a = b ↔ a.1 = b.1 ∧ a.2.1 = b.2.1 ∧ a.2.2.1 = b.2.2.1 ∧ a.2.2.2.1 = b.2.2.2.1 ∧ a.2.2.2.2.1 = b.2.2.2.2.1 ∧ a.2.2.2.2.2.1 = b.2.2.2.2.2.1 := by
 obtain ⟨a1, a2, a3, a4, a5, a6, a7⟩ := a
 obtain ⟨b1, b2, b3, b4, b5, b6, b7⟩ := b
 constructor
 ·intro h; cases h; exact ⟨rfl, rfl, rfl, rfl, rfl, rfl⟩
 ·rintro ⟨h1, h2, h3, h4, h5, h6⟩
  dsimp only at h1 h2 h3 h4 h5 h6
  subst h1 h2 h3 h4 h5 h6; rfl
theorem aE2 (a b : CvT) (y) (h : al3 (a, b, ()) = some y) : (au2 a b).toO = some y := by
 unfold al3 at h
 split at h
 case isFalse => cases h
 case isTrue hp =>
 injection h with h
 subst h
 obtain ⟨k1, t1, s1, u1⟩ := a
 obtain ⟨k2, t2, s2, u2⟩ := b
 obtain ⟨p1, p2⟩ := hp
 dsimp only at p1 p2 ⊢
 unfold au2
 dsimp only
 by_cases c1 : k1 = k2
 case neg =>
  rw [abQ (fun h => c1 (by injection h with h _))]
  exact uR _ (uT (by simpa using c1) rfl)
 by_cases c2 : t1.length = t2.length
 case neg =>
  rw [abQ (fun h => c2 (by injection h with _ h; injection h with h _; rw [h]))]
  exact uR _ (uF (by simpa using c1) (uT (by simp only [aaB, xh]; omega) rfl))
 by_cases c3 : s1.length = s2.length
 case neg =>
  rw [abQ (fun h => c3 (by injection h with _ h; injection h with _ h; injection h with h _; rw [h]))]
  exact uR _ (uF (by simpa using c1) (uF (by simp only [aaB, bne_eq_false_iff_eq]; omega) (uT (by simp only [aaB, xh]; omega) rfl)))
 refine uL (false, ()) (uF (by simpa using c1) (uF (by simp only [aaB, bne_eq_false_iff_eq]; omega) (uF (by simp only [aaB, bne_eq_false_iff_eq]; omega) rfl))) ?_
 unfold azI
 refine uO (0, ()) rfl ?_
 refine aaL (fun i : Int × Unit => ∃ k : Nat, k ≤ t1.length ∧ i.1 = (k : Int) ∧ ∀ j, j < k → t1.getD j 0 = t2.getD j 0) (fun i => ((t1.length : Int) - i.1).toNat) (fun _ => (eqb (k1, t1, s1, u1) (k2, t2, s2, u2), ())) ?_ _ ⟨0, by omega, rfl, fun j hj => by omega⟩
 rintro ⟨i, u⟩ ⟨k, h1, h2, h3⟩
 dsimp only at h2
 subst h2
 simp only [azH, aaM]
 rcases zr k t1.length with hk | hk
 ·by_cases c : t1.getD k 0 = t2.getD k 0
  ·left
   refine ⟨(((k + 1 : Nat) : Int), ()), ?_, ⟨k + 1, by omega, rfl, fun j hj => ?_⟩, by dsimp only; omega, ze⟩
   ·refine uT sd (uN sd (uN sd (uF (by rw [c]; simp) ?_)))
    rw [aaA (x := (k : Int) + 1) zc]; rfl
   ·rcases zr j k with g | g
    ·exact h3 j g
    ·obtain rfl : j = k := zc
     exact c
  ·right
   rw [abQ (fun h => c (by injection h with _ h; injection h with h _; rw [h]))]
   exact uT sd (uN sd (uN sd (uT (by simpa using c) rfl)))
 ·right
  obtain rfl : k = t1.length := zc
  have ht : t1 = t2 := alH c2 h3
  refine uF sd (uO (0, ()) rfl ?_)
  refine aaL (fun i : Int × Unit => ∃ k : Nat, k ≤ s1.length ∧ i.1 = (k : Int) ∧ ∀ j, j < k → s1.getD j zs = s2.getD j zs) (fun i => ((s1.length : Int) - i.1).toNat) (fun _ => Sum.inr (eqb (k1, t1, s1, u1) (k2, t2, s2, u2), ())) ?_ _ ⟨0, by omega, rfl, fun j hj => by omega⟩
  rintro ⟨i, u⟩ ⟨k, h1, h2, h3⟩
  dsimp only at h2
  subst h2
  simp only [azG, aaM]
  rcases zr k s1.length with hk | hk
  ·by_cases c : s1.getD k zs = s2.getD k zs
   ·left
    refine ⟨(((k + 1 : Nat) : Int), ()), ?_, ⟨k + 1, by omega, rfl, fun j hj => ?_⟩, by dsimp only; omega, ze⟩
    ·refine uT sd (uN sd (uN sd (uF (by rw [c]; simp) ?_)))
     rw [aaA (x := (k : Int) + 1) zc]; rfl
    ·rcases zr j k with g | g
     ·exact h3 j g
     ·obtain rfl : j = k := zc
      exact c
   ·right
    rw [abQ (fun h => c (by injection h with _ h; injection h with _ h; injection h with h _; rw [h]))]
    refine uT sd (uN sd (uN sd (uT ?_ rfl)))
    rw [aQL] at c
    generalize s1.getD k zs = x at c
    generalize s2.getD k zs = z at c
    obtain ⟨x1, x2, x3, x4, x5, x6, x7⟩ := x
    obtain ⟨z1, z2, z3, z4, z5, z6, z7⟩ := z
    dsimp only at c ⊢
    rw [zU]
    split
    ·rename_i e1
     split
     ·rename_i e2
      split
      ·rename_i e3
       split
       ·rename_i e4
        split
        ·rename_i e5
         split
         ·rename_i e6
          exact absurd ⟨zV.1 e1, zV.1 e2, zV.1 e3, zV.1 e4, zV.1 e5, zV.1 e6⟩ c
         ·rfl
        ·rfl
       ·rfl
      ·rfl
     ·rfl
    ·rfl
  ·right
   obtain rfl : k = s1.length := zc
   have hs : s1 = s2 := alH c3 h3
   refine uF sd ?_
   rw [aaH, ahZ (by rw [c1, ht, hs])]
set_option maxRecDepth 100000
open Go Go.Vg Go.Proofs
noncomputable section
def aMn : LTab := []
def awL (p : vY × Int × Bool × Unit) (x : List UInt8 × List UInt8 × Unit) : TT ut :=
 .call (aaF (p.1.2.1, ())) afF fun y =>
 .call (ad4 (y.1, (x.1, x.2.1, ()), ())) af6 fun y1 =>
 .ite (y1.2.1 != 0)
 (.ok (((#[].toList, #[].toList, ()), y1.2.1, ())))
 (.call (aaF (p.1.2.2.1, ())) afF fun y2 =>
 .call (aeH ((y1.1.1, y1.1.2.1, ()), y2.1, ())) af6 fun y3 =>
 .ite (y3.2.1 != 0)
 (.ok (((#[].toList, #[].toList, ()), y3.2.1, ())))
 (.call (aaF (1000000, ())) afF fun y4 =>
 .call (afC ((y3.1.1, y3.1.2.1, ()), y4.1, ())) af6 fun y5 =>
 .ok (((y5.1.1, y5.1.2.1, ()), y5.2.1, ()))))
def aBX : LTab := []
def apR (c : ua × Unit) (x : List UInt8 × List UInt8 × Unit) : TT ut :=
 .ok (((x.1, x.2.1, ()), 0, ()))
def aD6 : LTab := [(47, 27, 5120, ⟨0, (Int) × (Int) × (Int) × (Int) × (Int) × (Int) × (Int) × (Bool) × Unit, .dat (.c 4 0) vZ <| .dat (.c 4 1) vZ <| .dat (.c 4 2) vZ <| .dat (.c 4 3) vZ <| .dat (.c 4 4) vZ <| .dat (.c 4 5) vZ <| .dat (.c 4 6) vZ <| .dat (.c 4 7) tw <| .nil, [6, 5, 4, 3], [4, 2, 1, 0], 0⟩), (128, 14, 17408, ⟨1, (Int) × (Int) × (Int) × (Int) × (Int) × (Int) × (Int) × (Int) × (Int) × (Bool) × Unit, .dat (.s 9) vZ <| .dat (.s 3) vZ <| .dat (.c 4 0) vZ <| .dat (.c 4 1) vZ <| .dat (.c 4 2) vZ <| .dat (.c 4 3) vZ <| .dat (.c 4 4) vZ <| .dat (.c 4 5) vZ <| .dat (.c 4 6) vZ <| .dat (.c 4 7) tw <| .nil, [8, 7, 0], [11, 7, 4, 2, 1, 0], 0⟩), (47, 447, 19456, ⟨2, (List UInt8) × (List UInt8) × Unit, .dat (.c 15 0) (Ty.str) <| .dat (.c 15 1) (Ty.str) <| .nil, [10, 6, 5, 4], [15, 4, 2, 1, 0], 0⟩), (47, 28666, 28672, ⟨3, (Int) × (List UInt8) × (List UInt8) × Unit, .dat (.s 62) vZ <| .dat (.c 20 0) (Ty.str) <| .dat (.c 20 1) (Ty.str) <| .nil, [61, 15, 14, 6, 4], [20, 15, 4, 2, 1, 0], 0⟩)]
def apU (c : ua × Unit) (x : List UInt8 × List UInt8 × Unit) (i : (Int) × (Int) × (Int) × (Int) × (Int) × (Int) × (Int) × (Int) × (Int) × (Bool) × Unit) : TT (((Int) × (Int) × (Int) × (Int) × (Int) × (Int) × (Int) × (Int) × (Int) × (Bool) × Unit) ⊕ (((Int) × (Int) × (Int) × (Int) × (Int) × (Int) × (Int) × (Bool) × Unit) ⊕ ut)) :=
 .ite (decide (i.1 < len c.1.2.2.1))
 (.need (inb i.1 (len c.1.2.2.1)) <| .call (abW ((gi c.1.2.2.1 i.1 (0, 0, 0, 0, 0, 0, ())).1, 1000000, ())) afF fun y =>
 .call (ahL ((x.1, x.2.1, ()), y.1, ())) aCj fun y1 =>
 .ite (decide (y1.1 ≤ 0))
 (.tt <| .lt ((gi c.1.2.2.1 i.1 (0, 0, 0, 0, 0, 0, ())).1 : Int) fun z => .lt ((gi c.1.2.2.1 i.1 (0, 0, 0, 0, 0, 0, ())).2.1 : Int) fun z1 => .lt ((gi c.1.2.2.1 i.1 (0, 0, 0, 0, 0, 0, ())).2.2.1 : Int) fun z2 => .lt ((gi c.1.2.2.1 i.1 (0, 0, 0, 0, 0, 0, ())).2.2.2.1 : Int) fun z3 => .lt ((gi c.1.2.2.1 i.1 (0, 0, 0, 0, 0, 0, ())).2.2.2.2.1 : Int) fun z4 => .lt ((gi c.1.2.2.1 i.1 (0, 0, 0, 0, 0, 0, ())).2.2.2.2.2.1 : Int) fun z5 => .lt (i.2.1 : Int) fun z6 => .lt (i.1 == 0 : Bool) fun z7 => .vI (uK ∧ (vJ (0 : Int) <| uv ∧ uh ∧ True)) <| .vI (vH (vS 122 z z1 z2 z3 z4 z5 z6 <| vR z7) <| vH (vL 36 (#[].toList : List UInt8) (#[].toList : List UInt8)) <| vH (vL 36 x.1 x.2.1) <| vH (vK 96 c.1.1 c.1.2.1 c.1.2.2.1) True) <| .ok (.inr (.inl ((z, z1, z2, z3, z4, z5, z6, z7, ())))))
 (.tt <| .lt (w64 (i.1 + 1) : Int) fun z8 => .lt ((gi c.1.2.2.1 i.1 (0, 0, 0, 0, 0, 0, ())).1 : Int) fun z9 => .lt ((gi c.1.2.2.1 i.1 (0, 0, 0, 0, 0, 0, ())).2.1 : Int) fun z10 => .lt ((gi c.1.2.2.1 i.1 (0, 0, 0, 0, 0, 0, ())).2.2.1 : Int) fun z11 => .lt ((gi c.1.2.2.1 i.1 (0, 0, 0, 0, 0, 0, ())).2.2.2.1 : Int) fun z12 => .lt ((gi c.1.2.2.1 i.1 (0, 0, 0, 0, 0, 0, ())).2.2.2.2.1 : Int) fun z13 => .lt ((gi c.1.2.2.1 i.1 (0, 0, 0, 0, 0, 0, ())).2.2.2.2.2.1 : Int) fun z14 => .lt (i.2.1 : Int) fun z15 => .lt (i.1 == 0 : Bool) fun z16 => .vI (vQ z9 z8 (len c.1.2.2.1) c.1.2.2.1 <| tj ∧ True) <| .vI (vH (vX (LoopState.ready : LoopState) (none : Option Code) 86 (#[20] : Array Tmp) (akU (acI Tryz.f47) [1, 0, 1, 1, 0, 1, 0, 0]) (akU (acI Tryz.f47) [1, 0, 1, 1, 0, 1, 0, 1]) <| (vJ (128 : FuncId) <| True ∧ tk ∧ True) ∧ (vJ ((c.1.1, c.1.2.1, c.1.2.2.1, ()) : Int × List Int × List vY × Unit) <| ue ∧ (uK ∧ (vJ (0 : Int) <| uv ∧ uh ∧ ue ∧ vU c x)))) <| vH (vK 42 c.1.1 c.1.2.1 c.1.2.2.1) <| vH (vS 122 z9 z10 z11 z12 z13 z14 z15 <| vR z16) <| vH (vL 36 (#[].toList : List UInt8) (#[].toList : List UInt8)) <| vH (vL 36 x.1 x.2.1) <| vH (vK 96 c.1.1 c.1.2.1 c.1.2.2.1) True) <| .ok (.inl ((z8, z9, z9, z10, z11, z12, z13, z14, z15, z16, ())))))
 (.tt <| .lt (i.2.2.1 : Int) fun z17 => .lt (i.2.2.2.1 : Int) fun z18 => .lt (i.2.2.2.2.1 : Int) fun z19 => .lt (i.2.2.2.2.2.1 : Int) fun z20 => .lt (i.2.2.2.2.2.2.1 : Int) fun z21 => .lt (i.2.2.2.2.2.2.2.1 : Int) fun z22 => .lt (i.2.2.2.2.2.2.2.2.1 : Int) fun z23 => .lt (i.2.2.2.2.2.2.2.2.2.1 : Bool) fun z24 => .vI (uK ∧ (vJ (0 : Int) <| uv ∧ uh ∧ True)) <| .vI (vH (vS 122 z17 z18 z19 z20 z21 z22 z23 <| vR z24) <| vH (vL 36 (#[].toList : List UInt8) (#[].toList : List UInt8)) <| vH (vL 36 x.1 x.2.1) <| vH (vK 96 c.1.1 c.1.2.1 c.1.2.2.1) True) <| .ok (.inr (.inl ((z17, z18, z19, z20, z21, z22, z23, z24, ())))))
def akB (c : ua × Unit) (x : List UInt8 × List UInt8 × Unit) (j : Int × Int × Int × Int × Int × Int × Int × Bool × Unit) (y2 : ub × Int × Unit) (j1 : List UInt8 × List UInt8 × Unit) (i1 : (Int) × (List UInt8) × (List UInt8) × Unit) : TT (((Int) × (List UInt8) × (List UInt8) × Unit) ⊕ ut) :=
 .ite (decide (i1.1 < w64 (j.2.2.2.1 - 1)))
 (.tt <| .tt <| .call (ad4 ((i1.2.1, i1.2.2.1, ()), (j1.1, j1.2.1, ()), ())) af6 fun y5 =>
 .ite (y5.2.1 != 0)
 (.ok (.inr (((#[].toList, #[].toList, ()), y5.2.1, ()))))
 (.tt <| .lt (w64 (i1.1 + 1) : Int) fun z30 => .lt (y5.1.1 : List UInt8) fun z31 => .lt (y5.1.2.1 : List UInt8) fun z32 => .vI (vP z30 (w64 (j.2.2.2.1 - 1)) <| (vJ (103 : FuncId) <| True ∧ (vW 20 0 true) ∧ (vW 15 0 true) ∧ True) ∧ (vW 20 0 true) ∧ uK ∧ uv ∧ True) <| .vI (vH (vL 36 z31 z32) <| vH (vL 36 j1.1 j1.2.1) <| vH (vS 122 j.1 j.2.1 j.2.2.1 j.2.2.2.1 j.2.2.2.2.1 j.2.2.2.2.2.1 j.2.2.2.2.2.2.1 <| vR j.2.2.2.2.2.2.2.1) <| vH (vL 36 (#[].toList : List UInt8) (#[].toList : List UInt8)) <| vH (vL 36 x.1 x.2.1) <| vH (vK 96 c.1.1 c.1.2.1 c.1.2.2.1) True) <| .ok (.inl ((z30, z31, z32, ())))))
 (.call (abW (j.2.2.2.2.2.1, 1000000, ())) afF fun y6 =>
 .call (aeH ((i1.2.1, i1.2.2.1, ()), y6.1, ())) af6 fun y7 =>
 .ite (y7.2.1 != 0)
 (.ok (.inr (((#[].toList, #[].toList, ()), y7.2.1, ()))))
 (.call (acY ((y7.1.1, y7.1.2.1, ()), ())) afF fun y8 =>
 .ok (.inr (((y8.1.1, y8.1.2.1, ()), 0, ())))))
def apS (c : ua × Unit) (x : List UInt8 × List UInt8 × Unit) (j : Int × Int × Int × Int × Int × Int × Int × Bool × Unit) (y2 : ub × Int × Unit) (j1 : (List UInt8) × (List UInt8) × Unit) : TT ut :=
 .loop 3 (.tt <| .lt (j1.2.1 : List UInt8) fun z29 => .vI (vP (0 : Int) (w64 (j.2.2.2.1 - 1)) <| (vJ (103 : FuncId) <| True ∧ (vW 20 0 true) ∧ (vW 15 0 true) ∧ True) ∧ (vW 20 0 true) ∧ uK ∧ uv ∧ True) <| .vI (vH (vL 36 j1.1 z29) <| vH (vL 36 j1.1 z29) <| vH (vS 122 j.1 j.2.1 j.2.2.1 j.2.2.2.1 j.2.2.2.2.1 j.2.2.2.2.2.1 j.2.2.2.2.2.2.1 <| vR j.2.2.2.2.2.2.2.1) <| vH (vL 36 (#[].toList : List UInt8) (#[].toList : List UInt8)) <| vH (vL 36 x.1 x.2.1) <| vH (vK 96 c.1.1 c.1.2.1 c.1.2.2.1) True) <| .ok ((0, j1.1, z29, ()))) (akB c x j y2 j1)
def apT (c : ua × Unit) (x : List UInt8 × List UInt8 × Unit) (j : (Int) × (Int) × (Int) × (Int) × (Int) × (Int) × (Int) × (Bool) × Unit) : TT ut :=
 .ite (j.2.2.2.2.1 != 1)
 (.ok (((#[].toList, #[].toList, ()), 5, ())))
 (.call (ajM (((j.1, j.2.1, j.2.2.1, j.2.2.2.1, j.2.2.2.2.1, j.2.2.2.2.2.1, ()), j.2.2.2.2.2.2.1, j.2.2.2.2.2.2.2.1, ()), (x.1, x.2.1, ()), ())) af6 fun y2 =>
 .ite (y2.2.1 != 0)
 (.ok (((#[].toList, #[].toList, ()), y2.2.1, ())))
 (.join 2 (ι := (List UInt8) × (List UInt8) × Unit) (.call (aqE ((y2.1.1, y2.1.2.1, ()), ())) aCj fun y3 =>
 .ite (decide (y3.1 < 0))
 (.call (aaF (0, ())) afF fun y4 =>
 .tt <| .lt (y4.1.1 : List UInt8) fun z25 => .lt (y4.1.2.1 : List UInt8) fun z26 => .vI tG <| .vI (vH (vL 36 z25 z26) <| vH (vS 122 j.1 j.2.1 j.2.2.1 j.2.2.2.1 j.2.2.2.2.1 j.2.2.2.2.2.1 j.2.2.2.2.2.2.1 <| vR j.2.2.2.2.2.2.2.1) <| vH (vL 36 (#[].toList : List UInt8) (#[].toList : List UInt8)) <| vH (vL 36 x.1 x.2.1) <| vH (vK 96 c.1.1 c.1.2.1 c.1.2.2.1) True) <| .ok (.inl ((z25, z26, ()))))
 (.tt <| .lt (y2.1.1 : List UInt8) fun z27 => .lt (y2.1.2.1 : List UInt8) fun z28 => .vI tG <| .vI (vH (vL 36 z27 z28) <| vH (vS 122 j.1 j.2.1 j.2.2.1 j.2.2.2.1 j.2.2.2.2.1 j.2.2.2.2.2.1 j.2.2.2.2.2.2.1 <| vR j.2.2.2.2.2.2.2.1) <| vH (vL 36 (#[].toList : List UInt8) (#[].toList : List UInt8)) <| vH (vL 36 x.1 x.2.1) <| vH (vK 96 c.1.1 c.1.2.1 c.1.2.2.1) True) <| .ok (.inl ((z27, z28, ()))))) (apS c x j y2)))
def alU (c : ua × Unit) (x : List UInt8 × List UInt8 × Unit) : TT ut :=
 .join 0 (ι := (Int) × (Int) × (Int) × (Int) × (Int) × (Int) × (Int) × (Bool) × Unit) (.tt <| .tt <| .tt <| .tt <| .loop 1 (.tt <| .vI (vQ (0 : Int) (0 : Int) (len c.1.2.2.1) c.1.2.2.1 <| tj ∧ True) <| .vI (vH (vX (LoopState.ready : LoopState) (none : Option Code) 86 (#[20] : Array Tmp) (akU (acI Tryz.f47) [1, 0, 1, 1, 0, 1, 0, 0]) (akU (acI Tryz.f47) [1, 0, 1, 1, 0, 1, 0, 1]) <| (vJ (128 : FuncId) <| True ∧ tk ∧ True) ∧ (vJ ((c.1.1, c.1.2.1, c.1.2.2.1, ()) : Int × List Int × List vY × Unit) <| ue ∧ (uK ∧ (vJ (0 : Int) <| uv ∧ uh ∧ ue ∧ vU c x)))) <| vH (vK 42 c.1.1 c.1.2.1 c.1.2.2.1) <| vH (vS 122 (0 : Int) (0 : Int) (0 : Int) (0 : Int) (0 : Int) (0 : Int) (0 : Int) <| vR false) <| vH (vL 36 (#[].toList : List UInt8) (#[].toList : List UInt8)) <| vH (vL 36 x.1 x.2.1) <| vH (vK 96 c.1.1 c.1.2.1 c.1.2.2.1) True) <| .ok ((0, 0, 0, 0, 0, 0, 0, 0, 0, false, ()))) (apU c x)) (apT c x)
def aOS : LTab := []
def aB2 (c : Int × List Int × List vY × Unit) (x : List UInt8 × List UInt8 × Unit) : TT ut :=
 .call (ac8 ((c.1, c.2.1, c.2.2.1, ()), ())) Dd6 fun y =>
 .ite (y.1 != 0)
 (.ok (((#[].toList, #[].toList, ()), y.1, ())))
 (.call (aqG ((x.1, x.2.1, ()), ())) Dd6 fun y1 =>
 .ite (y1.1 != 0)
 (.ok (((#[].toList, #[].toList, ()), y1.1, ())))
 (.need (inb (w64 (c.1 - 1)) (↑3 : Int)) <| .ite (w64 (c.1 - 1) == (↑2 : Int))
 (.call (acY ((x.1, x.2.1, ()), ())) afF fun y2 =>
 .call (ah7 (((c.1, c.2.1, c.2.2.1, ()), ()), y2.1, ())) af6 fun y3 =>
 .ok (((y3.1.1, y3.1.2.1, ()), y3.2.1, ())))
 (.ite (w64 (c.1 - 1) == (↑1 : Int))
 (.call (acY ((x.1, x.2.1, ()), ())) afF fun y4 =>
 .call (afV (((c.1, c.2.1, c.2.2.1, ()), ()), y4.1, ())) af6 fun y5 =>
 .ok (((y5.1.1, y5.1.2.1, ()), y5.2.1, ())))
 (.ite (w64 (c.1 - 1) == (↑0 : Int))
 (.call (acY ((x.1, x.2.1, ()), ())) afF fun y6 =>
 .call (agU (((c.1, c.2.1, c.2.2.1, ()), ()), y6.1, ())) af6 fun y7 =>
 .ok (((y7.1.1, y7.1.2.1, ()), y7.2.1, ())))
 (.bad)))))
end
theorem at2 (q : Rat) : wrF q = ax5 (acV q) := by
 unfold wrF acV
 by_cases c : aeI q
 ·rw [if_pos c, if_pos c]; rfl
 ·rw [if_neg c, if_neg c]; rfl
theorem aeU {q p : Rat} (h : acV q = some p) : aeI p ∧ p = q := by
 unfold acV at h
 split at h
 ·injection h with h; subst h; exact ⟨by assumption, rfl⟩
 ·cases h
theorem aqN {p q : Rat} (h1 : aeI p) (h2 : aeI q) : ad4 (fx p, fx q, ()) = some (ax5 (acV (p * q))) := by
 unfold ad4 aNZ; dsimp only; rw [agB h1, agB h2, ← at2]
theorem aCg {p q : Rat} (h1 : aeI p) (h2 : aeI q) : aeH (fx p, fx q, ()) = some (ax5 (acV (p + q))) := by
 unfold aeH aNZ; dsimp only; rw [agB h1, agB h2, ← at2]
theorem aO2 {p q : Rat} (h1 : aeI p) (h2 : aeI q) : afT (fx p, fx q, ()) = some (ax5 (acV (p - q))) := by
 unfold afT aNZ; dsimp only; rw [agB h1, agB h2, ← at2]
theorem aHC {p q : Rat} (h1 : aeI p) (h2 : aeI q) (h3 : q ≠ 0) : afC (fx p, fx q, ()) = some (ax5 (acV (p / q))) := by
 unfold afC; dsimp only; rw [agB h1, agB h2]; dsimp only; rw [if_neg h3, ← at2]
theorem aG9 {n : Int} (h : n ≠ 0) : mkRat n 1 ≠ 0 := by
 rw [ad5]; intro e; exact h (Rat.intCast_eq_zero_iff.1 e)
theorem an3 {n a b : Int} (h : inR n a b) (h1 : -9223372036854775808 ≤ a) (h2 : b ≤ 9223372036854775807) : abD n := ⟨by have := h.1; omega, by have := h.2; omega⟩
theorem aGb (p : PcT) (x : FxT) (y) (h : ajM (p, x, ()) = some y) : (awL p x).toO = some y := by
 obtain ⟨⟨p', q⟩, ⟨hq, hn⟩, hx, rfl⟩ := aaE h
 obtain ⟨rfl, hx2⟩ := Prod.mk.inj hx; obtain ⟨rfl, -⟩ := Prod.mk.inj hx2; dsimp only
 dsimp only at hq hn
 have im := an3 hn.1 zc zc
 have ia := an3 hn.2.1 zc zc
 have i6 : abD 1000000 := ⟨by omega, by omega⟩
 unfold awL
 unfold aBi
 refine uC _ (ab3 im) (uC _ (aqN (adW im) hq) ?_)
 cases h1 : acV (mkRat p.1.2.1 1 * q) with
 | none => exact uT rfl rfl
 | some u =>
  have hu := (aeU h1).1
  refine uF rfl (uC _ (ab3 ia) (uC _ (aCg hu (adW ia)) ?_))
  simp only [zY]
  cases h2 : acV (u + mkRat p.1.2.2.1 1) with
  | none => exact uT rfl rfl
  | some v =>
   have hv := (aeU h2).1
   exact uF rfl (uC _ (ab3 i6) (uC _ (aHC hv (adW i6) (aG9 zc)) rfl))
theorem aDM : aeI 0 := by have := adW (n := 0) ⟨by omega, by omega⟩; rwa [ad5] at this
theorem aRX : mkRat 0 1 = (0 : Rat) := by rw [ad5]; rfl
theorem aNP {u : Rat} (h : aeI u) : aeI (aJQ u) := by
 unfold aJQ; split
 ·exact aDM
 ·exact h
theorem amP {n : Int} (h : abD n) : aeI (mkRat n 1000000) := aeF zc (abG h) (abG ⟨by omega, by omega⟩)
theorem asR (u : Rat) : u.num.sign < 0 ↔ u < 0 := by
 have e : u < 0 ↔ u.num < 0 := by rw [← Rat.not_le, ← Rat.num_nonneg]; omega
 rw [e]
 constructor
 ·intro h
  rcases xB u.num 0 with g | g | g
  ·exact g
  ·rw [g] at h; exact absurd h zf
  ·rw [xJ g] at h; omega
 ·intro h; rw [xo h]; omega
noncomputable def aQB (off : Int) (y : Rat) : Option Rat := (acV (y + mkRat off 1000000)).map aeN
theorem anR : ∀ (l : List adS) (last : Int), agA last l → last ≠ 1000000 → ∃ s ∈ l, s.1 = 1000000
 | [], _, h, hn => absurd h hn
 | s :: r, last, h, _ => by
  by_cases c : s.1 = 1000000
  ·exact ⟨s, yc .., c⟩
  ·obtain ⟨t, ht, e⟩ := anR r s.1 h.2 c
   exact ⟨t, zN _ ht, e⟩
theorem aLo : mkRat 1000000 1000000 = (1 : Rat) := zf
theorem aNR {x : Rat} {l : List adS} (h : ab6 l) (hx : x ≤ 1) : afI x l < l.length := by
 obtain ⟨s, hs, e⟩ := anR l 0 h.2.2 zc
 exact List.findIdx_lt_length_of_exists ⟨s, hs, zo (by rw [e, aLo]; exact hx)⟩
theorem azA : ∀ (l : List adS) (last : Int), 0 ≤ last → agA last l → ∀ s ∈ l, aeM s ∧ inR s.1 0 1000000
 | [], _, _, _, s, hs => by cases hs
 | t :: r, last, h0, h, s, hs => by
  have a := h.1.2.1
  rcases zy.1 hs with e | e
  ·subst e; exact ⟨h.1.1, by omega, h.1.2.2⟩
  ·exact azA r t.1 zc h.2 s e
theorem ar4 (c : CvT × Unit) (x : FxT) (j : Int × Int × Int × Int × Int × Int × Int × Bool × Unit) (y2 : FxT × Int × Unit) (u : Rat) (hu : aeI u) (h1 : inR j.2.2.2.1 1 36) (io : abD j.2.2.2.2.2.1) :
  acW (fun i1 => (akB c x j y2 (fx u) i1).toO) (0, dec u.num, aa3 u.den, ()) = some (ax5 ((aeW u (j.2.2.2.1 - 1).toNat u).bind (aQB j.2.2.2.2.2.1))) := by
 obtain ⟨n, hn⟩ : ∃ n : Nat, j.2.2.2.1 - 1 = (n : Int) := zw (by have := h1.1; omega)
 have hn2 : n ≤ 35 := by have := h1.2; omega
 have hw : w64 (j.2.2.2.1 - 1) = (n : Int) := by rw [aaA zc]; exact hn
 rw [hn, zp]
 refine aaL (fun i : Int × List UInt8 × List UInt8 × Unit => ∃ (k : Nat) (q : Rat), k ≤ n ∧ i = ((k : Int), dec q.num, aa3 q.den, ()) ∧ aeI q ∧ aeW u n u = aeW u (n - k) q) (fun i => ((n : Int) - i.1).toNat) (fun _ => ax5 ((aeW u n u).bind (aQB j.2.2.2.2.2.1))) ?_ _ ⟨0, u, by omega, rfl, hu, rfl⟩
 rintro i ⟨k, q, k1, rfl, hq, k2⟩
 simp only [akB, hw]
 rcases zr k n with hk | hk
 ·obtain ⟨m, hm⟩ : ∃ m, n - k = m + 1 := ⟨n - k - 1, by omega⟩
  rw [hm, show aeW u (m + 1) q = (acV (q * u)).bind (aeW u m) from rfl] at k2
  cases h2 : acV (q * u) with
  | none =>
   right
   rw [h2] at k2
   rw [k2]
   exact uT sd (uC _ (aqN hq hu) (by rw [h2]; exact uT rfl rfl))
  | some w =>
   left
   rw [h2] at k2
   refine ⟨(((k + 1 : Nat) : Int), dec w.num, aa3 w.den, ()), ?_, ⟨k + 1, w, by omega, rfl, (aeU h2).1, ?_⟩, by dsimp only; omega, ze⟩
   ·refine uT sd (uC _ (aqN hq hu) ?_)
    rw [h2]
    refine uF rfl ?_
    rw [aaA (x := (k : Int) + 1) zc]
    rfl
   ·rw [k2, show n - (k + 1) = m by omega]; rfl
 ·right
  obtain rfl : k = n := zc
  rw [Nat.sub_self, show aeW u 0 q = some q from rfl] at k2
  rw [k2]
  refine uF sd (uC _ (afD (d := 1000000) io zc zc) (uC _ (aCg hq (amP io)) ?_))
  simp only [zY, aQB]
  cases h3 : acV (q + mkRat j.2.2.2.2.2.1 1000000) with
  | none => exact uT rfl rfl
  | some w => exact uF rfl (uC _ (agV (aeU h3).1) rfl)
theorem arP {l : List adS} {k : Nat} (hk : k < l.length) : l.getD k zs = l[k] := by simp [hk]
theorem aNT {x : Rat} {l : List adS} {k : Nat} (hk : k < l.length) (h1 : x ≤ mkRat (l.getD k zs).1 1000000) (h2 : ∀ j, j < k → ¬ x ≤ mkRat (l.getD j zs).1 1000000) : afI x l = k := by
 unfold afI
 refine (List.findIdx_eq hk).2 ⟨?_, fun j hj => ?_⟩
 ·rw [arP hk] at h1
  exact zo h1
 ·have := h2 j hj
  rw [arP (show j < l.length by omega)] at this
  exact zn this
theorem aNS {x : Rat} {l : List adS} {k : Nat} (h2 : ∀ j, j < k → ¬ x ≤ mkRat (l.getD j zs).1 1000000) (hp : afI x l < l.length) : k ≤ afI x l := by
 rcases zr (afI x l) k with h | h
 ·refine absurd ?_ (h2 _ h)
  have := List.findIdx_getElem (p := fun s : adS => decide (x ≤ mkRat s.1 1000000)) (xs := l) (w := hp)
  rw [arP hp]
  exact of_decide_eq_true this
 ·exact h
theorem aAW {l : List adS} (h : ab6 l) {k : Nat} (hk : k < l.length) : aeM (l.getD k zs) ∧ inR (l.getD k zs).1 0 1000000 := by
 refine azA l 0 zc h.2.2 _ ?_
 rw [arP hk]
 exact ym hk
theorem ax0 {p : PcT} {q : Rat} (h1 : aeI q) (h2 : aeM p.1) : ajM (p, fx q, ()) = some (ax5 (aBi p.1.2.1 p.1.2.2.1 q)) := aaK (enc := fun p : PcT × Rat => (p.1, fx p.2, ())) (p, q) ⟨h1, h2⟩ (fun b hb => by
 obtain ⟨e1, e2⟩ := Prod.mk.inj hb
 obtain ⟨e2, -⟩ := Prod.mk.inj e2
 exact Prod.ext e1 (az7 e2))
theorem aLr {m a : Int} {x u : Rat} (hl : aBi m a x = some u) : aeI u := by
 unfold aBi at hl
 cases g1 : acV (mkRat m 1 * x) with
 | none => rw [g1] at hl; cases hl
 | some w =>
  rw [g1] at hl; simp only [zY] at hl
  cases g2 : acV (w + mkRat a 1) with
  | none => rw [g2] at hl; cases hl
  | some v => rw [g2] at hl; exact (aeU hl).1
theorem aKO (p q : Rat) : ax6 p q ≤ 0 ↔ p ≤ q := by
 have := aBc p q
 constructor
 ·intro h; exact vD.1 (fun g => by have := this.2 g; omega)
 ·intro h
  rcases zS 0 (ax6 p q) with g | g
  ·exact absurd (this.1 g) (vD.2 h)
  ·exact g
theorem ayT (c : CvT × Unit) (x : FxT) (y) (h : ah7 (c, x, ()) = some y) : (alU c x).toO = some y := by
 obtain ⟨⟨c', q⟩, ⟨hq, hx1, hl⟩, hx, rfl⟩ := aaE h
 obtain ⟨rfl, hx2⟩ := Prod.mk.inj hx; obtain ⟨rfl, -⟩ := Prod.mk.inj hx2; dsimp only
 dsimp only at hq hx1 hl
 have hlen := hl.2.1
 have hp := aNR hl hx1
 obtain ⟨kind, tab, l, u0⟩ := c'
 dsimp only at hl hlen hp
 unfold alU
 dsimp only
 have hsg := aAW hl hp
 refine uL ((l.getD (afI q l) zs).1, (l.getD (afI q l) zs).2.1, (l.getD (afI q l) zs).2.2.1, (l.getD (afI q l) zs).2.2.2.1, (l.getD (afI q l) zs).2.2.2.2.1, (l.getD (afI q l) zs).2.2.2.2.2.1, ab7 l (afI q l), (afI q l : Int) == 0, ()) ?_ ?_
 ·refine uO (0, 0, 0, 0, 0, 0, 0, 0, 0, false, ()) rfl ?_
  refine aaL (fun i : Int × Int × Int × Int × Int × Int × Int × Int × Int × Bool × Unit => ∃ k : Nat, k ≤ l.length ∧ i.1 = (k : Int) ∧ i.2.1 = ab7 l k ∧ ∀ j, j < k → ¬ q ≤ mkRat (l.getD j zs).1 1000000) (fun i => ((l.length : Int) - i.1).toNat) (fun _ => Sum.inl ((l.getD (afI q l) zs).1, (l.getD (afI q l) zs).2.1, (l.getD (afI q l) zs).2.2.1, (l.getD (afI q l) zs).2.2.2.1, (l.getD (afI q l) zs).2.2.2.2.1, (l.getD (afI q l) zs).2.2.2.2.2.1, ab7 l (afI q l), (afI q l : Int) == 0, ())) ?_ _ ⟨0, by omega, rfl, rfl, fun j hj => by omega⟩
  rintro ⟨i, last, r⟩ ⟨k, h3, h5, h6, h4⟩
  dsimp only at h5 h6
  subst h5
  simp only [apU, aaM]
  have hk := aNS h4 hp
  have hk' : k < l.length := zc
  have hi := an3 (aAW hl hk').2 zc zc
  by_cases g : q ≤ mkRat (l.getD k zs).1 1000000
  ·right
   rw [aNT hk' g h4, ← h6]
   exact uT sd (uN sd (uC _ (afD (d := 1000000) hi zc zc) (uC _ (aCf hq (amP hi)) (uT (zo ((aKO _ _).2 g)) rfl))))
  ·left
   refine ⟨(((k + 1 : Nat) : Int), (l.getD k zs).1, (l.getD k zs).1, (l.getD k zs).2.1, (l.getD k zs).2.2.1, (l.getD k zs).2.2.2.1, (l.getD k zs).2.2.2.2.1, (l.getD k zs).2.2.2.2.2.1, last, (k : Int) == 0, ()), ?_, ⟨k + 1, by omega, rfl, ?_, fun j hj => ?_⟩, by dsimp only; omega, ze⟩
   ·refine uT sd (uN sd (uC _ (afD (d := 1000000) hi zc zc) (uC _ (aCf hq (amP hi)) (uF (zn (fun h => g ((aKO _ _).1 h))) ?_))))
    rw [aaA (x := (k : Int) + 1) zc]; rfl
   ·unfold ab7; rw [if_neg zc, xr]
   ·rcases zr j k with g2 | g2
    ·exact h4 j g2
    ·obtain rfl : j = k := zc
     exact g
 ·unfold ayP
  generalize l.getD (afI q l) zs = s at hsg ⊢
  obtain ⟨hn, hr⟩ := hsg
  have io := an3 hn.2.2.1 zc zc
  unfold apT
  dsimp only
  by_cases hd : s.2.2.2.2.1 = 1
  ·rw [if_pos hd]
   refine uF (by rw [hd]; rfl) (uC _ (ax0 hq hn) ?_)
   dsimp only
   unfold aIS
   cases hl : aBi s.2.1 s.2.2.1 q with
   | none => exact uT rfl rfl
   | some u =>
    have hu := aLr hl
    refine uF rfl ?_
    have hp := aNP hu
    refine uL (fx (aJQ u)) ?_ ?_
    ·refine uC (u.num.sign, 0, ()) (by unfold aqE; dsimp only [ax5]; rw [agB hu]) ?_
     unfold aJQ
     by_cases c : u < 0
     ·rw [if_pos c]
      exact uT (zo ((asR u).2 c)) (uC _ (ab3 ⟨by omega, by omega⟩) (by rw [aRX]; rfl))
     ·rw [if_neg c]
      exact uF (zn (fun h => c ((asR u).1 h))) rfl
    ·simp only [zY]
     unfold apS
     exact uO (0, dec (aJQ u).num, aa3 (aJQ u).den, ()) rfl (ar4 _ _ _ _ _ hp hn.2.2.2.1 io)
  ·rw [if_neg hd]
   exact uT (by simpa using hd) rfl
theorem aJe {q : Rat} (h : aeI q) : aeI (aeN q) := by
 have e1 : mkRat 1 1 = (1 : Rat) := by rw [ad5]; rfl
 unfold aeN
 split
 ·exact aDM
 ·split
  ·rw [← e1]; exact adW ⟨by omega, by omega⟩
  ·exact h
theorem aMx (q : Rat) : aeN q ≤ 1 := by
 unfold aeN
 split
 ·decide
 ·split
  ·exact Rat.le_refl
  ·rename_i h; exact vD.1 h
theorem aBW (q : Rat) : 0 ≤ aeN q := by
 unfold aeN
 split
 ·exact Rat.le_refl
 ·split
  ·decide
  ·rename_i h _; exact vD.1 h
theorem aF7 {p q : CvT × Rat} (hb : ((p.1, ()), fx p.2, ()) = ((q.1, ()), fx q.2, ())) : p = q := by
 obtain ⟨e1, e2⟩ := Prod.mk.inj hb
 obtain ⟨e2, -⟩ := Prod.mk.inj e2
 exact Prod.ext (Prod.mk.inj e1).1 (az7 e2)
theorem aEu {c : CvT} {q : Rat} (h1 : aeI q) (h2 : q ≤ 1) (h3 : ab6 c.2.2.1) : ah7 ((c, ()), fx q, ()) = some (ayP c.2.2.1 q) := aaK (enc := fun p : CvT × Rat => ((p.1, ()), fx p.2, ())) (c, q) ⟨h1, h2, h3⟩ (fun b hb => aF7 hb)
theorem aAD {c : CvT} {q : Rat} (h1 : aeI q) (h0 : 0 ≤ q) (h2 : q ≤ 1) (h3 : adE c.2.1) : afV ((c, ()), fx q, ()) = some (ax5 (aNA c.2.1 q)) := aaK (enc := fun p : CvT × Rat => ((p.1, ()), fx p.2, ())) (c, q) ⟨h1, h0, h2, h3⟩ (fun b hb => aF7 hb)
theorem aCh {c : CvT} {q : Rat} (h1 : aeI q) : agU ((c, ()), fx q, ()) = some (fx q, 0, ()) := aaK (enc := fun p : CvT × Rat => ((p.1, ()), fx p.2, ())) (c, q) h1 (fun b hb => aF7 hb)
theorem awW (c : CvT × Unit) (x : FxT) (y) (h : agU (c, x, ()) = some y) : (apR c x).toO = some y := by
 obtain ⟨⟨c', q⟩, hq, hx, rfl⟩ := aaE h
 obtain ⟨rfl, hx2⟩ := Prod.mk.inj hx; obtain ⟨rfl, -⟩ := Prod.mk.inj hx2; dsimp only
 rfl
theorem aJo (c : CvT) (x : FxT) (y) (h : acZ (c, x, ()) = some y) : (aB2 c x).toO = some y := by
 injection h with h
 subst h
 obtain ⟨kind, tab, l, u0⟩ := c
 unfold aB2
 dsimp only
 refine uC _ (aqO (kind, tab, l, ())) ?_
 by_cases hr : abF (kind, tab, l, ())
 case neg =>
  have hr' : ¬ abF (kind, tab, l, u0) := hr
  rw [if_neg hr', if_neg hr]
  exact uT rfl rfl
 have hr' : abF (kind, tab, l, u0) := hr
 rw [if_pos hr', if_pos hr]
 refine uF rfl (uC (if (rdF x).isSome then 0 else 20, ()) rfl ?_)
 cases hx : rdF x with
 | none => exact uT rfl rfl
 | some q =>
  obtain ⟨hq, rfl⟩ := aoU hx
  refine uF rfl ?_
  have hc := aJe hq
  have hl := aMx q
  have h0 := aBW q
  unfold aDS
  dsimp only
  rcases hr with ⟨k1, k2, k3⟩ | ⟨k1, k2, k3⟩ | ⟨k1, k2, k3⟩
  ·dsimp only at k1; subst k1
   refine uN ⟨by decide, by decide⟩ (uF rfl (uF rfl (uT rfl (uC _ (agV hq) (uC _ (aCh hc) ?_)))))
   rfl
  ·dsimp only at k1; subst k1
   refine uN ⟨by decide, by decide⟩ (uF rfl (uT rfl (uC _ (agV hq) (uC _ (aAD (c := (2, tab, l, ())) hc h0 hl k2) ?_))))
   rfl
  ·dsimp only at k1; subst k1
   refine uN ⟨by decide, by decide⟩ (uT rfl (uC _ (agV hq) (uC _ (aEu (c := (3, tab, l, ())) hc hl k3) ?_)))
   rfl
set_option maxRecDepth 100000
open Go Go.Vg Go.Proofs
noncomputable section
def aOQ : LTab := [(120, 58, 11264, ⟨0, (Int) × (Int) × (Int) × (Int) × Unit, .dat (.s 14) vZ <| .dat (.s 5) vZ <| .dat (.c 5 0) vZ <| .dat (.c 5 1) vZ <| .nil, [13, 12, 4, 2], [5, 0], 0⟩)]
def aD8 (bands : List uc) (i : (Int) × (Int) × (Int) × (Int) × Unit) : TT (((Int) × (Int) × (Int) × (Int) × Unit) ⊕ ul) :=
 .ite (decide (i.1 < len (List.take (List.length bands - Int.toNat 1) (List.drop (Int.toNat 1) bands))))
 (.need (inb i.1 (len (List.take (List.length bands - Int.toNat 1) (List.drop (Int.toNat 1) bands)))) <| .call (aqI ((i.2.2.1, i.2.2.2.1, ()), ((gi (List.take (List.length bands - Int.toNat 1) (List.drop (Int.toNat 1) bands)) i.1 (0, 0, ())).1, (gi (List.take (List.length bands - Int.toNat 1) (List.drop (Int.toNat 1) bands)) i.1 (0, 0, ())).2.1, ()), ())) at0 fun y =>
 .ite (y.2.1 != 0)
 (.ok (.inr (((0, 0, ()), y.2.1, ()))))
 (.tt <| .lt (w64 (i.1 + 1) : Int) fun z2 => .lt (y.2.1 : Int) fun z3 => .lt (y.1.1 : Int) fun z4 => .lt (y.1.2.1 : Int) fun z5 => .vI (vQ z3 z2 (len (List.take (List.length bands - Int.toNat 1) (List.drop (Int.toNat 1) bands)) : Int) (List.take (List.length bands - Int.toNat 1) (List.drop (Int.toNat 1) bands)) <| (vW 5 0 true) ∧ ue ∧ True) <| .vI (vH (vL 53 z4 z5) <| vH uf True) <| .ok (.inl ((z2, z3, z4, z5, ())))))
 (.ok (.inr (((i.2.2.1, i.2.2.2.1, ()), 0, ()))))
def aBZ (bands : List uc) : TT ul :=
 .need (asT Int 0 ≤ 0 ∧ 0 < len bands) <| .need (asT Int 0 ≤ 1 ∧ 1 ≤ len bands) <| .loop 0 (.tt <| .lt ((gi bands 0 (0, 0, ())).1 : Int) fun z => .lt ((gi bands 0 (0, 0, ())).2.1 : Int) fun z1 => .vI (vQ (0 : Int) (0 : Int) (len (List.take (List.length bands - Int.toNat 1) (List.drop (Int.toNat 1) bands)) : Int) (List.take (List.length bands - Int.toNat 1) (List.drop (Int.toNat 1) bands)) <| (vW 5 0 true) ∧ ue ∧ True) <| .vI (vH (vL 53 z z1) <| vH uf True) <| .ok ((0, 0, z, z1, ()))) (aD8 bands)
def aJm : LTab := [(118, 58, 9216, ⟨0, (Int) × (List uc) × Unit, .dat (.s 14) vZ <| .row 4 tK <| .nil, [13, 12, 4, 2], [4, 0], 0⟩)]
def aw0 (values : List ub) (i : (Int) × (List uc) × Unit) : TT (((Int) × (List uc) × Unit) ⊕ ul) :=
 .ite (decide (i.1 < len values))
 (.need (inb i.1 (len values)) <| .call (afY (((gi values i.1 ([], [], ())).1, (gi values i.1 ([], [], ())).2.1, ()), ())) at0 fun y =>
 .ite (y.2.1 != 0)
 (.ok (.inr (((0, 0, ()), y.2.1, ()))))
 (.need (inb i.1 (↑(Int.toNat (len values)) : Int)) <| .tt <| .lt (w64 (i.1 + 1) : Int) fun z1 => .lt (List.set i.2.1 (0 + Int.toNat i.1) (y.1.1, y.1.2.1, ()) : List uc) fun z2 => .vI (vT z1 (len values) values <| (vN 4 0 (Int.toNat (len values)) true) ∧ ue ∧ True) <| .vI (vH (vM 53 z2) <| vH uf True) <| .ok (.inl ((z1, z2, ())))))
 (.call (ah8 (List.take (Int.toNat (len values)) i.2.1, ())) at0 fun y1 =>
 .ok (.inr (((y1.1.1, y1.1.2.1, ()), y1.2.1, ()))))
def ar7 (values : List ub) : TT ul :=
 .need (0 ≤ len values ∧ len values ≤ len values ∧ len values * (↑16 : Int) ≤ 140737488355328) <| .loop 0 (.tt <| .lt (List.replicate (Int.toNat (len values)) (0, 0, ()) : List uc) fun z => .vI (vT (0 : Int) (len values) values <| (vN 4 0 (Int.toNat (len values)) true) ∧ ue ∧ True) <| .vI (vH (vM 53 z) <| vH uf True) <| .ok ((0, z, ()))) (aw0 values)
def aF9 : LTab := []
def aoF (p : vY × Int × Bool × Unit) (lo : Int) (hi : Int) : TT ul :=
 .call (abW (lo, 1000000000000, ())) afF fun y =>
 .call (ajM (((p.1.1, p.1.2.1, p.1.2.2.1, p.1.2.2.2.1, p.1.2.2.2.2.1, p.1.2.2.2.2.2.1, ()), p.2.1, p.2.2.1, ()), y.1, ())) af6 fun y1 =>
 .ite (y1.2.1 != 0)
 (.ok (((0, 0, ()), y1.2.1, ())))
 (.call (abW (hi, 1000000000000, ())) afF fun y2 =>
 .call (ajM (((p.1.1, p.1.2.1, p.1.2.2.1, p.1.2.2.2.1, p.1.2.2.2.2.1, p.1.2.2.2.2.2.1, ()), p.2.1, p.2.2.1, ()), y2.1, ())) af6 fun y3 =>
 .ite (y3.2.1 != 0)
 (.ok (((0, 0, ()), y3.2.1, ())))
 (.call (aeR (List.take 2 [(y1.1.1, y1.1.2.1, ()), (y3.1.1, y3.1.2.1, ())], ())) at0 fun y4 =>
 .ite (y4.2.1 != 0)
 (.ok (((0, 0, ()), y4.2.1, ())))
 (.call (axN ((if 0 > y4.1.1 then 0 else y4.1.1, if 0 > y4.1.2.1 then 0 else y4.1.2.1, ()), p.1.2.2.2.1, p.1.2.2.2.2.1, ())) at0 fun y5 =>
 .ite (y5.2.1 != 0)
 (.ok (((0, 0, ()), y5.2.1, ())))
 (.call (abW (p.1.2.2.2.2.2.1, 1000000, ())) afF fun y6 =>
 .call (afY (y6.1, ())) at0 fun y7 =>
 .ite (y7.2.1 != 0)
 (.ok (((0, 0, ()), y7.2.1, ())))
 (.call (aGu ((y5.1.1, y5.1.2.1, ()), (y7.1.1, y7.1.2.1, ()), ())) at0 fun y8 =>
 .ite (y8.2.1 != 0)
 (.ok (((0, 0, ()), y8.2.1, ())))
 (.call (ajN ((y8.1.1, y8.1.2.1, ()), 0, 1000000000000, ())) at0 fun y9 =>
 .ok (((y9.1.1, y9.1.2.1, ()), y9.2.1, ()))))))))
def ar3 : LTab := []
def ai2 (c : ua × Unit) (x : Int × Int × Unit) : TT ul :=
 .ok (((x.1, x.2.1, ()), 0, ()))
end
theorem ajP {l : List Int} (h : adE l) {k : Nat} (hk : k < l.length) : inR (l.getD k 0) 0 65535 := by
 refine h.2.2 _ ?_
 have : l.getD k 0 = l[k] := by simp [hk]
 rw [this]
 exact ym hk
theorem aN0 {a b : BdT} (h1 : okB a.1 a.2.1) (h2 : okB b.1 b.2.1) : okB (arO a b).1 (arO a b).2.1 := by
 obtain ⟨a1, a2, u⟩ := a
 obtain ⟨b1, b2, w⟩ := b
 unfold okB arO at *
 dsimp only at *
 omega
theorem aOt {a b : BdT} (h1 : okB a.1 a.2.1) (h2 : okB b.1 b.2.1) : aP8 a b = (arO a b, 0, ()) := by
 unfold aP8; rw [if_pos ⟨h1, h2⟩]; rfl
theorem aNb {a b : BdT} (h1 : okB a.1 a.2.1) (h2 : okB b.1 b.2.1) : aqI (a, b, ()) = some (arO a b, 0, ()) := by
 unfold aqI; dsimp only; rw [aOt h1 h2]
theorem aJl (l : List BdT) (y) (h : ah8 (l, ()) = some y) : (aBZ l).toO = some y := by
 unfold ah8 at h
 split at h
 case isFalse => cases h
 case isTrue hp =>
 injection h with h
 subst h
 obtain ⟨hn, hl, ho⟩ := hp
 dsimp only at hn hl ho ⊢
 cases l with
 | nil => exact absurd rfl hn
 | cons b r =>
  have hr : r.length ≤ 1000000 := by simp only [zG] at hl; omega
  unfold aBZ
  refine uN ⟨by decide, by simp only [aaB, zG]; omega⟩ (uN ⟨by decide, by simp only [aaB, zG]; omega⟩ ?_)
  refine uO (0, 0, b.1, b.2.1, ()) rfl ?_
  have hb := ho b (yc ..)
  have htail : List.take ((b :: r).length - Int.toNat 1) (List.drop (Int.toNat 1) (b :: r)) = r := by
   show List.take ((b :: r).length - 1) r = r
   simp
  refine aaL (fun i : Int × Int × Int × Int × Unit => ∃ (k : Nat) (w : BdT), k ≤ r.length ∧ i = ((k : Int), 0, w.1, w.2.1, ()) ∧ okB w.1 w.2.1 ∧ ayL (b :: r) = (r.drop k).foldl arO w) (fun i => ((r.length : Int) - i.1).toNat) (fun _ => (ayL (b :: r), 0, ())) ?_ _ ⟨0, b, by omega, rfl, hb, rfl⟩
  rintro i ⟨k, w, k1, rfl, hw, k2⟩
  simp only [aD8, htail, aaM]
  rcases zr k r.length with hk | hk
  ·have e : r.getD k (0, 0, ()) = r[k] := by simp [hk]
   have ho2 := ho r[k] (zN _ (ym hk))
   left
   refine ⟨(((k + 1 : Nat) : Int), 0, (arO w r[k]).1, (arO w r[k]).2.1, ()), ?_, ⟨k + 1, arO w r[k], by omega, rfl, aN0 hw ho2, ?_⟩, by dsimp only; omega, ze⟩
   ·refine uT sd (uN sd (uC (arO w r[k], 0, ()) (by rw [e]; exact aNb hw ho2) (uF rfl ?_)))
    rw [aaA (x := (k : Int) + 1) zc]
    rfl
   ·rw [k2, yo hk]; rfl
  ·right
   obtain rfl : k = r.length := zc
   rw [List.drop_length] at k2
   refine uF sd ?_
   rw [aaH, k2]; rfl
theorem aNv {q : Rat} (h : (af8 q q).2.1 = 0) : okB (af8 q q).1.1 (af8 q q).1.2.1 := by
 unfold af8 mkB at *
 split at h
 ·rename_i c; rw [if_pos c]; exact c
 ·exact absurd h zf
theorem ax1 {q : Rat} (h : aeI q) : afY (fx q, ()) = some (af8 q q) := by
 unfold afY; dsimp only; rw [agB h]
theorem aD9 (l : List FxT) (y) (h : aeR (l, ()) = some y) : (ar7 l).toO = some y := by
 obtain ⟨r, ⟨hn, hl, ho⟩, hx, rfl⟩ := aaE h
 obtain ⟨rfl, -⟩ := Prod.mk.inj hx
 have hlen : len (r.map (fun q => fx q)) = (r.length : Int) := by rw [aaB, vv]
 unfold ar7
 simp only [hlen, zp]
 refine uN ⟨by omega, by omega, by omega⟩ (uO (0, List.replicate r.length (0, 0, ()), ()) rfl ?_)
 refine aaL (fun i : Int × List BdT × Unit => ∃ k : Nat, k ≤ r.length ∧ i.1 = (k : Int) ∧ i.2.1.length = r.length ∧ i.2.1.take k = (r.take k).map (fun q => (af8 q q).1)) (fun i => ((r.length : Int) - i.1).toNat) (fun _ => (ayL (r.map fun q => (af8 q q).1), 0, ())) ?_ _ ⟨0, by omega, rfl, by simp, by simp⟩
 rintro ⟨i, bs, u⟩ ⟨k, k1, k2, k3, k4⟩
 dsimp only at k2 k3 k4
 subst k2
 simp only [aw0, hlen, aaM, zp]
 rcases zr k r.length with hk | hk
 ·have e : (r.map (fun q => fx q)).getD k ([], [], ()) = fx r[k] := by simp [hk]
  obtain ⟨f1, f2⟩ := ho r[k] (ym hk)
  left
  refine ⟨(((k + 1 : Nat) : Int), bs.set k (af8 r[k] r[k]).1, ()), ?_, ⟨k + 1, by omega, rfl, by simp [k3], ?_⟩, by dsimp only; omega, ze⟩
  ·refine uT sd (uN ⟨by omega, by omega⟩ (uC (af8 r[k] r[k]) (by rw [e]; exact ax1 f1) (uF (by rw [f2]; rfl) (uN ⟨by omega, by omega⟩ ?_))))
   rw [aaA (x := (k : Int) + 1) zc, zv]
   rfl
  ·rw [zO hk, xR, ← k4]
   rw [zO (by rw [yX]; omega), List.take_set_of_le (zq k)]
   simp
 ·right
  obtain rfl : k = r.length := zc
  rw [zt] at k4
  refine uF sd (uC (ayL (r.map fun q => (af8 q q).1), 0, ()) ?_ rfl)
  rw [k4]
  unfold ah8
  refine if_pos ⟨by simpa using hn, by simpa using hl, fun b hb => ?_⟩
  obtain ⟨q, hq, rfl⟩ := zM.1 hb
  exact aNv (ho q hq).2
theorem afG {z : Int} (h1 : -1000000000000000000000000 ≤ z) (h2 : z ≤ 1000000000000000000000000) : Fit z := by
 unfold Fit
 refine zz ((acQ (k := 30) zc).2 ?_) zc
 omega
theorem at9 {m a n : Int} (hm : inR m (-100000000) 100000000) (ha : inR a (-100000000) 100000000) (hn : inU n) : -200000000000000000000 ≤ aeX m a n ∧ aeX m a n ≤ 200000000000000000000 := by
 obtain ⟨m1, m2⟩ := hm
 obtain ⟨a1, a2⟩ := ha
 obtain ⟨n1, n2⟩ := hn
 unfold aeX
 have c1 : (m + 100000000) * n ≥ 0 := yg zc n1
 have c2 : (100000000 - m) * n ≥ 0 := yg zc n1
 rw [wR] at c1
 rw [Int.sub_mul] at c2
 constructor <;> omega
theorem aG1 : akV = mkRat 1000000000000 1 := by rw [ad5]; rfl
theorem aAM (N : Int) {d : Nat} (hd : d ≠ 0) : af8 (mkRat N d) (mkRat N d) = mkB 6 (N * 1000000000000 / d) (-(-(N * 1000000000000) / d)) := by
 unfold af8
 rw [aG1, yS, xG, Rat.neg_mkRat, auC _ hd, auC _ hd]
theorem aj0 {m a n : Int} (hm : inR m (-100000000) 100000000) (ha : inR a (-100000000) 100000000) (hn : inU n) :
  aBi m a (mkRat n 1000000000000) = some (mkRat (aeX m a n) 1000000000000000000) ∧ aeI (mkRat (aeX m a n) 1000000000000000000) := by
 obtain ⟨b1, b2⟩ := at9 hm ha hn
 have c := at9 hm (a := 0) ⟨by omega, by omega⟩ hn
 obtain ⟨c1, c2⟩ := c
 have e : aeX m 0 n = m * n := by unfold aeX; omega
 rw [e] at c1 c2
 have f1 : aeI (mkRat (m * n) 1000000000000) := aeF zc (afG zc zc) (afG zc zc)
 have f2 : aeI (mkRat (aeX m a n) 1000000000000) := aeF zc (afG zc zc) (afG zc zc)
 have f3 : aeI (mkRat (aeX m a n) 1000000000000000000) := aeF zc (afG zc zc) (afG zc zc)
 refine ⟨?_, f3⟩
 unfold aBi
 rw [yS, Nat.one_mul]
 unfold acV
 rw [if_pos f1]
 simp only [zY]
 have g2 : mkRat (m * n) 1000000000000 + mkRat a 1 = mkRat (aeX m a n) 1000000000000 := by
  rw [xC _ _ zc zc]
  unfold aeX
  rw [xG]; simp
 rw [g2, if_pos f2]
 simp only [zY]
 have g3 : mkRat (aeX m a n) 1000000000000 / mkRat 1000000 1 = mkRat (aeX m a n) 1000000000000000000 := by
  have hm : mkRat (aeX m a n) 1000000000000 = mkRat (aeX m a n) 1000000000000000000 * mkRat 1000000 1 := by
   rw [yS, yj zc zc]; omega
  rw [hm, Rat.div_def, Rat.mul_assoc, Rat.mul_inv_cancel _ (aG9 zc), Rat.mul_one]
 rw [g3, if_pos f3]
theorem ay7 {N : Int} (h1 : -200000000000000000000 ≤ N) (h2 : N ≤ 200000000000000000000) : af8 (mkRat N 1000000000000000000) (mkRat N 1000000000000000000) = ((N / 1000000, -(-N / 1000000), ()), 0, ()) := by
 rw [aAM _ zc]
 have e1 : N * 1000000000000 / ((1000000000000000000 : Nat) : Int) = N / 1000000 := zc
 have e2 : -(N * 1000000000000) / ((1000000000000000000 : Nat) : Int) = -N / 1000000 := zc
 rw [e1, e2]
 unfold mkB
 rw [if_pos ⟨by omega, by omega, by omega⟩]
theorem aJ9 {n : Int} (h : inR n (-100000000) 100000000) : af8 (mkRat n 1000000) (mkRat n 1000000) = ((n * 1000000, n * 1000000, ()), 0, ()) := by
 obtain ⟨h1, h2⟩ := h
 rw [aAM _ zc]
 have e1 : n * 1000000000000 / ((1000000 : Nat) : Int) = n * 1000000 := zc
 have e2 : -(-(n * 1000000000000) / ((1000000 : Nat) : Int)) = n * 1000000 := zc
 rw [e1, e2]
 unfold mkB
 rw [if_pos ⟨by omega, by omega, by omega⟩]
theorem avY {n : Int} (h : inU n) : abD n := ⟨by have := h.1; omega, by have := h.2; omega⟩
theorem apJ {n : Int} (h : inU n) : aeI (mkRat n 1000000000000) := aeF zc (abG (avY h)) (abG ⟨by omega, by omega⟩)
theorem aHe (a : Int) : (if 0 > a then 0 else a) = max a 0 := by split <;> omega
theorem aHt {a b : BdT} (h : (aMY a b).2.1 = 0) : okB (aMY a b).1.1 (aMY a b).1.2.1 := by
 unfold aMY mkB at *
 split
 ·rename_i c
  rw [if_pos c] at h
  split
  ·assumption
  ·rename_i d; rw [if_neg d] at h; exact absurd h zf
 ·rename_i c; rw [if_neg c] at h; exact absurd h zf
theorem awP {b : BdT} (h : okB b.1 b.2.1) : aAn b 0 1000000000000 = (aqT b, 0, ()) := by
 unfold aAn
 rw [if_pos h, if_pos ⟨by omega, by omega, by omega⟩]; rfl
theorem aBQ (p : PcT) (lo hi : Int) (y) (h : adP (p, lo, hi, ()) = some y) : (aoF p lo hi).toO = some y := by
 unfold adP at h
 split at h
 case isFalse => cases h
 case isTrue hp =>
 obtain ⟨hn, hlo, hhi⟩ := hp
 dsimp only at hn hlo hhi h
 injection h with h
 subst h
 obtain ⟨l1, f1⟩ := aj0 hn.1 hn.2.1 hlo
 obtain ⟨l2, f2⟩ := aj0 hn.1 hn.2.1 hhi
 obtain ⟨b1, b2⟩ := at9 hn.1 hn.2.1 hlo
 obtain ⟨b3, b4⟩ := at9 hn.1 hn.2.1 hhi
 have io := an3 hn.2.2.1 zc zc
 unfold aoF
 refine uC _ (afD (d := 1000000000000) (avY hlo) zc zc) ?_
 refine uC _ (ax0 (p := p) (apJ hlo) hn) ?_
 rw [l1]
 refine uF rfl ?_
 refine uC _ (afD (d := 1000000000000) (avY hhi) zc zc) ?_
 refine uC _ (ax0 (p := p) (apJ hhi) hn) ?_
 rw [l2]
 refine uF rfl ?_
 have t1 := ay7 b1 b2
 have t2 := ay7 b3 b4
 have ha : aeR ([fx (mkRat (aeX p.1.2.1 p.1.2.2.1 lo) 1000000000000000000), fx (mkRat (aeX p.1.2.1 p.1.2.2.1 hi) 1000000000000000000)], ()) = some (arO (af8 (mkRat (aeX p.1.2.1 p.1.2.2.1 lo) 1000000000000000000) (mkRat (aeX p.1.2.1 p.1.2.2.1 lo) 1000000000000000000)).1 (af8 (mkRat (aeX p.1.2.1 p.1.2.2.1 hi) 1000000000000000000) (mkRat (aeX p.1.2.1 p.1.2.2.1 hi) 1000000000000000000)).1, 0, ()) := by
  refine aaK (enc := fun l : List Rat => (l.map (fun q => fx q), ())) [mkRat (aeX p.1.2.1 p.1.2.2.1 lo) 1000000000000000000, mkRat (aeX p.1.2.1 p.1.2.2.1 hi) 1000000000000000000] ⟨by simp, by simp, fun q hq => ?_⟩ (fun b hb => ?_)
  ·rcases zy.1 hq with e | e
   ·subst e; exact ⟨f1, by rw [t1]⟩
   ·rw [zX.1 e]; exact ⟨f2, by rw [t2]⟩
  ·have := (Prod.mk.inj hb).1
   exact List.map_inj_right (fun a b hab => az7 hab) |>.1 this
 refine uC _ ha (uF rfl ?_)
 rw [t1, t2]
 simp only [arO]
 refine uC (aJP (ayD p.1 lo hi) p.1.2.2.2.1 p.1.2.2.2.2.1) (by unfold ayD; rw [← aHe, ← aHe]; rfl) ?_
 unfold ayE
 generalize aJP (ayD p.1 lo hi) p.1.2.2.2.1 p.1.2.2.2.2.1 = w
 by_cases c1 : w.2.1 = 0
 case neg => rw [if_pos c1]; exact uT (by simpa using c1) rfl
 rw [if_neg (fun h => h c1)]
 refine uF (by simpa using c1) (uC _ (afD (d := 1000000) io zc zc) (uC _ (ax1 (amP io)) ?_))
 rw [aJ9 hn.2.2.1]
 refine uF rfl (uC (aMY w.1 (p.1.2.2.2.2.2.1 * 1000000, p.1.2.2.2.2.2.1 * 1000000, ())) rfl ?_)
 have hok := @aHt w.1 (p.1.2.2.2.2.2.1 * 1000000, p.1.2.2.2.2.2.1 * 1000000, ())
 generalize aMY w.1 (p.1.2.2.2.2.2.1 * 1000000, p.1.2.2.2.2.2.1 * 1000000, ()) = z at hok
 by_cases c2 : z.2.1 = 0
 case neg => rw [if_pos c2]; exact uT (by simpa using c2) rfl
 rw [if_neg (fun h => h c2)]
 refine uF (by simpa using c2) (uC (aAn z.1 0 1000000000000) rfl ?_)
 rw [awP (hok c2)]; rfl
set_option maxRecDepth 100000
open Go Go.Vg Go.Proofs
noncomputable section
def atY : LTab := [(128, 14, 17409, ⟨0, (Int) × (Int) × Bool × (List uc) × Unit, .dat (.s 9) vZ <| .dat (.s 3) vZ <| .appN (.c 4 0) 17 53 tK <| .nil, [8, 7, 0], [11, 7, 4, 3, 2, 1, 0], 1⟩)]
def ad3 (x : Int × Int × Unit) (c : ua × Unit) (i : (Int) × (Int) × Bool × (List uc) × Unit) : TT tc :=
 .ite (decide (x.1 > w64 ((gi c.1.2.2.1 i.1 (0, 0, 0, 0, 0, 0, ())).1 * 1000000)))
 (.tt <| .lt (w64 (i.1 + 1) : Int) fun z15 => .lt ((gi c.1.2.2.1 i.1 (0, 0, 0, 0, 0, 0, ())).1 : Int) fun z16 => .lt (i.2.2.2.1 : List uc) fun z17 => .vI (vQ z16 z15 (len c.1.2.2.1) c.1.2.2.1 <| tj ∧ True) <| .vI (vH (vM 53 z17) <| vH (vX (LoopState.ready : LoopState) (none : Option Code) 64 (#[13] : Array Tmp) (akU (acI Tryz.f58) [1, 1, 0, 1, 0, 0]) (akU (acI Tryz.f58) [1, 1, 0, 1, 0, 1]) <| (vJ (128 : FuncId) <| True ∧ tk ∧ True) ∧ (vJ ((c.1.1, c.1.2.1, c.1.2.2.1, ()) : Int × List Int × List vY × Unit) <| ue ∧ uK ∧ um ∧ uv ∧ uh ∧ ue ∧ vU c x)) <| vH (vK 42 c.1.1 c.1.2.1 c.1.2.2.1) <| vH (vJ 169 <| (vN 17 0 (List.length z17) true) ∧ True) <| vH tn <| vH uf <| vH (vL 53 x.1 x.2.1) <| vH (vK 96 c.1.1 c.1.2.1 c.1.2.2.1) True) <| .ok (.inl ((z15, z16, false, z17, ()))))
 (.call (adP ((((gi c.1.2.2.1 i.1 (0, 0, 0, 0, 0, 0, ())).1, (gi c.1.2.2.1 i.1 (0, 0, 0, 0, 0, 0, ())).2.1, (gi c.1.2.2.1 i.1 (0, 0, 0, 0, 0, 0, ())).2.2.1, (gi c.1.2.2.1 i.1 (0, 0, 0, 0, 0, 0, ())).2.2.2.1, (gi c.1.2.2.1 i.1 (0, 0, 0, 0, 0, 0, ())).2.2.2.2.1, (gi c.1.2.2.1 i.1 (0, 0, 0, 0, 0, 0, ())).2.2.2.2.2.1, ()), i.2.1, i.1 == 0, ()), if w64 (i.2.1 * 1000000) > x.1 then w64 (i.2.1 * 1000000) else x.1, if w64 ((gi c.1.2.2.1 i.1 (0, 0, 0, 0, 0, 0, ())).1 * 1000000) < x.2.1 then w64 ((gi c.1.2.2.1 i.1 (0, 0, 0, 0, 0, 0, ())).1 * 1000000) else x.2.1, ())) at0 fun y3 =>
 .ite (y3.2.1 != 0)
 (.ok (.inr (((0, 0, ()), y3.2.1, ()))))
 (.need ((List.length i.2.2.2.1 + 1) * 16 ≤ 140737488355328) <| .tt <| .lt (w64 (i.1 + 1) : Int) fun z18 => .lt ((gi c.1.2.2.1 i.1 (0, 0, 0, 0, 0, 0, ())).1 : Int) fun z19 => .lt (List.take (List.length i.2.2.2.1) i.2.2.2.1 ++ [(y3.1.1, y3.1.2.1, ())] : List uc) fun z20 => .vI (vQ z19 z18 (len c.1.2.2.1) c.1.2.2.1 <| tj ∧ True) <| .need ((((53 : TypeId) = 53) ∧ ((z20 : List uc) = z20)) ∧ (true = true) ∧ (((LoopState.ready : LoopState) = LoopState.ready) ∧ (((none : Option Code) = none) ∧ (((64) = (64)) ∧ (((#[13] : Array Tmp) = #[13]) ∧ (((akU (acI Tryz.f58) [1, 1, 0, 1, 0, 0]) = (akU (acI Tryz.f58) [1, 1, 0, 1, 0, 0])) ∧ (((akU (acI Tryz.f58) [1, 1, 0, 1, 0, 1]) = (akU (acI Tryz.f58) [1, 1, 0, 1, 0, 1])) ∧ ((((128 : FuncId) = 128) ∧ (True ∧ ((((7) = (7)) ∧ (((0) = (0)) ∧ ((true) = (true)))) ∧ True))) ∧ ((((c.1.1, c.1.2.1, c.1.2.2.1, ()) : Int × List Int × List vY × Unit) = (c.1.1, c.1.2.1, c.1.2.2.1, ())) ∧ ((((0) = (0)) ∧ (((0) = (0)) ∧ ((true) = (true)))) ∧ ((((4) = (4)) ∧ (((0) = (0)) ∧ ((true) = (true)))) ∧ ((((3) = (3)) ∧ (((0) = (0)) ∧ ((true) = (true)))) ∧ ((((2) = (2)) ∧ (((0) = (0)) ∧ ((true) = (true)))) ∧ ((((1) = (1)) ∧ (((0) = (0)) ∧ ((true) = (true)))) ∧ ((((0) = (0)) ∧ (((0) = (0)) ∧ ((true) = (true)))) ∧ (((c) = (c)) ∧ (((x) = (x)) ∧ True)))))))))))))))) ∧ (true = true) ∧ (((42 : TypeId) = 42) ∧ (((c.1.1 : Int) = c.1.1) ∧ (((c.1.2.1 : List Int) = c.1.2.1) ∧ (((c.1.2.2.1 : List vY) = c.1.2.2.1) ∧ True)))) ∧ (true = true) ∧ (((169 : TypeId) = 169) ∧ ((((17) = (17)) ∧ (((0) = (0)) ∧ ((List.length i.2.2.2.1 + 1 = List.length z20) ∧ ((true) = (true))))) ∧ True)) ∧ (true = true) ∧ (((48 : TypeId) = 48) ∧ (((0 : Int) = 0) ∧ True)) ∧ (true = true) ∧ (((53 : TypeId) = 53) ∧ (((0 : Int) = 0) ∧ (((0 : Int) = 0) ∧ True))) ∧ (true = true) ∧ (((53 : TypeId) = 53) ∧ (((x.1 : Int) = x.1) ∧ (((x.2.1 : Int) = x.2.1) ∧ True))) ∧ (true = true) ∧ (((96 : TypeId) = 96) ∧ (((c.1.1 : Int) = c.1.1) ∧ (((c.1.2.1 : List Int) = c.1.2.1) ∧ (((c.1.2.2.1 : List vY) = c.1.2.2.1) ∧ True)))) ∧ (true = true) ∧ True) <| .ok (.inl ((z18, z19, false, z20, ())))))
def ad2 (x : Int × Int × Unit) (c : ua × Unit) (i : (Int) × (Int) × Bool × (List uc) × Unit) : TT tc :=
 .ite (decide (x.1 > w64 ((gi c.1.2.2.1 i.1 (0, 0, 0, 0, 0, 0, ())).1 * 1000000)))
 (.tt <| .lt (w64 (i.1 + 1) : Int) fun z2 => .lt ((gi c.1.2.2.1 i.1 (0, 0, 0, 0, 0, 0, ())).1 : Int) fun z3 => .vI (vQ z3 z2 (len c.1.2.2.1) c.1.2.2.1 <| tj ∧ True) <| .vI (vH (vX (LoopState.ready : LoopState) (none : Option Code) 64 (#[13] : Array Tmp) (akU (acI Tryz.f58) [1, 1, 0, 1, 0, 0]) (akU (acI Tryz.f58) [1, 1, 0, 1, 0, 1]) <| (vJ (128 : FuncId) <| True ∧ tk ∧ True) ∧ (vJ ((c.1.1, c.1.2.1, c.1.2.2.1, ()) : Int × List Int × List vY × Unit) <| ue ∧ uK ∧ um ∧ uv ∧ uh ∧ ue ∧ vU c x)) <| vH (vK 42 c.1.1 c.1.2.1 c.1.2.2.1) <| vH tR <| vH tn <| vH uf <| vH (vL 53 x.1 x.2.1) <| vH (vK 96 c.1.1 c.1.2.1 c.1.2.2.1) True) <| .ok (.inl ((z2, z3, true, [], ()))))
 (.call (adP ((((gi c.1.2.2.1 i.1 (0, 0, 0, 0, 0, 0, ())).1, (gi c.1.2.2.1 i.1 (0, 0, 0, 0, 0, 0, ())).2.1, (gi c.1.2.2.1 i.1 (0, 0, 0, 0, 0, 0, ())).2.2.1, (gi c.1.2.2.1 i.1 (0, 0, 0, 0, 0, 0, ())).2.2.2.1, (gi c.1.2.2.1 i.1 (0, 0, 0, 0, 0, 0, ())).2.2.2.2.1, (gi c.1.2.2.1 i.1 (0, 0, 0, 0, 0, 0, ())).2.2.2.2.2.1, ()), i.2.1, i.1 == 0, ()), if w64 (i.2.1 * 1000000) > x.1 then w64 (i.2.1 * 1000000) else x.1, if w64 ((gi c.1.2.2.1 i.1 (0, 0, 0, 0, 0, 0, ())).1 * 1000000) < x.2.1 then w64 ((gi c.1.2.2.1 i.1 (0, 0, 0, 0, 0, 0, ())).1 * 1000000) else x.2.1, ())) at0 fun y =>
 .ite (y.2.1 != 0)
 (.ok (.inr (((0, 0, ()), y.2.1, ()))))
 (.need (1 * 16 ≤ 140737488355328) <| .tt <| .lt (w64 (i.1 + 1) : Int) fun z4 => .lt ((gi c.1.2.2.1 i.1 (0, 0, 0, 0, 0, 0, ())).1 : Int) fun z5 => .lt ([(y.1.1, y.1.2.1, ())] : List uc) fun z6 => .vI (vQ z5 z4 (len c.1.2.2.1) c.1.2.2.1 <| tj ∧ True) <| .vI (vH (vM 53 z6) <| vH (vX (LoopState.ready : LoopState) (none : Option Code) 64 (#[13] : Array Tmp) (akU (acI Tryz.f58) [1, 1, 0, 1, 0, 0]) (akU (acI Tryz.f58) [1, 1, 0, 1, 0, 1]) <| (vJ (128 : FuncId) <| True ∧ tk ∧ True) ∧ (vJ ((c.1.1, c.1.2.1, c.1.2.2.1, ()) : Int × List Int × List vY × Unit) <| ue ∧ uK ∧ um ∧ uv ∧ uh ∧ ue ∧ vU c x)) <| vH (vK 42 c.1.1 c.1.2.1 c.1.2.2.1) <| vH (vJ 169 <| (vN 17 0 1 true) ∧ True) <| vH tn <| vH uf <| vH (vL 53 x.1 x.2.1) <| vH (vK 96 c.1.1 c.1.2.1 c.1.2.2.1) True) <| .ok (.inl ((z4, z5, false, z6, ())))))
def ai3 (c : ua × Unit) (x : Int × Int × Unit) (i : (Int) × (Int) × Bool × (List uc) × Unit) : TT tc :=
 .ite (i.2.2.1)
 (.ite (decide (i.1 < len c.1.2.2.1))
  (.need (inb i.1 (len c.1.2.2.1)) <| .ite (!i.1 == 0)
   (.ite (decide (x.2.1 ≤ w64 (i.2.1 * 1000000)))
    (.tt <| .lt (w64 (i.1 + 1) : Int) fun z => .lt ((gi c.1.2.2.1 i.1 (0, 0, 0, 0, 0, 0, ())).1 : Int) fun z1 => .vI (vQ z1 z (len c.1.2.2.1) c.1.2.2.1 <| tj ∧ True) <| .vI (vH (vX (LoopState.ready : LoopState) (none : Option Code) 64 (#[13] : Array Tmp) (akU (acI Tryz.f58) [1, 1, 0, 1, 0, 0]) (akU (acI Tryz.f58) [1, 1, 0, 1, 0, 1]) <| (vJ (128 : FuncId) <| True ∧ tk ∧ True) ∧ (vJ ((c.1.1, c.1.2.1, c.1.2.2.1, ()) : Int × List Int × List vY × Unit) <| ue ∧ uK ∧ um ∧ uv ∧ uh ∧ ue ∧ vU c x)) <| vH (vK 42 c.1.1 c.1.2.1 c.1.2.2.1) <| vH tR <| vH tn <| vH uf <| vH (vL 53 x.1 x.2.1) <| vH (vK 96 c.1.1 c.1.2.1 c.1.2.2.1) True) <| .ok (.inl ((z, z1, true, [], ()))))
    (ad2 x c i))
   (ad2 x c i))
  (.call (ah8 ([], ())) at0 fun y2 =>
   .ok (.inr (((y2.1.1, y2.1.2.1, ()), y2.2.1, ())))))
 (.ite (decide (i.1 < len c.1.2.2.1))
  (.need (inb i.1 (len c.1.2.2.1)) <| .ite (!i.1 == 0)
   (.ite (decide (x.2.1 ≤ w64 (i.2.1 * 1000000)))
    (.tt <| .lt (w64 (i.1 + 1) : Int) fun z12 => .lt ((gi c.1.2.2.1 i.1 (0, 0, 0, 0, 0, 0, ())).1 : Int) fun z13 => .lt (i.2.2.2.1 : List uc) fun z14 => .vI (vQ z13 z12 (len c.1.2.2.1) c.1.2.2.1 <| tj ∧ True) <| .vI (vH (vM 53 z14) <| vH (vX (LoopState.ready : LoopState) (none : Option Code) 64 (#[13] : Array Tmp) (akU (acI Tryz.f58) [1, 1, 0, 1, 0, 0]) (akU (acI Tryz.f58) [1, 1, 0, 1, 0, 1]) <| (vJ (128 : FuncId) <| True ∧ tk ∧ True) ∧ (vJ ((c.1.1, c.1.2.1, c.1.2.2.1, ()) : Int × List Int × List vY × Unit) <| ue ∧ uK ∧ um ∧ uv ∧ uh ∧ ue ∧ vU c x)) <| vH (vK 42 c.1.1 c.1.2.1 c.1.2.2.1) <| vH (vJ 169 <| (vN 17 0 (List.length z14) true) ∧ True) <| vH tn <| vH uf <| vH (vL 53 x.1 x.2.1) <| vH (vK 96 c.1.1 c.1.2.1 c.1.2.2.1) True) <| .ok (.inl ((z12, z13, false, z14, ()))))
    (ad3 x c i))
   (ad3 x c i))
  (.call (ah8 (List.take (List.length i.2.2.2.1) i.2.2.2.1, ())) at0 fun y5 =>
   .ok (.inr (((y5.1.1, y5.1.2.1, ()), y5.2.1, ())))))
def agL (c : ua × Unit) (x : Int × Int × Unit) : TT ul :=
 .tt <| .tt <| .tt <| .tt <| .loop 0 (.tt <| .vI (vQ (0 : Int) (0 : Int) (len c.1.2.2.1) c.1.2.2.1 <| tj ∧ True) <| .vI (vH (vX (LoopState.ready : LoopState) (none : Option Code) 64 (#[13] : Array Tmp) (akU (acI Tryz.f58) [1, 1, 0, 1, 0, 0]) (akU (acI Tryz.f58) [1, 1, 0, 1, 0, 1]) <| (vJ (128 : FuncId) <| True ∧ tk ∧ True) ∧ (vJ ((c.1.1, c.1.2.1, c.1.2.2.1, ()) : Int × List Int × List vY × Unit) <| ue ∧ uK ∧ um ∧ uv ∧ uh ∧ ue ∧ vU c x)) <| vH (vK 42 c.1.1 c.1.2.1 c.1.2.2.1) <| vH tR <| vH tn <| vH uf <| vH (vL 53 x.1 x.2.1) <| vH (vK 96 c.1.1 c.1.2.1 c.1.2.2.1) True) <| .ok ((0, 0, true, [], ()))) (ai3 c x)
end
theorem anQ : ∀ (l : List adS) (last : Int), agA last l → ∀ j, j < l.length → last < (l.getD j zs).1 ∧ (j + 1 < l.length → (l.getD j zs).1 < (l.getD (j + 1) zs).1)
 | [], _, _, j, hj => by cases hj
 | s :: r, last, h, 0, _ => by
  refine ⟨by have := h.1.2.1; show last < s.1; omega, fun h2 => ?_⟩
  have := (anQ r s.1 h.2 0 (by simpa using h2)).1
  exact this
 | s :: r, last, h, j + 1, hj => by
  have := anQ r s.1 h.2 j (by simpa using hj)
  refine ⟨by have := h.1.2.1; have := this; show last < (r.getD j zs).1; omega, fun h2 => this.2 (by simpa using h2)⟩
theorem aPs {l : List adS} (h : ab6 l) {i j : Nat} (hij : i < j) (hj : j < l.length) : (l.getD i zs).1 < (l.getD j zs).1 := by
 induction j with
 | zero => omega
 | succ j ih =>
  have h1 := (anQ l 0 h.2.2 j zc).2 hj
  rcases zr i j with g | g
  ·have := ih g zc; omega
  ·obtain rfl : i = j := zc
   exact h1
theorem arB {n : Int} {l : List adS} (h : ab6 l) (hn : inU n) : aa7 n l < l.length ∧ n ≤ (l.getD (aa7 n l) zs).1 * 1000000 ∧ ∀ j, j < aa7 n l → ¬ n ≤ (l.getD j zs).1 * 1000000 := by
 have h1 : aa7 n l < l.length := by
  obtain ⟨s, hs, e⟩ := anR l 0 h.2.2 zc
  exact List.findIdx_lt_length_of_exists ⟨s, hs, zo (by rw [e]; exact hn.2)⟩
 refine ⟨h1, ?_, fun j hj => ?_⟩
 ·have := List.findIdx_getElem (p := fun s : adS => decide (n ≤ s.1 * 1000000)) (xs := l) (w := h1)
  rw [arP h1]
  exact of_decide_eq_true this
 ·have := List.not_of_lt_findIdx (p := fun s : adS => decide (n ≤ s.1 * 1000000)) (xs := l) hj
  rw [arP (show j < l.length by omega)]
  simpa using this
theorem amF {n : Int} {l : List adS} (h : ab6 l) (hn : inU n) {k : Nat} (hk : k < l.length) : n ≤ (l.getD k zs).1 * 1000000 ↔ aa7 n l ≤ k := by
 obtain ⟨h1, h2, h3⟩ := arB h hn
 constructor
 ·intro g
  rcases zr k (aa7 n l) with c | c
  ·exact absurd g (h3 k c)
  ·exact c
 ·intro g
  rcases zr (aa7 n l) k with c | c
  ·have := aPs h c hk; omega
  ·obtain rfl : aa7 n l = k := zc
   exact h2
theorem akD {n : Int} {l : List adS} (h : ab6 l) (hn : inU n) {k : Nat} (hk0 : k ≠ 0) (hk : k < l.length) : n ≤ ab7 l k * 1000000 ↔ aa7 n l < k := by
 unfold ab7
 rw [if_neg hk0, amF h hn (show k - 1 < l.length by omega)]
 omega
theorem aJu {l : List adS} (h : ab6 l) {k : Nat} (hk : k ≤ l.length) : inR (ab7 l k) 0 1000000 := by
 unfold ab7
 split
 ·exact ⟨by omega, by omega⟩
 ·exact (aAW h (show k - 1 < l.length by omega)).2
theorem aNH {s : adS} {a b : Int} (h : (ayE s a b).2.1 = 0) : okB (ayE s a b).1.1 (ayE s a b).1.2.1 := by
 unfold ayE at *
 generalize aJP (ayD s a b) s.2.2.2.1 s.2.2.2.2.1 = w at *
 by_cases c1 : w.2.1 = 0
 case neg => rw [if_pos c1] at h; exact absurd h c1
 rw [if_neg (fun h => h c1)] at h ⊢
 have hok := @aHt w.1 (s.2.2.2.2.2.1 * 1000000, s.2.2.2.2.2.1 * 1000000, ())
 generalize aMY w.1 (s.2.2.2.2.2.1 * 1000000, s.2.2.2.2.2.1 * 1000000, ()) = z at *
 by_cases c2 : z.2.1 = 0
 case neg => rw [if_pos c2] at h; exact absurd h c2
 rw [if_neg (fun h => h c2)]
 obtain ⟨o1, o2, o3⟩ := hok c2
 unfold aqT okB
 dsimp only
 omega
end Go.Vs
