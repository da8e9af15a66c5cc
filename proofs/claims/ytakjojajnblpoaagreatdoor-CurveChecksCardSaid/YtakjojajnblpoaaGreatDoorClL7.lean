/-
  Trees of what the functions compute, and their laws. Own work; no condition.
-/
import Derived.Test.YtakjojajnblpoaaGreatDoorClL6
import Derived.Test.YtakjojajnblpoaaGreatDoorProg
set_option linter.unusedVariables false
set_option linter.unusedSimpArgs false
namespace Go.Vs
open Go Go.Vg
theorem aGy {p : PcT} {lo hi : Int} (h1 : aeM p.1) (h2 : inU lo) (h3 : inU hi) : adP (p, lo, hi, ()) = some (ayE p.1 lo hi) := by
 unfold adP; exact if_pos ⟨h1, h2, h3⟩
theorem alW (l : List adS) (lo hi : Int) (n k : Nat) (acc : List BdT) : ar9 l lo hi (n + 1) k acc = if (aCm l lo hi k).2.1 ≠ 0 then ((0, 0, ()), (aCm l lo hi k).2.1, ()) else ar9 l lo hi n (k + 1) (acc ++ [(aCm l lo hi k).1]) := rfl
theorem apV (c : CvT × Unit) (x : BdT) (y) (h : ac7 (c, x, ()) = some y) : (agL c x).toO = some y := by
 unfold ac7 at h
 split at h
 case isFalse => cases h
 case isTrue hp =>
 obtain ⟨hl, hlo, hhi, hle⟩ := hp
 dsimp only at hl hlo hhi hle h
 injection h with h
 subst h
 obtain ⟨⟨kind, tab, l, u0⟩, u1⟩ := c
 obtain ⟨lo, hi, u2⟩ := x
 dsimp only at hl hlo hhi hle ⊢
 have hlen := hl.2.1
 obtain ⟨pf1, pf2, pf3⟩ := arB hl hlo
 obtain ⟨pl1, pl2, pl3⟩ := arB hl hhi
 have hfl : aa7 lo l ≤ aa7 hi l := (amF hl hlo pl1).1 zc
 have hlo1 := hlo.1
 have hlo2 := hlo.2
 have hhi1 := hhi.1
 have hhi2 := hhi.2
 unfold agL
 refine uO (0, 0, true, [], ()) rfl ?_
 refine aaL (fun i : Int × Int × Bool × List BdT × Unit => ∃ (k : Nat) (acc : List BdT), k ≤ l.length ∧ i = ((k : Int), ab7 l k, acc.isEmpty, acc, ()) ∧ (k ≤ aa7 lo l → acc = []) ∧ (aa7 lo l < k → acc ≠ []) ∧ acc.length ≤ k ∧ (∀ b ∈ acc, okB b.1 b.2.1) ∧ atI l lo hi = ar9 l lo hi (aa7 hi l + 1 - max k (aa7 lo l)) (max k (aa7 lo l)) acc) (fun i => ((l.length : Int) - i.1).toNat) (fun _ => atI l lo hi) ?_ _ ⟨0, [], by omega, rfl, fun _ => rfl, fun h => by omega, by simp, by simp, by unfold atI; rw [show max 0 (aa7 lo l) = aa7 lo l by omega]⟩
 rintro i ⟨k, acc, k1, rfl, k2, k3, k4, k5, k6⟩
 simp only [ai3, ad2, ad3, aaM]
 rcases zr k l.length with hk | hk
 ·obtain ⟨hn, ht1, ht2⟩ := aAW hl hk
  obtain ⟨hb1, hb2⟩ := aJu hl k1
  have hb3 : ab7 l (k + 1) = (l.getD k zs).1 := by unfold ab7; rw [if_neg zc, xr]
  have hpf := amF hl hlo hk
  have hpl := amF hl hhi hk
  have wb : w64 (ab7 l k * 1000000) = ab7 l k * 1000000 := aaA zc
  have wt : w64 ((l.getD k zs).1 * 1000000) = (l.getD k zs).1 * 1000000 := aaA zc
  have wk : w64 ((k : Int) + 1) = ((k + 1 : Nat) : Int) := by rw [aaA zc]; omega
  have e1 : (if ab7 l k * 1000000 > lo then ab7 l k * 1000000 else lo) = max lo (ab7 l k * 1000000) := by split <;> omega
  have e2 : (if (l.getD k zs).1 * 1000000 < hi then (l.getD k zs).1 * 1000000 else hi) = min hi ((l.getD k zs).1 * 1000000) := by split <;> omega
  have hcall : ∀ b : Bool, adP ((l.getD k zs, ab7 l k, b, ()), (if ab7 l k * 1000000 > lo then ab7 l k * 1000000 else lo), (if (l.getD k zs).1 * 1000000 < hi then (l.getD k zs).1 * 1000000 else hi), ()) = some (aCm l lo hi k) := by
   intro b
   rw [e1, e2]
   exact aGy (p := (l.getD k zs, ab7 l k, b, ())) hn ⟨by omega, by omega⟩ ⟨by omega, by omega⟩
  have hok : (aCm l lo hi k).2.1 = 0 → okB (aCm l lo hi k).1.1 (aCm l lo hi k).1.2.1 := aNH
  rw [wb, wt, wk]
  by_cases ha : acc = []
  ·subst ha
   have hkf : k ≤ aa7 lo l := by
    rcases zr (aa7 lo l) k with g | g
    ·exact absurd rfl (k3 g)
    ·exact g
   refine (fun (hskip : k < aa7 lo l → ((l.getD k zs).1 * 1000000 < lo)) (hcallc : ¬ k < aa7 lo l → ¬ (l.getD k zs).1 * 1000000 < lo) => ?_) (fun g => by omega) (fun g => by omega)
   rw [show max k (aa7 lo l) = aa7 lo l by omega] at k6
   by_cases hkf2 : k < aa7 lo l
   ·left
    refine ⟨(((k + 1 : Nat) : Int), (l.getD k zs).1, true, [], ()), ?_, ⟨k + 1, [], by omega, by rw [hb3]; rfl, fun _ => rfl, fun g => by omega, by simp, by simp, by rw [show max (k + 1) (aa7 lo l) = aa7 lo l by omega]; exact k6⟩, by dsimp only; omega, ze⟩
    refine uT rfl (uT (zo (by rw [aaB]; omega)) (uN ⟨by omega, by rw [aaB]; omega⟩ ?_))
    by_cases h0 : k = 0
    ·exact uF (by rw [h0]; rfl) (uT (zo (hskip hkf2)) rfl)
    ·have hbl := akD hl hhi h0 hk
     exact uT (by rw [zU, beq_eq_false_iff_ne]; omega) (uF sd (uT (zo (hskip hkf2)) rfl))
   ·obtain rfl : k = aa7 lo l := zc
    obtain ⟨m, hm⟩ : ∃ m, aa7 hi l + 1 - aa7 lo l = m + 1 := ⟨aa7 hi l - aa7 lo l, by omega⟩
    rw [hm, alW] at k6
    by_cases he : (aCm l lo hi (aa7 lo l)).2.1 = 0
    ·rw [if_neg (fun h => h he)] at k6
     left
     refine ⟨(((aa7 lo l + 1 : Nat) : Int), (l.getD (aa7 lo l) zs).1, false, [(aCm l lo hi (aa7 lo l)).1], ()), ?_, ⟨aa7 lo l + 1, [(aCm l lo hi (aa7 lo l)).1], by omega, by rw [hb3]; rfl, fun g => by omega, fun _ => by simp, by simp, fun b hb => by rw [zX.1 hb]; exact hok he, by rw [show max (aa7 lo l + 1) (aa7 lo l) = aa7 lo l + 1 by omega, show aa7 hi l + 1 - (aa7 lo l + 1) = m by omega]; exact k6⟩, by dsimp only; omega, ze⟩
     refine uT rfl (uT (zo (by rw [aaB]; omega)) (uN ⟨by omega, by rw [aaB]; omega⟩ ?_))
     by_cases h0 : aa7 lo l = 0
     ·exact uF (by rw [h0]; rfl) (uF (zn (hcallc hkf2)) (uC _ (hcall _) (uF (by rw [he]; rfl) (uN zf rfl))))
     ·have hbl := akD hl hhi h0 hk
      exact uT (by rw [zU, beq_eq_false_iff_ne]; omega) (uF sd (uF (zn (hcallc hkf2)) (uC _ (hcall _) (uF (by rw [he]; rfl) (uN zf rfl)))))
    ·rw [if_pos he] at k6
     right
     rw [k6]
     refine uT rfl (uT (zo (by rw [aaB]; omega)) (uN ⟨by omega, by rw [aaB]; omega⟩ ?_))
     by_cases h0 : aa7 lo l = 0
     ·exact uF (by rw [h0]; rfl) (uF (zn (hcallc hkf2)) (uC _ (hcall _) (uT (by simpa using he) rfl)))
     ·have hbl := akD hl hhi h0 hk
      exact uT (by rw [zU, beq_eq_false_iff_ne]; omega) (uF sd (uF (zn (hcallc hkf2)) (uC _ (hcall _) (uT (by simpa using he) rfl))))
  ·have hkf : aa7 lo l < k := by
    rcases zr (aa7 lo l) k with g | g
    ·exact g
    ·exact absurd (k2 g) ha
   have hne : acc.isEmpty = false := by cases acc with | nil => exact absurd rfl ha | cons a b => rfl
   rw [show max k (aa7 lo l) = k by omega] at k6
   have h0 : k ≠ 0 := zc
   have hbl := akD hl hhi h0 hk
   by_cases hla : aa7 hi l < k
   ·left
    refine ⟨(((k + 1 : Nat) : Int), (l.getD k zs).1, acc.isEmpty, acc, ()), ?_, ⟨k + 1, acc, by omega, by rw [hb3], fun g => by omega, fun _ => ha, by omega, k5, by rw [k6, show max (k + 1) (aa7 lo l) = k + 1 by omega, show aa7 hi l + 1 - k = 0 by omega, show aa7 hi l + 1 - (k + 1) = 0 by omega]; rfl⟩, by dsimp only; omega, ze⟩
    rw [hne]
    exact uF rfl (uT (zo (by rw [aaB]; omega)) (uN ⟨by omega, by rw [aaB]; omega⟩ (uT (by rw [zU, beq_eq_false_iff_ne]; omega) (uT sd rfl))))
   ·obtain ⟨m, hm⟩ : ∃ m, aa7 hi l + 1 - k = m + 1 := ⟨aa7 hi l - k, by omega⟩
    rw [hm, alW] at k6
    by_cases he : (aCm l lo hi k).2.1 = 0
    ·rw [if_neg (fun h => h he)] at k6
     left
     refine ⟨(((k + 1 : Nat) : Int), (l.getD k zs).1, false, acc ++ [(aCm l lo hi k).1], ()), ?_, ⟨k + 1, acc ++ [(aCm l lo hi k).1], by omega, by rw [hb3]; simp, fun g => by omega, fun _ => by simp, by simp; omega, fun b hb => ?_, by rw [show max (k + 1) (aa7 lo l) = k + 1 by omega, show aa7 hi l + 1 - (k + 1) = m by omega]; exact k6⟩, by dsimp only; omega, ze⟩
     ·rw [hne]
      refine uF rfl (uT (zo (by rw [aaB]; omega)) (uN ⟨by omega, by rw [aaB]; omega⟩ (uT (by rw [zU, beq_eq_false_iff_ne]; omega) (uF sd (uF sd (uC _ (hcall _) (uF (by rw [he]; rfl) (uN zc ?_))))))))
      refine uB (uB (uB (uN zi ?_)))
      rw [zt]; rfl
     ·rcases zH.1 hb with g | g
      ·exact k5 b g
      ·rw [zX.1 g]; exact hok he
    ·rw [if_pos he] at k6
     right
     rw [k6, hne]
     exact uF rfl (uT (zo (by rw [aaB]; omega)) (uN ⟨by omega, by rw [aaB]; omega⟩ (uT (by rw [zU, beq_eq_false_iff_ne]; omega) (uF sd (uF sd (uC _ (hcall _) (uT (by simpa using he) rfl)))))))
 ·right
  have ha : acc ≠ [] := k3 zc
  have hne : acc.isEmpty = false := by cases acc with | nil => exact absurd rfl ha | cons a b => rfl
  rw [hne, k6, show aa7 hi l + 1 - max k (aa7 lo l) = 0 by omega]
  refine uF rfl (uF (zn (by rw [aaB]; omega)) (uC (ayL acc, 0, ()) ?_ rfl))
  rw [zt]
  unfold ah8
  exact if_pos ⟨ha, by dsimp only; omega, k5⟩
set_option maxRecDepth 100000
open Go Go.Vg Go.Proofs
noncomputable section
def aME : LTab := []
def aw4 (c : Int × List Int × List vY × Unit) (x : Int × Int × Unit) : TT ul :=
 .call (ac8 ((c.1, c.2.1, c.2.2.1, ()), ())) Dd6 fun y =>
 .ite (y.1 != 0)
 (.ok (((0, 0, ()), y.1, ())))
 (.call (ajN ((x.1, x.2.1, ()), 0, 1000000000000, ())) at0 fun y1 =>
 .ite (y1.2.1 != 0)
 (.ok (((0, 0, ()), y1.2.1, ())))
 (.need (inb (w64 (c.1 - 1)) (↑3 : Int)) <| .ite (w64 (c.1 - 1) == (↑2 : Int))
 (.call (ac7 (((c.1, c.2.1, c.2.2.1, ()), ()), (y1.1.1, y1.1.2.1, ()), ())) at0 fun y2 =>
 .ok (((y2.1.1, y2.1.2.1, ()), y2.2.1, ())))
 (.ite (w64 (c.1 - 1) == (↑1 : Int))
 (.call (ad9 (((c.1, c.2.1, c.2.2.1, ()), ()), (y1.1.1, y1.1.2.1, ()), ())) at0 fun y3 =>
 .ok (((y3.1.1, y3.1.2.1, ()), y3.2.1, ())))
 (.ite (w64 (c.1 - 1) == (↑0 : Int))
 (.call (afW (((c.1, c.2.1, c.2.2.1, ()), ()), (y1.1.1, y1.1.2.1, ()), ())) at0 fun y4 =>
 .ok (((y4.1.1, y4.1.2.1, ()), y4.2.1, ())))
 (.bad)))))
def ayS : LTab := [(57, 58, 11265, ⟨0, (Int) × Bool × (List ub) × Unit, .dat (.s 19) vZ <| .appN (.s 6) 11 36 uS <| .nil, [18, 4, 3, 2], [2, 1, 0], 1⟩), (57, 250, 24577, ⟨1, (Int) × Bool × (List ub) × Unit, .dat (.s 47) vZ <| .appN (.s 6) 24 36 uS <| .nil, [46, 45, 11, 4, 3], [2, 1, 0], 1⟩), (57, 250, 24576, ⟨2, (Int) × (List ub) × Unit, .dat (.s 47) vZ <| .app (.s 6) 24 36 uS <| .nil, [46, 45, 11, 4, 3], [2, 1, 0], 1⟩)]
def awU (c : ua × Unit) (x : Int × Int × Unit) (i : Int × Bool × List ub × Unit) (i1 : (Int) × Bool × (List ub) × Unit) : TT (te ⊕ (te ⊕ ul)) :=
 .ite (i1.2.1)
 (.ite (decide (i1.1 < len c.1.2.1))
 (.need (inb i1.1 (len c.1.2.1)) <| .call (acA (w64 (i1.1 * 1000000000000), w64 (x.1 * w64 (len c.1.2.1 - 1)), w64 (x.2.1 * w64 (len c.1.2.1 - 1)), ())) Dd1 fun y2 =>
 .ite (y2.1)
 (.call (abW (gi c.1.2.1 i1.1 0, 65535, ())) afF fun y3 =>
 .need (1 * 32 ≤ 140737488355328) <| .tt <| .lt (w64 (i1.1 + 1) : Int) fun z2 => .lt ([(y3.1.1, y3.1.2.1, ())] : List ub) fun z3 => .vI ((vN 24 0 1 true) ∧ (vQ z2 (len c.1.2.1) c.1.2.1 (w64 (len c.1.2.1 - 1)) <| uv ∧ uh ∧ True)) <| .vI (vH (vM 36 z3) <| vH uf <| vH (vL 53 x.1 x.2.1) <| vH (vK 96 c.1.1 c.1.2.1 c.1.2.2.1) True) <| .ok (.inl ((z2, false, z3, ()))))
 (.tt <| .lt (w64 (i1.1 + 1) : Int) fun z4 => .vI (True ∧ (vQ z4 (len c.1.2.1) c.1.2.1 (w64 (len c.1.2.1 - 1)) <| uv ∧ uh ∧ True)) <| .vI (vH uf <| vH (vL 53 x.1 x.2.1) <| vH (vK 96 c.1.1 c.1.2.1 c.1.2.2.1) True) <| .ok (.inl ((z4, true, [], ())))))
 (.call (aeR ([], ())) at0 fun y4 =>
 .ok (.inr (.inr (((y4.1.1, y4.1.2.1, ()), y4.2.1, ()))))))
 (.ite (decide (i1.1 < len c.1.2.1))
 (.need (inb i1.1 (len c.1.2.1)) <| .call (acA (w64 (i1.1 * 1000000000000), w64 (x.1 * w64 (len c.1.2.1 - 1)), w64 (x.2.1 * w64 (len c.1.2.1 - 1)), ())) Dd1 fun y5 =>
 .ite (y5.1)
 (.call (abW (gi c.1.2.1 i1.1 0, 65535, ())) afF fun y6 =>
 .need ((List.length i1.2.2.1 + 1) * 32 ≤ 140737488355328) <| .tt <| .lt (w64 (i1.1 + 1) : Int) fun z5 => .lt (List.take (List.length i1.2.2.1) i1.2.2.1 ++ [(y6.1.1, y6.1.2.1, ())] : List ub) fun z6 => .need ((((24) = (24)) ∧ (((0) = (0)) ∧ ((List.length i1.2.2.1 + 1 = List.length z6) ∧ ((true) = (true))))) ∧ ((z5 : Int) = z5) ∧ ((len c.1.2.1 : Int) = len c.1.2.1) ∧ ((c.1.2.1 : List Int) = c.1.2.1) ∧ ((w64 (len c.1.2.1 - 1) : Int) = w64 (len c.1.2.1 - 1)) ∧ (((2) = (2)) ∧ (((0) = (0)) ∧ ((true) = (true)))) ∧ (((1) = (1)) ∧ (((0) = (0)) ∧ ((true) = (true)))) ∧ True) <| .vI (vH (vM 36 z6) <| vH uf <| vH (vL 53 x.1 x.2.1) <| vH (vK 96 c.1.1 c.1.2.1 c.1.2.2.1) True) <| .ok (.inl ((z5, false, z6, ()))))
 (.tt <| .lt (w64 (i1.1 + 1) : Int) fun z7 => .lt (i1.2.2.1 : List ub) fun z8 => .vI ((vN 24 0 (List.length z8) true) ∧ (vQ z7 (len c.1.2.1) c.1.2.1 (w64 (len c.1.2.1 - 1)) <| uv ∧ uh ∧ True)) <| .vI (vH (vM 36 z8) <| vH uf <| vH (vL 53 x.1 x.2.1) <| vH (vK 96 c.1.1 c.1.2.1 c.1.2.2.1) True) <| .ok (.inl ((z7, false, z8, ())))))
 (.call (aeR (List.take (List.length i1.2.2.1) i1.2.2.1, ())) at0 fun y7 =>
 .ok (.inr (.inr (((y7.1.1, y7.1.2.1, ()), y7.2.1, ()))))))
def ahE (c : ua × Unit) (x : Int × Int × Unit) (i : Int × Bool × List ub × Unit) (i2 : (Int) × (List ub) × Unit) : TT (((Int) × (List ub) × Unit) ⊕ (te ⊕ ul)) :=
 .ite (decide (i2.1 < len c.1.2.1))
 (.need (inb i2.1 (len c.1.2.1)) <| .call (acA (w64 (i2.1 * 1000000000000), w64 (x.1 * w64 (len c.1.2.1 - 1)), w64 (x.2.1 * w64 (len c.1.2.1 - 1)), ())) Dd1 fun y10 =>
 .ite (y10.1)
 (.call (abW (gi c.1.2.1 i2.1 0, 65535, ())) afF fun y11 =>
 .need ((List.length i2.2.1 + 1) * 32 ≤ 140737488355328) <| .tt <| .lt (w64 (i2.1 + 1) : Int) fun z12 => .lt (List.take (List.length i2.2.1) i2.2.1 ++ [(y11.1.1, y11.1.2.1, ())] : List ub) fun z13 => .need ((((24) = (24)) ∧ (((0) = (0)) ∧ ((List.length i2.2.1 + 1 = List.length z13) ∧ ((true) = (true))))) ∧ ((z12 : Int) = z12) ∧ ((len c.1.2.1 : Int) = len c.1.2.1) ∧ ((c.1.2.1 : List Int) = c.1.2.1) ∧ ((w64 (len c.1.2.1 - 1) : Int) = w64 (len c.1.2.1 - 1)) ∧ (((2) = (2)) ∧ (((0) = (0)) ∧ ((true) = (true)))) ∧ (((1) = (1)) ∧ (((0) = (0)) ∧ ((true) = (true)))) ∧ True) <| .vI (vH (vM 36 z13) <| vH uf <| vH (vL 53 x.1 x.2.1) <| vH (vK 96 c.1.1 c.1.2.1 c.1.2.2.1) True) <| .ok (.inl ((z12, z13, ()))))
 (.tt <| .lt (w64 (i2.1 + 1) : Int) fun z14 => .lt (i2.2.1 : List ub) fun z15 => .vI ((vN 24 0 (List.length z15) true) ∧ (vQ z14 (len c.1.2.1) c.1.2.1 (w64 (len c.1.2.1 - 1)) <| uv ∧ uh ∧ True)) <| .vI (vH (vM 36 z15) <| vH uf <| vH (vL 53 x.1 x.2.1) <| vH (vK 96 c.1.1 c.1.2.1 c.1.2.2.1) True) <| .ok (.inl ((z14, z15, ())))))
 (.call (aeR (List.take (List.length i2.2.1) i2.2.1, ())) at0 fun y12 =>
 .ok (.inr (.inr (((y12.1.1, y12.1.2.1, ()), y12.2.1, ())))))
def awV (c : ua × Unit) (x : Int × Int × Unit) (i : (Int) × Bool × (List ub) × Unit) : TT (te ⊕ ul) :=
 .ite (i.2.1)
 (.ite (decide (i.1 < 2))
 (.need (inb i.1 (↑2 : Int)) <| .call (abW (gi [x.1, x.2.1] i.1 0, 1000000000000, ())) afF fun y =>
 .call (afV (((c.1.1, c.1.2.1, c.1.2.2.1, ()), ()), y.1, ())) af6 fun y1 =>
 .ite (y1.2.1 != 0)
 (.ok (.inr (((0, 0, ()), y1.2.1, ()))))
 (.need (1 * 32 ≤ 140737488355328) <| .tt <| .lt (w64 (i.1 + 1) : Int) fun z => .lt ([(y1.1.1, y1.1.2.1, ())] : List ub) fun z1 => .vI ((vN 11 0 1 true) ∧ (vP z ([x.1, x.2.1] : List Int) <| uv ∧ uh ∧ ue ∧ True)) <| .vI (vH (vM 36 z1) <| vH uf <| vH (vL 53 x.1 x.2.1) <| vH (vK 96 c.1.1 c.1.2.1 c.1.2.2.1) True) <| .ok (.inl ((z, false, z1, ())))))
 (.loop 1 (.tt <| .vI (True ∧ (vQ (0 : Int) (len c.1.2.1) c.1.2.1 (w64 (len c.1.2.1 - 1)) <| uv ∧ uh ∧ True)) <| .vI (vH uf <| vH (vL 53 x.1 x.2.1) <| vH (vK 96 c.1.1 c.1.2.1 c.1.2.2.1) True) <| .ok ((0, true, [], ()))) (awU c x i)))
 (.ite (decide (i.1 < 2))
 (.need (inb i.1 (↑2 : Int)) <| .call (abW (gi [x.1, x.2.1] i.1 0, 1000000000000, ())) afF fun y8 =>
 .call (afV (((c.1.1, c.1.2.1, c.1.2.2.1, ()), ()), y8.1, ())) af6 fun y9 =>
 .ite (y9.2.1 != 0)
 (.ok (.inr (((0, 0, ()), y9.2.1, ()))))
 (.need ((List.length i.2.2.1 + 1) * 32 ≤ 140737488355328) <| .tt <| .lt (w64 (i.1 + 1) : Int) fun z9 => .lt (List.take (List.length i.2.2.1) i.2.2.1 ++ [(y9.1.1, y9.1.2.1, ())] : List ub) fun z10 => .need ((((11) = (11)) ∧ (((0) = (0)) ∧ ((List.length i.2.2.1 + 1 = List.length z10) ∧ ((true) = (true))))) ∧ ((z9 : Int) = z9) ∧ (([x.1, x.2.1] : List Int) = [x.1, x.2.1]) ∧ (((2) = (2)) ∧ (((0) = (0)) ∧ ((true) = (true)))) ∧ (((1) = (1)) ∧ (((0) = (0)) ∧ ((true) = (true)))) ∧ (((0) = (0)) ∧ (((0) = (0)) ∧ ((true) = (true)))) ∧ True) <| .vI (vH (vM 36 z10) <| vH uf <| vH (vL 53 x.1 x.2.1) <| vH (vK 96 c.1.1 c.1.2.1 c.1.2.2.1) True) <| .ok (.inl ((z9, false, z10, ())))))
 (.loop 2 (.tt <| .lt (i.2.2.1 : List ub) fun z11 => .vI ((vN 24 0 (List.length z11) true) ∧ (vQ (0 : Int) (len c.1.2.1) c.1.2.1 (w64 (len c.1.2.1 - 1)) <| uv ∧ uh ∧ True)) <| .vI (vH (vM 36 z11) <| vH uf <| vH (vL 53 x.1 x.2.1) <| vH (vK 96 c.1.1 c.1.2.1 c.1.2.2.1) True) <| .ok ((0, z11, ()))) (ahE c x i)))
def aiL (c : ua × Unit) (x : Int × Int × Unit) : TT ul :=
 .loop 0 (.tt <| .vI (True ∧ (vP (0 : Int) ([x.1, x.2.1] : List Int) <| uv ∧ uh ∧ ue ∧ True)) <| .vI (vH uf <| vH (vL 53 x.1 x.2.1) <| vH (vK 96 c.1.1 c.1.2.1 c.1.2.2.1) True) <| .ok ((0, true, [], ()))) (awV c x)
end
theorem aeK {l : List Int} (ht : adE l) {n : Int} (hn : inU n) :
  aNA l (mkRat n 1000000000000) = some (mkRat (aqP l n) 65535000000000000) ∧ aeI (mkRat (aqP l n) 65535000000000000) ∧ 0 ≤ aqP l n ∧ aqP l n ≤ 65535000000000000 := by
 have hl1 := ht.1
 have hl2 := ht.2.1
 obtain ⟨n1, n2⟩ := hn
 obtain ⟨P, hP⟩ : ∃ P, P = n * ((l.length - 1 : Nat) : Int) := ⟨_, rfl⟩
 have hP0 : 0 ≤ P := by rw [hP]; exact yg n1 zc
 have hP1 : P ≤ 1000000000000 * ((l.length - 1 : Nat) : Int) := by rw [hP]; exact zD n2 zc
 obtain ⟨i, hi⟩ : ∃ i, i = aCZ l n := ⟨_, rfl⟩
 have hi' : i = min (P / 1000000000000).toNat (l.length - 2) := by rw [hi, hP]; rfl
 have hi2 : i ≤ l.length - 2 := zc
 obtain ⟨A, hA⟩ : ∃ A, A = P - (i : Int) * 1000000000000 := ⟨_, rfl⟩
 have hA0 : 0 ≤ A := zc
 have hA1 : A ≤ 1000000000000 := zc
 obtain ⟨v1, v2⟩ := ajP ht (show i < l.length by omega)
 obtain ⟨w1, w2⟩ := ajP ht (show i + 1 < l.length by omega)
 have hM : aqP l n = l.getD i 0 * 1000000000000 + A * (l.getD (i + 1) 0 - l.getD i 0) := by unfold aqP; rw [← hi, ← hP, ← hA]
 have hpl : aiV l (mkRat P 1000000000000) = i := by
  unfold aiV
  rw [Rat.floor_def, show (mkRat P 1000000000000).num / (mkRat P 1000000000000).den = fl (mkRat P 1000000000000) from rfl, auC _ zc, hi']
  rfl
 obtain ⟨v, hv⟩ : ∃ v, v = l.getD i 0 := ⟨_, rfl⟩
 obtain ⟨w, hw⟩ : ∃ w, w = l.getD (i + 1) 0 := ⟨_, rfl⟩
 rw [← hv] at v1 v2 hM
 rw [← hw] at w1 w2 hM
 have q1 : 0 ≤ v * (1000000000000 - A) := yg v1 zc
 have q2 : 0 ≤ w * A := yg w1 hA0
 have q3 : 0 ≤ (65535 - v) * (1000000000000 - A) := yg zc zc
 have q4 : 0 ≤ (65535 - w) * A := yg zc hA0
 have eM : aqP l n = v * (1000000000000 - A) + w * A := by rw [hM]; grind
 have hM0 : 0 ≤ aqP l n := zc
 have hM1 : aqP l n ≤ 65535000000000000 := by
  have : (65535 - v) * (1000000000000 - A) + (65535 - w) * A = 65535000000000000 - (v * (1000000000000 - A) + w * A) := by grind
  omega
 have hAd : A * (w - v) = w * A - v * A := by grind
 have r1 : 0 ≤ v * A := yg v1 hA0
 have r2 : v * A ≤ 65535 * A := zD v2 hA0
 have r3 : w * A ≤ 65535 * A := zD w2 hA0
 have f1 : aeI (mkRat P 1000000000000) := aeF zc (afG zc zc) (afG zc zc)
 have f2 : aeI (mkRat A 1000000000000) := aeF zc (afG zc zc) (afG zc zc)
 have f3 : aeI (mkRat (A * (w - v)) 1000000000000) := aeF zc (afG zc zc) (afG zc zc)
 have f4 : aeI (mkRat (aqP l n) 1000000000000) := aeF zc (afG zc zc) (afG zc zc)
 have f5 : aeI (mkRat (aqP l n) 65535000000000000) := aeF zc (afG zc zc) (afG zc zc)
 refine ⟨?_, f5, hM0, hM1⟩
 unfold aNA
 rw [yS, ← hP, xG]
 unfold acV
 rw [if_pos f1]
 simp only [zY]
 rw [hpl, ← hv, ← hw]
 have g2 : mkRat P 1000000000000 - mkRat (i : Int) 1 = mkRat A 1000000000000 := by
  rw [Rat.sub_eq_add_neg, Rat.neg_mkRat, xC _ _ zc zc, xG, hA]
  congr 1; omega
 rw [g2, if_pos f2]
 simp only [zY]
 rw [yS, xG, if_pos f3]
 simp only [zY]
 have g4 : mkRat v 1 + mkRat (A * (w - v)) 1000000000000 = mkRat (aqP l n) 1000000000000 := by
  rw [xC _ _ zc zc, Nat.one_mul, hM]
  congr 1; omega
 rw [g4, if_pos f4]
 simp only [zY]
 have g5 : mkRat (aqP l n) 1000000000000 / mkRat 65535 1 = mkRat (aqP l n) 65535000000000000 := by
  have hm : mkRat (aqP l n) 1000000000000 = mkRat (aqP l n) 65535000000000000 * mkRat 65535 1 := by
   rw [yS, yj zc zc]; omega
  rw [hm, Rat.div_def, Rat.mul_assoc, Rat.mul_inv_cancel _ (aG9 zc), Rat.mul_one]
 rw [g5, if_pos f5]
theorem aiQ {m : Int} (h0 : 0 ≤ m) (h1 : m ≤ 65535000000000000) : af8 (mkRat m 65535000000000000) (mkRat m 65535000000000000) = (aQG m, 0, ()) := by
 rw [aAM _ zc]
 have e1 : m * 1000000000000 / ((65535000000000000 : Nat) : Int) = m / 65535 := zc
 have e2 : -(m * 1000000000000) / ((65535000000000000 : Nat) : Int) = -m / 65535 := zc
 rw [e1, e2]
 unfold mkB aQG
 rw [if_pos ⟨by omega, by omega, by omega⟩]
theorem aNo {b : BdT} (h : okB b.1 b.2.1) : inU (aqT b).1 ∧ inU (aqT b).2.1 ∧ (aqT b).1 ≤ (aqT b).2.1 := by
 obtain ⟨h1, h2, h3⟩ := h
 unfold aqT inU inR
 dsimp only
 omega
theorem aoI (c : CvT × Unit) (x : BdT) (y) (h : afW (c, x, ()) = some y) : (ai2 c x).toO = some y := h
theorem aGk (c : CvT) (x : BdT) (y) (h : agK (c, x, ()) = some y) : (aw4 c x).toO = some y := by
 injection h with h
 subst h
 obtain ⟨kind, tab, l, u0⟩ := c
 obtain ⟨blo, bhi, u1⟩ := x
 unfold aw4
 dsimp only
 refine uC _ (aqO (kind, tab, l, ())) ?_
 by_cases hr : abF (kind, tab, l, ())
 case neg =>
  have hr' : ¬ abF (kind, tab, l, u0) := hr
  rw [if_neg hr', if_neg hr]
  exact uT rfl rfl
 have hr' : abF (kind, tab, l, u0) := hr
 rw [if_pos hr', if_pos hr]
 refine uF rfl ?_
 by_cases hb : okB blo bhi
 case neg =>
  rw [if_neg hb]
  refine uC ((0, 0, ()), 30, ()) (by unfold ajN aAn; dsimp only; rw [if_neg hb]) ?_
  exact uT rfl rfl
 rw [if_pos hb]
 refine uC (aqT (blo, bhi, u1), 0, ()) (by unfold ajN; exact congrArg some (awP (b := (blo, bhi, u1)) hb)) (uF rfl ?_)
 obtain ⟨g1, g2, g3⟩ := aNo (b := (blo, bhi, u1)) hb
 generalize aqT (blo, bhi, u1) = z at g1 g2 g3 ⊢
 unfold aHs
 dsimp only
 rcases hr with ⟨k1, k2, k3⟩ | ⟨k1, k2, k3⟩ | ⟨k1, k2, k3⟩
 ·dsimp only at k1; subst k1
  exact uN ⟨by decide, by decide⟩ (uF rfl (uF rfl (uT rfl (uC (z, 0, ()) rfl rfl))))
 ·dsimp only at k1; subst k1
  exact uN ⟨by decide, by decide⟩ (uF rfl (uT rfl (uC (apX tab z.1 z.2.1, 0, ()) (by unfold ad9; exact if_pos ⟨k2, g1, g2, g3⟩) rfl)))
 ·dsimp only at k1; subst k1
  exact uN ⟨by decide, by decide⟩ (uT rfl (uC (atI l z.1 z.2.1) (by unfold ac7; exact if_pos ⟨k3, g1, g2, g3⟩) rfl))
theorem aMJ {k : Nat} {n : Int} {d : Nat} (hd : d ≠ 0) (h1 : Bd k n.natAbs) (h2 : Bd k d) : BdQ k (mkRat n d) := by
 obtain ⟨g, t, hg, g0, e0, f1, f2⟩ := aeD n hd
 refine ⟨?_, ?_⟩
 ·rw [f1, ← acS e0 g0]; exact aaR _ h1
 ·rw [f2]; exact aaR _ h2
theorem aRr {n : Int} (h : abD n) : BdQ 0 (mkRat n 1000000000000) := aMJ zc (aDz h) (aaG zc)
theorem aP2 (n : Int) : mkRat n 1000000000000 * akV = (n : Rat) := apB n zc
theorem aC2 : (0 : Rat) < akV := by unfold akV; decide
theorem aEJ (n : Int) (q : Rat) : mkRat n 1000000000000 ≤ q ↔ (n : Rat) ≤ q * akV := by
 rw [← aP2 n]
 constructor
 ·intro h; exact Rat.mul_le_mul_of_nonneg_right h (Rat.le_of_lt aC2)
 ·intro h; exact Rat.le_of_mul_le_mul_right h aC2
theorem aHT (m : Int) : mkRat m 1000000000000 * akV = (m : Rat) := by
 rw [aG1, yS, xG, ← ad5, yj zc zc]; omega
theorem aAL (n m : Int) : mkRat n 1000000000000 ≤ mkRat m 1000000000000 ↔ n ≤ m := by
 rw [aEJ, aHT]; exact vk
theorem aPr (n m : Int) : mkRat n 1000000000000 < mkRat m 1000000000000 ↔ n < m := by
 rw [← Rat.not_le, aAL]; omega
theorem aII (t : Int) : mkRat t 1000000 = mkRat (t * 1000000) 1000000000000 := by
 rw [yj zc zc]; omega
theorem arA (n : Int) (l : List adS) : afI (mkRat n 1000000000000) l = aa7 n l := by
 unfold afI aa7
 congr 1
 funext s
 rw [aII, decide_eq_decide]
 exact aAL _ _
theorem aGD : mkRat 1000000000000 1000000000000 = (1 : Rat) := zf
theorem auQ {n : Int} (h : inU n) : mkRat n 1000000000000 ≤ 1 := by
 rw [← aGD, aAL]; exact h.2
theorem aoG {n : Int} (h : inU n) : aeN (mkRat n 1000000000000) = mkRat n 1000000000000 := by
 have h0 : ¬ mkRat n 1000000000000 < 0 := by
  have : (0 : Rat) = mkRat 0 1000000000000 := zf
  rw [this, aPr]; have := h.1; omega
 have h1 : ¬ mkRat n 1000000000000 > 1 := vD.2 (auQ h)
 unfold aeN
 rw [if_neg h0, if_neg h1]
theorem aKr {c : CvT} (h : abF c) : shC c := by
 rcases h with ⟨h1, h2, h3⟩ | ⟨h1, h2, h3⟩ | ⟨h1, h2, h3⟩
 ·unfold shC; rw [h2, h3]; exact ⟨by simp, by simp⟩
 ·unfold shC; rw [h3]; exact ⟨by have := h2.2.1; omega, by simp⟩
 ·unfold shC; rw [h2]; exact ⟨by simp, by have := h3.2.1; omega⟩
theorem aCx (v : Int) : mkRat v 65535 = mkRat (v * 1000000000000) 65535000000000000 := by
 rw [yj zc zc]; omega
def aoR (l : List Int) (lo hi : Int) (k : Nat) : List Rat := mkRat (aqP l lo) 65535000000000000 :: mkRat (aqP l hi) 65535000000000000 :: ((List.range k).filter (aFG l lo hi)).map (fun j => mkRat (l.getD j 0) 65535)
theorem aHX (l : List Int) (lo hi : Int) (k : Nat) : aoR l lo hi (k + 1) = if aFG l lo hi k then aoR l lo hi k ++ [mkRat (l.getD k 0) 65535] else aoR l lo hi k := by
 unfold aoR
 rw [List.range_succ, List.filter_append, xR]
 cases h : aFG l lo hi k
 ·simp [List.filter, h]
 ·simp [List.filter, h]
theorem aKb (l : List Int) (lo hi : Int) (k : Nat) : (aoR l lo hi k).length ≤ k + 2 := by
 unfold aoR
 have := List.length_filter_le (aFG l lo hi) (List.range k)
 simp only [zG, vv, List.length_range] at *
 omega
theorem aKc {l : List Int} (ht : adE l) {lo hi : Int} (h1 : inU lo) (h2 : inU hi) {k : Nat} (hk : k ≤ l.length) : ∀ q ∈ aoR l lo hi k, aeI q ∧ (af8 q q).2.1 = 0 := by
 intro q hq
 obtain ⟨-, a2, a3, a4⟩ := aeK ht h1
 obtain ⟨-, b2, b3, b4⟩ := aeK ht h2
 rcases zy.1 hq with g | g
 ·subst g; exact ⟨a2, by rw [aiQ a3 a4]⟩
 rcases zy.1 g with g | g
 ·subst g; exact ⟨b2, by rw [aiQ b3 b4]⟩
 obtain ⟨j, hj, rfl⟩ := zM.1 g
 have hj2 : j < k := List.mem_range.1 (wu.1 hj).1
 obtain ⟨v1, v2⟩ := ajP ht (show j < l.length by omega)
 rw [aCx]
 refine ⟨aeF zc (afG zc zc) (afG zc zc), ?_⟩
 rw [aiQ zc zc]
theorem aEK {l : List Int} (ht : adE l) {lo hi : Int} (h1 : inU lo) (h2 : inU hi) {k : Nat} (hk : k ≤ l.length) : (aoR l lo hi k).map (fun q => (af8 q q).1) = aPt l lo hi k := by
 obtain ⟨-, a2, a3, a4⟩ := aeK ht h1
 obtain ⟨-, b2, b3, b4⟩ := aeK ht h2
 unfold aoR aPt
 rw [vl, vl, List.map_map, aiQ a3 a4, aiQ b3 b4]
 congr 2
 refine List.map_congr_left (fun j hj => ?_)
 have hj2 : j < k := List.mem_range.1 (wu.1 hj).1
 obtain ⟨v1, v2⟩ := ajP ht (show j < l.length by omega)
 show (af8 (mkRat (l.getD j 0) 65535) (mkRat (l.getD j 0) 65535)).1 = _
 rw [aCx, aiQ zc zc]
theorem aJN {r : List Rat} (h1 : r ≠ []) (h2 : r.length ≤ 1000000) (h3 : ∀ q ∈ r, aeI q ∧ (af8 q q).2.1 = 0) : aeR (r.map (fun q => fx q), ()) = some (ayL (r.map fun q => (af8 q q).1), 0, ()) :=
 aaK (enc := fun l : List Rat => (l.map (fun q => fx q), ())) r ⟨h1, h2, h3⟩ (fun b hb => List.map_inj_right (fun a b hab => az7 hab) |>.1 (Prod.mk.inj hb).1)
theorem aoH (c : CvT × Unit) (x : BdT) (i : Int × Bool × List FxT × Unit) (l : List Int) (hc : c.1.2.1 = l) (ht : adE l) (hlo : inU x.1) (hhi : inU x.2.1) :
  acW (fun i2 => (ahE c x i i2).toO) (0, (aoR l x.1 x.2.1 0).map (fun q => fx q), ()) = some (.inr (apX l x.1 x.2.1, 0, ())) := by
 obtain ⟨lo, hi, u⟩ := x
 dsimp only at hlo hhi ⊢
 have hl1 := ht.1
 have hl2 := ht.2.1
 have w1 : w64 (len l - 1) = ((l.length - 1 : Nat) : Int) := by rw [aaB, aaA zc]; omega
 have hw : ∀ n : Int, inU n → w64 (n * ((l.length - 1 : Nat) : Int)) = n * ((l.length - 1 : Nat) : Int) := by
  intro n hn
  have a1 : 0 ≤ n * ((l.length - 1 : Nat) : Int) := yg hn.1 zc
  have a2 : n * ((l.length - 1 : Nat) : Int) ≤ 1000000000000 * ((l.length - 1 : Nat) : Int) := zD hn.2 zc
  exact aaA zc
 refine aaL (fun i : Int × List FxT × Unit => ∃ k : Nat, k ≤ l.length ∧ i = ((k : Int), (aoR l lo hi k).map (fun q => fx q), ())) (fun i => ((l.length : Int) - i.1).toNat) (fun _ => Sum.inr (apX l lo hi, 0, ())) ?_ _ ⟨0, by omega, rfl⟩
 rintro i ⟨k, k1, rfl⟩
 simp only [ahE, hc, aaM, w1, hw lo hlo, hw hi hhi]
 have hlen := aKb l lo hi k
 rcases zr k l.length with hk | hk
 ·left
  have wk : w64 ((k : Int) + 1) = ((k + 1 : Nat) : Int) := by rw [aaA zc]; omega
  have wm : w64 ((k : Int) * 1000000000000) = (k : Int) * 1000000000000 := aaA zc
  have bv := ajP ht hk
  have iv := an3 bv zc zc
  refine ⟨(((k + 1 : Nat) : Int), (aoR l lo hi (k + 1)).map (fun q => fx q), ()), ?_, ⟨k + 1, by omega, rfl⟩, by dsimp only; omega, ze⟩
  rw [wk, wm]
  refine uT (zo (by rw [aaB]; omega)) (uN ⟨by omega, by rw [aaB]; omega⟩ (uC (aFG l lo hi k, ()) rfl ?_))
  rw [aHX]
  cases hin : aFG l lo hi k
  ·exact uF rfl rfl
  ·refine uT rfl (uC _ (aQy (d := 65535) iv zc zc) (uN (by simp only [vv]; omega) ?_))
   refine uB (uB (uN zi ?_))
   rw [zt, if_pos rfl, xR]; rfl
 ·right
  obtain rfl : k = l.length := zc
  refine uF (zn (by rw [aaB]; omega)) (uC (apX l lo hi, 0, ()) ?_ rfl)
  rw [zt, aJN (by unfold aoR; simp) zc (aKc ht hlo hhi (zq _)), aEK ht hlo hhi (zq _)]
  rfl
theorem atX (c : CvT × Unit) (x : BdT) (y) (h : ad9 (c, x, ()) = some y) : (aiL c x).toO = some y := by
 unfold ad9 at h
 split at h
 case isFalse => cases h
 case isTrue hp =>
 obtain ⟨ht, hlo, hhi, hle⟩ := hp
 dsimp only at ht hlo hhi hle h
 injection h with h
 subst h
 obtain ⟨⟨kind, tab, l, u0⟩, u1⟩ := c
 obtain ⟨lo, hi, u2⟩ := x
 dsimp only at ht hlo hhi hle ⊢
 obtain ⟨a1, a2, a3, a4⟩ := aeK ht hlo
 obtain ⟨b1, b2, b3, b4⟩ := aeK ht hhi
 have hT : ∀ n : Int, inU n → afV (((kind, tab, l, ()), ()), fx (mkRat n 1000000000000), ()) = some (ax5 (aNA tab (mkRat n 1000000000000))) := by
  intro n hn
  have h0 : 0 ≤ mkRat n 1000000000000 := by
   have : (0 : Rat) = mkRat 0 1000000000000 := zf
   rw [this, aAL]; exact hn.1
  exact aAD (c := (kind, tab, l, ())) (apJ hn) h0 (auQ hn) ht
 unfold aiL
 refine uO (0, true, [], ()) rfl ?_
 refine aaL (fun i : Int × Bool × List FxT × Unit => i = (0, true, [], ()) ∨ i = (1, false, [fx (mkRat (aqP tab lo) 65535000000000000)], ()) ∨ i = (2, false, [fx (mkRat (aqP tab lo) 65535000000000000), fx (mkRat (aqP tab hi) 65535000000000000)], ())) (fun i => ((2 : Int) - i.1).toNat) (fun _ => (apX tab lo hi, 0, ())) ?_ _ (Or.inl rfl)
 rintro i (rfl | rfl | rfl)
 ·left
  refine ⟨(1, false, [fx (mkRat (aqP tab lo) 65535000000000000)], ()), ?_, Or.inr (Or.inl rfl), by dsimp only; omega, ze⟩
  refine uT rfl (uT rfl (uN ⟨by decide, by decide⟩ (uC _ (afD (d := 1000000000000) (avY hlo) zc zc) (uC _ (hT lo hlo) ?_))))
  rw [a1]
  exact uF rfl (uN zf rfl)
 ·left
  refine ⟨(2, false, [fx (mkRat (aqP tab lo) 65535000000000000), fx (mkRat (aqP tab hi) 65535000000000000)], ()), ?_, Or.inr (Or.inr rfl), by dsimp only; omega, ze⟩
  refine uF rfl (uT rfl (uN ⟨by dsimp only; omega, by dsimp only; omega⟩ (uC _ (afD (d := 1000000000000) (avY hhi) zc zc) (uC _ (hT hi hhi) ?_))))
  rw [b1]
  refine uF rfl (uN zi ?_)
  refine uB (uB (uN zi rfl))
 ·right
  refine uF rfl (uF rfl ?_)
  refine uO (0, (aoR tab lo hi 0).map (fun q => fx q), ()) rfl ?_
  exact aoH _ (lo, hi, u2) _ tab rfl ht hlo hhi
set_option maxRecDepth 100000
open Go Go.Vg Go.Proofs
noncomputable section
def aP5 : LTab := []
def aLw (n : Int) (d : Int) : TT (ub × Unit) :=
 .call (axM (n, d, ())) af6 fun y =>
 .ok (((y.1.1, y.1.2.1, ()), ()))
def aLu : LTab := []
def l9_tent_t : TT uE :=
 .ok (((2, List.take 3 [0, 65535, 0], [], ()), ()))
def aIM : LTab := []
def l9_steps_t : TT uE :=
 .ok (((3, [], List.take 2 [(500000, 1000000, 0, 1, 1, 0, ()), (1000000, 2000000, -1000000, 2, 1, 500000, ())], ()), ()))
def aLv : LTab := []
def l9_root_t : TT uE :=
 .ok (((3, [], [(1000000, 1000000, 0, 1, 2, 0, ())], ()), ()))
def aIK : LTab := []
def arM (c : Int × List Int × List vY × Unit) (x : List UInt8 × List UInt8 × Unit) (y : List UInt8 × List UInt8 × Unit) : TT uk :=
 .call (acZ ((c.1, c.2.1, c.2.2.1, ()), (x.1, x.2.1, ()), ())) af6 fun y1 =>
 .ite ((match y1.1.1 == y.1 with | true => (match y1.1.2.1 == y.2.1 with | true => true | false => false) | false => false))
 (.ok ((y1.2.1 == 0, ())))
 (.ok ((false, ())))
def aFB : LTab := []
def an2 (c : Int × List Int × List vY × Unit) : TT uE :=
 .need (inc (if 20 < len c.2.1 then 20 else len c.2.1) (len c.2.1)) <| .need ((0 + List.length (List.take (Int.toNat (if 20 < len c.2.1 then 20 else len c.2.1)) c.2.1)) * 8 ≤ 140737488355328) <| .need (inc (if 8 < len c.2.2.1 then 8 else len c.2.2.1) (len c.2.2.1)) <| .need ((0 + List.length (List.take (Int.toNat (if 8 < len c.2.2.1 then 8 else len c.2.2.1)) c.2.2.1)) * 48 ≤ 140737488355328) <| .ok (((c.1, List.take (0 + List.length (List.take (Int.toNat (if 20 < len c.2.1 then 20 else len c.2.1)) c.2.1)) (List.take 0 [] ++ List.take (Int.toNat (if 20 < len c.2.1 then 20 else len c.2.1)) c.2.1), List.take (0 + List.length (List.take (Int.toNat (if 8 < len c.2.2.1 then 8 else len c.2.2.1)) c.2.2.1)) (List.take 0 [] ++ List.take (Int.toNat (if 8 < len c.2.2.1 then 8 else len c.2.2.1)) c.2.2.1), ()), ()))
def aIJ : LTab := []
def l9_wakes_t : TT uk :=
 .call (aqA ()) aHE fun y =>
 .call (adA (1, 4, ())) afF fun y1 =>
 .call (acZ (y.1, y1.1, ())) af6 fun y2 =>
 .call (aqA ()) aHE fun y3 =>
 .call (agK (y3.1, (250000000000, 250000000000, ()), ())) at0 fun y4 =>
 .call (ajF ()) aHE fun y5 =>
 .call (agK (y5.1, (250000000000, 750000000000, ()), ())) at0 fun y6 =>
 .call (ajF ()) aHE fun y7 =>
 .call (agJ (y7.1, ())) aCj fun y8 =>
 .call (ajF ()) aHE fun y9 =>
 .call (adA (1, 4, ())) afF fun y10 =>
 .call (adA (1, 2, ())) afF fun y11 =>
 .call (adX (y9.1, y10.1, y11.1, ())) Dd1 fun y12 =>
 .ite (y12.1)
 (.call (ajF ()) aHE fun y13 =>
 .call (adA (2, 1, ())) afF fun y14 =>
 .call (adA (0, 1, ())) afF fun y15 =>
 .call (adX (y13.1, y14.1, y15.1, ())) Dd1 fun y16 =>
 .ite (y16.1)
 (.call (amZ ()) aHE fun y17 =>
 .call (adA (3, 4, ())) afF fun y18 =>
 .call (adA (3, 4, ())) afF fun y19 =>
 .call (adX (y17.1, y18.1, y19.1, ())) Dd1 fun y20 =>
 .ite (y20.1)
 (.call (amZ ()) aHE fun y21 =>
 .call (adA (1, 2, ())) afF fun y22 =>
 .call (adA (1, 2, ())) afF fun y23 =>
 .call (adX (y21.1, y22.1, y23.1, ())) Dd1 fun y24 =>
 .ite (y24.1)
 (.ite (y2.2.1 == 5)
 (.ite ((match y4.1.1 == 500000000000 with | true => (match y4.1.2.1 == 500000000000 with | true => true | false => false) | false => false))
 (.ite (y4.2.1 == 0)
 (.ite ((match y6.1.1 == 500000000000 with | true => (match y6.1.2.1 == 1000000000000 with | true => true | false => false) | false => false))
 (.ite (y6.2.1 == 0)
 (.ite (y8.1 == 0)
 (.ite (y8.2.1 == 0)
 (.call (ac8 ((0, [], [], ()), ())) Dd6 fun y25 =>
 .ok ((y25.1 == 90, ())))
 (.ok ((false, ()))))
 (.ok ((false, ()))))
 (.ok ((false, ()))))
 (.ok ((false, ()))))
 (.ok ((false, ()))))
 (.ok ((false, ()))))
 (.ok ((false, ()))))
 (.ok ((false, ()))))
 (.ok ((false, ()))))
 (.ok ((false, ()))))
 (.ok ((false, ())))
end
theorem aLx (n d : Int) (y) (h : adA (n, d, ()) = some y) : (aLw n d).toO = some y := by
 unfold adA abW at h
 split at h
 ·rename_i hp
  exact uC (ofQ n d) (by unfold axM al6; rw [if_pos hp]) h
 ·cases h
theorem aFz (y) (h : ajF () = some y) : l9_tent_t.toO = some y := h
theorem aDv (y) (h : amZ () = some y) : l9_steps_t.toO = some y := h
theorem aFA (y) (h : aqA () = some y) : l9_root_t.toO = some y := h
theorem aDt (c : CvT) (x z : FxT) (y) (h : adX (c, x, z, ()) = some y) : (arM c x z).toO = some y := by
 unfold adX at h
 dsimp only at h
 cases hr : acZ (c, x, ()) with
 | none => rw [hr] at h; cases h
 | some r =>
  rw [hr] at h
  injection h with h
  subst h
  unfold arM
  refine uC r hr ?_
  obtain ⟨⟨r1, r2, r3⟩, r4, r5⟩ := r
  obtain ⟨z1, z2, z3⟩ := z
  dsimp only
  by_cases c1 : r1 = z1
  ·subst c1
   by_cases c2 : r2 = z2
   ·subst c2
    refine uT zi ?_
    rw [aaH]
    by_cases c3 : r4 = 0
    ·subst c3
     rw [ahZ rfl]; rfl
    ·rw [abQ (fun h => c3 (by injection h with _ h; injection h with h _)), beq_eq_false_iff_ne.2 c3]
   ·rw [abQ (fun h => c2 (by injection h with h _; injection h with _ h; injection h with h _))]
    refine uF ?_ rfl
    simp [beq_eq_false_iff_ne.2 c2]
  ·rw [abQ (fun h => c1 (by injection h with h _; injection h with h _))]
   refine uF ?_ rfl
   simp [beq_eq_false_iff_ne.2 c1]
theorem aBj (c : CvT) (y) (h : akM (c, ()) = some y) : (an2 c).toO = some y := by
 injection h with h
 subst h
 obtain ⟨k, t, l, u⟩ := c
 unfold an2
 dsimp only
 have h1 : (if 20 < len t then 20 else len t).toNat = min 20 t.length := by rw [aaB]; split <;> omega
 have h2 : (if 8 < len l then 8 else len l).toNat = min 8 l.length := by rw [aaB]; split <;> omega
 have e1 : t.take (min 20 t.length) = t.take 20 := by rw [List.take_eq_take_iff]; omega
 have e2 : l.take (min 8 l.length) = l.take 8 := by rw [List.take_eq_take_iff]; omega
 have n1 := List.length_take_le 20 t
 have n2 := List.length_take_le 8 l
 simp only [h1, h2, e1, e2]
 refine uN ⟨by rw [aaB]; split <;> omega, by rw [aaB]; split <;> omega⟩ (uN zc (uN ⟨by rw [aaB]; split <;> omega, by rw [aaB]; split <;> omega⟩ (uN zc ?_)))
 rw [aaH, List.take_zero, List.take_zero, yW, yW, zv, zv, zt, zt]
theorem amC : abF aqV := zf
theorem auW : abF stepsC := zf
theorem azC : abF rootC := zf
theorem aGF : adE [0, 65535, 0] := zf
theorem alJ {n : Int} {d : Nat} (hn : abD n) (hd : d ≠ 0) (h2 : d ≤ 9223372036854775807) : adA (n, (d : Int), ()) = some (fx (mkRat n d), ()) := afD hn hd h2
theorem aHV : agJ (aqV, ()) = some (0, 0, ()) := by
 unfold agJ; dsimp only; rw [if_pos amC]; decide
theorem apM {c : CvT} (hr : abF c) {n : Int} (hn : inU n) : acZ (c, fx (mkRat n 1000000000000), ()) = some (aDS c (mkRat n 1000000000000)) := by
 unfold acZ
 dsimp only
 rw [if_pos hr, agB (apJ hn)]
 dsimp only
 rw [aoG hn]
theorem aCw : acZ (aqV, fx (mkRat 1 4), ()) = some (fx (mkRat 1 2), 0, ()) := by
 have e : mkRat 1 4 = mkRat 250000000000 1000000000000 := by rw [yj zc zc]; omega
 have hu : inU 250000000000 := ⟨by omega, by omega⟩
 rw [e, apM amC hu]
 obtain ⟨q1, -⟩ := aeK aGF hu
 have : aDS aqV (mkRat 250000000000 1000000000000) = ax5 (aNA [0, 65535, 0] (mkRat 250000000000 1000000000000)) := rfl
 rw [this, q1]
 have hm : aqP [0, 65535, 0] 250000000000 = 32767500000000000 := zf
 have e2 : mkRat 32767500000000000 65535000000000000 = mkRat 1 2 := by rw [yj zc zc]; omega
 rw [hm, e2]; rfl
theorem aNx : acZ (aqV, fx (mkRat 2 1), ()) = some (fx (mkRat 0 1), 0, ()) := by
 have hf : aeI (mkRat 2 1) := adW ⟨by omega, by omega⟩
 have hc : aeN (mkRat 2 1) = mkRat 1000000000000 1000000000000 := by
  rw [aGD]
  unfold aeN
  rw [if_neg zf, if_pos zf]
 have hu : inU 1000000000000 := ⟨by omega, by omega⟩
 unfold acZ
 dsimp only
 rw [if_pos amC, agB hf]
 dsimp only
 rw [hc]
 obtain ⟨q1, -⟩ := aeK aGF hu
 have : aDS aqV (mkRat 1000000000000 1000000000000) = ax5 (aNA [0, 65535, 0] (mkRat 1000000000000 1000000000000)) := rfl
 rw [this, q1]
 have hm : aqP [0, 65535, 0] 1000000000000 = 0 := zf
 have e2 : mkRat 0 65535000000000000 = mkRat 0 1 := by rw [yj zc zc]; omega
 rw [hm, e2]; rfl
theorem aHW : agK (aqV, (250000000000, 750000000000, ()), ()) = some ((500000000000, 1000000000000, ()), 0, ()) := by
 unfold agK
 dsimp only
 rw [if_pos amC, if_pos zf]
 have : aHs aqV (aqT (250000000000, 750000000000, ())) = (apX [0, 65535, 0] 250000000000 750000000000, 0, ()) := rfl
 rw [this]
 have h2 : apX [0, 65535, 0] 250000000000 750000000000 = (500000000000, 1000000000000, ()) := zf
 rw [h2]
theorem aCC : acZ (rootC, fx (mkRat 1 4), ()) = some (([], [], ()), 5, ()) := by
 have e : mkRat 1 4 = mkRat 250000000000 1000000000000 := by rw [yj zc zc]; omega
 have hu : inU 250000000000 := ⟨by omega, by omega⟩
 rw [e, apM azC hu]
 have : aDS rootC (mkRat 250000000000 1000000000000) = ayP rootC.2.2.1 (mkRat 250000000000 1000000000000) := rfl
 rw [this]
 unfold ayP
 rw [arA]
 have hp : aa7 250000000000 rootC.2.2.1 = 0 := zf
 rw [hp, if_neg zf]
theorem aIG : ac8 ((0, [], [], ()), ()) = some (90, ()) := zf
theorem aDW : aBK 1 2 250000000000 = 500000000000 := by
 unfold aBK
 exact aBm zc zf zf
theorem aCY : aJP (250000000000, 250000000000, ()) 1 2 = ((500000000000, 500000000000, ()), 0, ()) := by
 unfold aJP
 have hp : ∀ b : Bool, ax8 1 2 250000000000 b = (500000000000, 0, ()) := by
  intro b
  unfold ax8
  rw [aDW, if_neg zf, if_neg (fun h => h.2 zf)]
  rfl
 have e1 : (1 : Int).toNat = 1 := rfl
 have e2 : (2 : Int).toNat = 2 := rfl
 have e3 : (250000000000 : Int).toNat = 250000000000 := rfl
 dsimp only
 rw [if_pos zf, if_pos zf, e1, e2, e3, hp, hp]
 decide
theorem aH1 : agK (rootC, (250000000000, 250000000000, ()), ()) = some ((500000000000, 500000000000, ()), 0, ()) := by
 unfold agK
 dsimp only
 rw [if_pos azC, if_pos zf]
 have h1 : aHs rootC (aqT (250000000000, 250000000000, ())) = atI [(1000000, 1000000, 0, 1, 2, 0, ())] 250000000000 250000000000 := rfl
 rw [h1]
 unfold atI
 have hp : aa7 250000000000 [((1000000, 1000000, 0, 1, 2, 0, ()) : adS)] = 0 := zf
 rw [hp]
 show some (ar9 _ _ _ 1 0 []) = _
 have hs : aCm [(1000000, 1000000, 0, 1, 2, 0, ())] 250000000000 250000000000 0 = ((500000000000, 500000000000, ()), 0, ()) := by
  unfold aCm
  have e1 : max (250000000000 : Int) (ab7 [(1000000, 1000000, 0, 1, 2, 0, ())] 0 * 1000000) = 250000000000 := zf
  have e2 : min (250000000000 : Int) ((([(1000000, 1000000, 0, 1, 2, 0, ())] : List adS).getD 0 (0, 0, 0, 0, 0, 0, ())).1 * 1000000) = 250000000000 := zf
  rw [e1, e2]
  show ayE (1000000, 1000000, 0, 1, 2, 0, ()) 250000000000 250000000000 = _
  unfold ayE
  have e3 : ayD (1000000, 1000000, 0, 1, 2, 0, ()) 250000000000 250000000000 = (250000000000, 250000000000, ()) := zf
  rw [e3]
  dsimp only
  rw [aCY]
  decide
 rw [alW, hs]
 decide
theorem aFN {n : Int} {d : Nat} (hd : d ≠ 0) (hn : abD n) (h2 : d ≤ 9223372036854775807) : aeI (mkRat n d) := aeF hd (abG hn) (abG ⟨by omega, by omega⟩)
theorem aEM : acZ (stepsC, fx (mkRat 3 4), ()) = some (fx (mkRat 3 4), 0, ()) := by
 have e : mkRat 3 4 = mkRat 750000000000 1000000000000 := by rw [yj zc zc]; omega
 have hu : inU 750000000000 := ⟨by omega, by omega⟩
 rw [e, apM auW hu]
 have : aDS stepsC (mkRat 750000000000 1000000000000) = ayP stepsC.2.2.1 (mkRat 750000000000 1000000000000) := rfl
 rw [this]
 unfold ayP
 rw [arA]
 have hp : aa7 750000000000 stepsC.2.2.1 = 1 := zf
 rw [hp, if_pos zf]
 show some (ax5 (aIS (1000000, 2000000, -1000000, 2, 1, 500000, ()) (mkRat 750000000000 1000000000000))) = _
 unfold aIS
 dsimp only
 obtain ⟨l1, -⟩ := aj0 (m := 2000000) (a := -1000000) ⟨by omega, by omega⟩ ⟨by omega, by omega⟩ hu
 have hm : aeX 2000000 (-1000000) 750000000000 = 500000000000000000 := zf
 have e2 : mkRat 500000000000000000 1000000000000000000 = mkRat 1 2 := by rw [yj zc zc]; omega
 rw [l1, hm, e2]
 simp only [zY]
 have hpos : aJQ (mkRat 1 2) = mkRat 1 2 := by unfold aJQ; rw [if_neg zf]
 have hn : ((2 : Int) - 1).toNat = 1 := rfl
 rw [hpos, hn]
 have hmul : mkRat 1 2 * mkRat 1 2 = mkRat 1 4 := by rw [yS]; rfl
 have h1 : aeW (mkRat 1 2) 1 (mkRat 1 2) = some (mkRat 1 4) := by
  show (acV (mkRat 1 2 * mkRat 1 2)).bind some = _
  rw [hmul]; unfold acV
  rw [if_pos (aFN zc ⟨by omega, by omega⟩ zc)]; rfl
 rw [h1]
 simp only [zY]
 have hadd : mkRat 1 4 + mkRat 500000 1000000 = mkRat 3 4 := by
  rw [xC _ _ zc zc, yj zc zc]; decide
 have hc : aeN (mkRat 3 4) = mkRat 3 4 := by rw [e]; exact aoG hu
 rw [hadd]
 unfold acV
 rw [if_pos (aFN zc ⟨by omega, by omega⟩ zc)]
 show some (ax5 (some (aeN (mkRat 3 4)))) = _
 rw [hc, ← e]; rfl
theorem aHY : acZ (stepsC, fx (mkRat 1 2), ()) = some (fx (mkRat 1 2), 0, ()) := by
 have e : mkRat 1 2 = mkRat 500000000000 1000000000000 := by rw [yj zc zc]; omega
 have hu : inU 500000000000 := ⟨by omega, by omega⟩
 rw [e, apM auW hu]
 have : aDS stepsC (mkRat 500000000000 1000000000000) = ayP stepsC.2.2.1 (mkRat 500000000000 1000000000000) := rfl
 rw [this]
 unfold ayP
 rw [arA]
 have hp : aa7 500000000000 stepsC.2.2.1 = 0 := zf
 rw [hp, if_pos zf]
 show some (ax5 (aIS (500000, 1000000, 0, 1, 1, 0, ()) (mkRat 500000000000 1000000000000))) = _
 unfold aIS
 dsimp only
 obtain ⟨l1, -⟩ := aj0 (m := 1000000) (a := 0) ⟨by omega, by omega⟩ ⟨by omega, by omega⟩ hu
 have hm : aeX 1000000 0 500000000000 = 500000000000000000 := zf
 have e2 : mkRat 500000000000000000 1000000000000000000 = mkRat 1 2 := by rw [yj zc zc]; omega
 rw [l1, hm, e2]
 simp only [zY]
 have hpos : aJQ (mkRat 1 2) = mkRat 1 2 := by unfold aJQ; rw [if_neg zf]
 have hn : ((1 : Int) - 1).toNat = 0 := rfl
 rw [hpos, hn]
 have h1 : aeW (mkRat 1 2) 0 (mkRat 1 2) = some (mkRat 1 2) := rfl
 rw [h1]
 simp only [zY]
 have hadd : mkRat 1 2 + mkRat 0 1000000 = mkRat 1 2 := by
  rw [xC _ _ zc zc, yj zc zc]; decide
 have hc : aeN (mkRat 1 2) = mkRat 1 2 := by rw [e]; exact aoG hu
 rw [hadd]
 unfold acV
 rw [if_pos (aFN zc ⟨by omega, by omega⟩ zc)]
 show some (ax5 (some (aeN (mkRat 1 2)))) = _
 rw [hc, ← e]; rfl
theorem at3 {c : CvT} {x z : FxT} (h : acZ (c, x, ()) = some (z, 0, ())) : adX (c, x, z, ()) = some (true, ()) := by
 unfold adX
 dsimp only
 rw [h]
 show some (eqb (z, 0, ()) (z, 0, ()), ()) = _
 rw [ahZ rfl]
theorem aDs (y) (h : asH () = some y) : l9_wakes_t.toO = some y := by
 injection h with h
 subst h
 unfold l9_wakes_t
 have o14 : adA (1, 4, ()) = some (fx (mkRat 1 4), ()) := alJ (d := 4) ⟨by omega, by omega⟩ zc zc
 have o12 : adA (1, 2, ()) = some (fx (mkRat 1 2), ()) := alJ (d := 2) ⟨by omega, by omega⟩ zc zc
 have o21 : adA (2, 1, ()) = some (fx (mkRat 2 1), ()) := alJ (d := 1) ⟨by omega, by omega⟩ zc zc
 have o01 : adA (0, 1, ()) = some (fx (mkRat 0 1), ()) := alJ (d := 1) ⟨by omega, by omega⟩ zc zc
 have o34 : adA (3, 4, ()) = some (fx (mkRat 3 4), ()) := alJ (d := 4) ⟨by omega, by omega⟩ zc zc
 refine uC (rootC, ()) rfl (uC _ o14 (uC _ aCC (uC (rootC, ()) rfl (uC _ aH1 ?_))))
 refine uC (aqV, ()) rfl (uC _ aHW (uC (aqV, ()) rfl (uC _ aHV ?_)))
 refine uC (aqV, ()) rfl (uC _ o14 (uC _ o12 (uC _ (at3 aCw) (uT rfl ?_))))
 refine uC (aqV, ()) rfl (uC _ o21 (uC _ o01 (uC _ (at3 aNx) (uT rfl ?_))))
 refine uC (stepsC, ()) rfl (uC _ o34 (uC _ o34 (uC _ (at3 aEM) (uT rfl ?_))))
 refine uC (stepsC, ()) rfl (uC _ o12 (uC _ o12 (uC _ (at3 aHY) (uT rfl ?_))))
 refine uT rfl (uT rfl (uT rfl (uT rfl (uT rfl (uT rfl (uT rfl ?_))))))
 exact uC _ aIG rfl
set_option maxRecDepth 100000
open Go Go.Vg Go.Proofs
noncomputable section
def aPo : LTab := []
def aEG (a : List UInt8) : TT uc :=
 .call (ae9 (a, ())) Dd6 fun y =>
 .ite (y.1 != 0)
 (.ok ((0, y.1, ())))
 (.call (aM3 (a, 10, 64, ())) aRQ fun y1 =>
 .ite (y1.2.1)
 (.ok ((0, 6, ())))
 (.ok ((y1.1, 0, ()))))
def aJg : LTab := []
def ae5 (y3 : (Int) × (Bool) × Unit) (c : ua × Unit) (y1 : ((List UInt8) × (List UInt8) × Unit) × (Int) × Unit) : TT ut :=
 .tt <| .tt <| .tt <| .tt <| .tt <| .tt <| .ite (y3.1 != y3.1)
 (.ite (w64 (w64 (len c.1.2.1 - 1) - 1) != w64 (w64 (len c.1.2.1 - 1) - 1))
 (.call (aaF (y3.1, ())) afF fun y20 =>
 .call (afT ((y1.1.1, y1.1.2.1, ()), y20.1, ())) af6 fun y21 =>
 .ite (y21.2.1 != 0)
 (.ok (((#[].toList, #[].toList, ()), y21.2.1, ())))
 (.need (inb (w64 (y3.1 + 1)) (len c.1.2.1)) <| .need (inb y3.1 (len c.1.2.1)) <| .call (aaF (w64 (gi c.1.2.1 (w64 (y3.1 + 1)) 0 - gi c.1.2.1 y3.1 0), ())) afF fun y22 =>
 .call (ad4 (y22.1, (y21.1.1, y21.1.2.1, ()), ())) af6 fun y23 =>
 .ite (y23.2.1 != 0)
 (.ok (((#[].toList, #[].toList, ()), y23.2.1, ())))
 (.need (inb y3.1 (len c.1.2.1)) <| .call (aaF (gi c.1.2.1 y3.1 0, ())) afF fun y24 =>
 .call (aeH (y24.1, (y23.1.1, y23.1.2.1, ()), ())) af6 fun y25 =>
 .ite (y25.2.1 != 0)
 (.ok (((#[].toList, #[].toList, ()), y25.2.1, ())))
 (.call (aaF (65535, ())) afF fun y26 =>
 .call (afC ((y25.1.1, y25.1.2.1, ()), y26.1, ())) af6 fun y27 =>
 .ok (((y27.1.1, y27.1.2.1, ()), y27.2.1, ()))))))
 (.call (aaF (y3.1, ())) afF fun y28 =>
 .call (afT ((y1.1.1, y1.1.2.1, ()), y28.1, ())) af6 fun y29 =>
 .ite (y29.2.1 != 0)
 (.ok (((#[].toList, #[].toList, ()), y29.2.1, ())))
 (.need (inb (w64 (y3.1 + 1)) (len c.1.2.1)) <| .need (inb y3.1 (len c.1.2.1)) <| .call (aaF (w64 (gi c.1.2.1 (w64 (y3.1 + 1)) 0 - gi c.1.2.1 y3.1 0), ())) afF fun y30 =>
 .call (ad4 (y30.1, (y29.1.1, y29.1.2.1, ()), ())) af6 fun y31 =>
 .ite (y31.2.1 != 0)
 (.ok (((#[].toList, #[].toList, ()), y31.2.1, ())))
 (.need (inb y3.1 (len c.1.2.1)) <| .call (aaF (gi c.1.2.1 y3.1 0, ())) afF fun y32 =>
 .call (aeH (y32.1, (y31.1.1, y31.1.2.1, ()), ())) af6 fun y33 =>
 .ite (y33.2.1 != 0)
 (.ok (((#[].toList, #[].toList, ()), y33.2.1, ())))
 (.call (aaF (65535, ())) afF fun y34 =>
 .call (afC ((y33.1.1, y33.1.2.1, ()), y34.1, ())) af6 fun y35 =>
 .ok (((y35.1.1, y35.1.2.1, ()), y35.2.1, ())))))))
 (.ite (w64 (w64 (len c.1.2.1 - 1) - 1) != w64 (w64 (len c.1.2.1 - 1) - 1))
 (.call (aaF (w64 (w64 (len c.1.2.1 - 1) - 1), ())) afF fun y36 =>
 .call (afT ((y1.1.1, y1.1.2.1, ()), y36.1, ())) af6 fun y37 =>
 .ite (y37.2.1 != 0)
 (.ok (((#[].toList, #[].toList, ()), y37.2.1, ())))
 (.need (inb (w64 (w64 (w64 (len c.1.2.1 - 1) - 1) + 1)) (len c.1.2.1)) <| .need (inb (w64 (w64 (len c.1.2.1 - 1) - 1)) (len c.1.2.1)) <| .call (aaF (w64 (gi c.1.2.1 (w64 (w64 (w64 (len c.1.2.1 - 1) - 1) + 1)) 0 - gi c.1.2.1 (w64 (w64 (len c.1.2.1 - 1) - 1)) 0), ())) afF fun y38 =>
 .call (ad4 (y38.1, (y37.1.1, y37.1.2.1, ()), ())) af6 fun y39 =>
 .ite (y39.2.1 != 0)
 (.ok (((#[].toList, #[].toList, ()), y39.2.1, ())))
 (.need (inb (w64 (w64 (len c.1.2.1 - 1) - 1)) (len c.1.2.1)) <| .call (aaF (gi c.1.2.1 (w64 (w64 (len c.1.2.1 - 1) - 1)) 0, ())) afF fun y40 =>
 .call (aeH (y40.1, (y39.1.1, y39.1.2.1, ()), ())) af6 fun y41 =>
 .ite (y41.2.1 != 0)
 (.ok (((#[].toList, #[].toList, ()), y41.2.1, ())))
 (.call (aaF (65535, ())) afF fun y42 =>
 .call (afC ((y41.1.1, y41.1.2.1, ()), y42.1, ())) af6 fun y43 =>
 .ok (((y43.1.1, y43.1.2.1, ()), y43.2.1, ()))))))
 (.ite (decide (y3.1 < w64 (w64 (len c.1.2.1 - 1) - 1)))
 (.call (aaF (y3.1, ())) afF fun y44 =>
 .call (afT ((y1.1.1, y1.1.2.1, ()), y44.1, ())) af6 fun y45 =>
 .ite (y45.2.1 != 0)
 (.ok (((#[].toList, #[].toList, ()), y45.2.1, ())))
 (.need (inb (w64 (y3.1 + 1)) (len c.1.2.1)) <| .need (inb y3.1 (len c.1.2.1)) <| .call (aaF (w64 (gi c.1.2.1 (w64 (y3.1 + 1)) 0 - gi c.1.2.1 y3.1 0), ())) afF fun y46 =>
 .call (ad4 (y46.1, (y45.1.1, y45.1.2.1, ()), ())) af6 fun y47 =>
 .ite (y47.2.1 != 0)
 (.ok (((#[].toList, #[].toList, ()), y47.2.1, ())))
 (.need (inb y3.1 (len c.1.2.1)) <| .call (aaF (gi c.1.2.1 y3.1 0, ())) afF fun y48 =>
 .call (aeH (y48.1, (y47.1.1, y47.1.2.1, ()), ())) af6 fun y49 =>
 .ite (y49.2.1 != 0)
 (.ok (((#[].toList, #[].toList, ()), y49.2.1, ())))
 (.call (aaF (65535, ())) afF fun y50 =>
 .call (afC ((y49.1.1, y49.1.2.1, ()), y50.1, ())) af6 fun y51 =>
 .ok (((y51.1.1, y51.1.2.1, ()), y51.2.1, ()))))))
 (.ite (decide (y3.1 > w64 (w64 (len c.1.2.1 - 1) - 1)))
 (.call (aaF (w64 (w64 (len c.1.2.1 - 1) - 1), ())) afF fun y52 =>
 .call (afT ((y1.1.1, y1.1.2.1, ()), y52.1, ())) af6 fun y53 =>
 .ite (y53.2.1 != 0)
 (.ok (((#[].toList, #[].toList, ()), y53.2.1, ())))
 (.need (inb (w64 (w64 (w64 (len c.1.2.1 - 1) - 1) + 1)) (len c.1.2.1)) <| .need (inb (w64 (w64 (len c.1.2.1 - 1) - 1)) (len c.1.2.1)) <| .call (aaF (w64 (gi c.1.2.1 (w64 (w64 (w64 (len c.1.2.1 - 1) - 1) + 1)) 0 - gi c.1.2.1 (w64 (w64 (len c.1.2.1 - 1) - 1)) 0), ())) afF fun y54 =>
 .call (ad4 (y54.1, (y53.1.1, y53.1.2.1, ()), ())) af6 fun y55 =>
 .ite (y55.2.1 != 0)
 (.ok (((#[].toList, #[].toList, ()), y55.2.1, ())))
 (.need (inb (w64 (w64 (len c.1.2.1 - 1) - 1)) (len c.1.2.1)) <| .call (aaF (gi c.1.2.1 (w64 (w64 (len c.1.2.1 - 1) - 1)) 0, ())) afF fun y56 =>
 .call (aeH (y56.1, (y55.1.1, y55.1.2.1, ()), ())) af6 fun y57 =>
 .ite (y57.2.1 != 0)
 (.ok (((#[].toList, #[].toList, ()), y57.2.1, ())))
 (.call (aaF (65535, ())) afF fun y58 =>
 .call (afC ((y57.1.1, y57.1.2.1, ()), y58.1, ())) af6 fun y59 =>
 .ok (((y59.1.1, y59.1.2.1, ()), y59.2.1, ()))))))
 (.call (aaF (y3.1, ())) afF fun y60 =>
 .call (afT ((y1.1.1, y1.1.2.1, ()), y60.1, ())) af6 fun y61 =>
 .ite (y61.2.1 != 0)
 (.ok (((#[].toList, #[].toList, ()), y61.2.1, ())))
 (.need (inb (w64 (y3.1 + 1)) (len c.1.2.1)) <| .need (inb y3.1 (len c.1.2.1)) <| .call (aaF (w64 (gi c.1.2.1 (w64 (y3.1 + 1)) 0 - gi c.1.2.1 y3.1 0), ())) afF fun y62 =>
 .call (ad4 (y62.1, (y61.1.1, y61.1.2.1, ()), ())) af6 fun y63 =>
 .ite (y63.2.1 != 0)
 (.ok (((#[].toList, #[].toList, ()), y63.2.1, ())))
 (.need (inb y3.1 (len c.1.2.1)) <| .call (aaF (gi c.1.2.1 y3.1 0, ())) afF fun y64 =>
 .call (aeH (y64.1, (y63.1.1, y63.1.2.1, ()), ())) af6 fun y65 =>
 .ite (y65.2.1 != 0)
 (.ok (((#[].toList, #[].toList, ()), y65.2.1, ())))
 (.call (aaF (65535, ())) afF fun y66 =>
 .call (afC ((y65.1.1, y65.1.2.1, ()), y66.1, ())) af6 fun y67 =>
 .ok (((y67.1.1, y67.1.2.1, ()), y67.2.1, ())))))))))
def ae4 (y1 : ((List UInt8) × (List UInt8) × Unit) × (Int) × Unit) (c : ua × Unit) : TT ut :=
 .call (aaF (0, ())) afF fun y4 =>
 .call (afT ((y1.1.1, y1.1.2.1, ()), y4.1, ())) af6 fun y5 =>
 .ite (y5.2.1 != 0)
 (.ok (((#[].toList, #[].toList, ()), y5.2.1, ())))
 (.need (inb (w64 (0 + 1)) (len c.1.2.1)) <| .need (asT Int 0 ≤ 0 ∧ 0 < len c.1.2.1) <| .call (aaF (w64 (gi c.1.2.1 (w64 (0 + 1)) 0 - gi c.1.2.1 0 0), ())) afF fun y6 =>
 .call (ad4 (y6.1, (y5.1.1, y5.1.2.1, ()), ())) af6 fun y7 =>
 .ite (y7.2.1 != 0)
 (.ok (((#[].toList, #[].toList, ()), y7.2.1, ())))
 (.need (asT Int 0 ≤ 0 ∧ 0 < len c.1.2.1) <| .call (aaF (gi c.1.2.1 0 0, ())) afF fun y8 =>
 .call (aeH (y8.1, (y7.1.1, y7.1.2.1, ()), ())) af6 fun y9 =>
 .ite (y9.2.1 != 0)
 (.ok (((#[].toList, #[].toList, ()), y9.2.1, ())))
 (.call (aaF (65535, ())) afF fun y10 =>
 .call (afC ((y9.1.1, y9.1.2.1, ()), y10.1, ())) af6 fun y11 =>
 .ok (((y11.1.1, y11.1.2.1, ()), y11.2.1, ())))))
def ar2 (c : ua × Unit) (x : List UInt8 × List UInt8 × Unit) : TT ut :=
 .call (aaF (w64 (len c.1.2.1 - 1), ())) afF fun y =>
 .call (ad4 ((x.1, x.2.1, ()), y.1, ())) af6 fun y1 =>
 .ite (y1.2.1 != 0)
 (.ok (((#[].toList, #[].toList, ()), y1.2.1, ())))
 (.call (ajL ((y1.1.1, y1.1.2.1, ()), ())) aGA fun y2 =>
  .ite (y2.2.1 != 0)
  (.ok (((#[].toList, #[].toList, ()), y2.2.1, ())))
  (.call (aM4 (y2.1, ())) aRQ fun y3 =>
   .ite (y3.2.1)
   (.tt <| .tt <| .tt <| .tt <| .tt <| .tt <| .tt <| .tt <| .ite (y3.1 != y3.1)
    (ae4 y1 c)
    (.ite (decide (y3.1 < 0))
     (ae4 y1 c)
     (.ite (decide (y3.1 > 0))
      (ae5 y3 c y1)
      (ae5 y3 c y1))))
   (.tt <| .tt <| .tt <| .tt <| .tt <| .tt <| .tt <| .tt <| .ite (y3.1 != y3.1)
    (ae4 y1 c)
    (.ite (decide (y3.1 < 0))
     (ae4 y1 c)
     (.ite (decide (y3.1 > 0))
      (ae5 y3 c y1)
      (ae5 y3 c y1))))))
end
theorem aQq {z : Int} (h : Fit z) : (dec z).length ≤ 601 := by
 unfold Fit at h
 unfold dec
 split
 ·rw [zG]; omega
 ·omega
theorem aJ3 (a : List UInt8) (y) (h : akK (a, ()) = some y) : (aEG a).toO = some y := by
 unfold akK at h
 injection h with h
 subst h
 dsimp only
 unfold aEG
 refine uC _ (adR a) ?_
 cases hz : rdW a with
 | none => exact uT rfl rfl
 | some z =>
  obtain ⟨hf, rfl⟩ := af0 hz
  refine uF rfl (uC _ (aRk (zz (aQq hf) zc)) ?_)
  dsimp only
  by_cases c : abD z
  ·rw [if_pos c, if_pos c]
   exact uF rfl rfl
  ·rw [if_neg c, if_neg c]
   exact uT rfl rfl
theorem amB {l : List Int} {p : Rat} {k : Nat} (ht : adE l) (hp : aeI p) (hk : k + 1 < l.length) (hpl : aiV l p = k) (y1 : FxT × Int × Unit) (e1 : y1 = (fx p, 0, ()))
  {I A D : Int} (eI : I = k) (eA : A = l.getD k 0) (eD : D = l.getD (k + 1) 0 - l.getD k 0) {p1 p2 p3 : Prop} (h1 : p1) (h2 : p2) (h3 : p3) {d1 : FxT × Unit} {d2 : FxT × Int × Unit} :
  (TT.call (aaF (I, ())) d1 fun y4 => .call (afT ((y1.1.1, y1.1.2.1, ()), y4.1, ())) d2 fun y5 => .ite (y5.2.1 != 0) (.ok (((#[].toList, #[].toList, ()), y5.2.1, ())))
   (.need p1 <| .need p2 <| .call (aaF (D, ())) d1 fun y6 => .call (ad4 (y6.1, (y5.1.1, y5.1.2.1, ()), ())) d2 fun y7 => .ite (y7.2.1 != 0) (.ok (((#[].toList, #[].toList, ()), y7.2.1, ())))
    (.need p3 <| .call (aaF (A, ())) d1 fun y8 => .call (aeH (y8.1, (y7.1.1, y7.1.2.1, ()), ())) d2 fun y9 => .ite (y9.2.1 != 0) (.ok (((#[].toList, #[].toList, ()), y9.2.1, ())))
     (.call (aaF (65535, ())) d1 fun y10 => .call (afC ((y9.1.1, y9.1.2.1, ()), y10.1, ())) d2 fun y11 => .ok (((y11.1.1, y11.1.2.1, ()), y11.2.1, ())))))).toO
   = some (ax5 ((acV (p - mkRat (aiV l p : Int) 1)).bind fun r => (acV (r * mkRat (l.getD (aiV l p + 1) 0 - l.getD (aiV l p) 0) 1)).bind fun t => (acV (mkRat (l.getD (aiV l p) 0) 1 + t)).bind fun y => acV (y / mkRat 65535 1))) := by
 have hl2 := ht.2.1
 subst eI eA eD e1
 rw [hpl]
 have i6 : abD 65535 := ⟨by omega, by omega⟩
 have ik : abD (k : Int) := ⟨by omega, by omega⟩
 have bv := ajP ht (show k < l.length by omega)
 have bv1 := ajP ht hk
 have iv := an3 bv zc zc
 have id : abD (l.getD (k + 1) 0 - l.getD k 0) := ⟨by have := bv.1; have := bv.2; have := bv1.1; have := bv1.2; omega, by have := bv.1; have := bv.2; have := bv1.1; have := bv1.2; omega⟩
 refine uC _ (ab3 ik) (uC _ (aO2 hp (adW ik)) ?_)
 cases g1 : acV (p - mkRat (k : Int) 1) with
 | none => exact uT rfl rfl
 | some r =>
  have hr := (aeU g1).1
  simp only [zY]
  refine uF rfl (uN h1 (uN h2 (uC _ (ab3 id) (uC _ (aqN (adW id) hr) ?_))))
  rw [Rat.mul_comm]
  cases g2 : acV (r * mkRat (l.getD (k + 1) 0 - l.getD k 0) 1) with
  | none => exact uT rfl rfl
  | some t =>
   have ht' := (aeU g2).1
   simp only [zY]
   refine uF rfl (uN h3 (uC _ (ab3 iv) (uC _ (aCg (adW iv) ht') ?_)))
   cases g3 : acV (mkRat (l.getD k 0) 1 + t) with
   | none => exact uT rfl rfl
   | some y =>
    have hy := (aeU g3).1
    exact uF rfl (uC _ (ab3 i6) (uC _ (aHC hy (adW i6) (aG9 zc)) rfl))
theorem aD5 (c : CvT × Unit) (x : FxT) (y) (h : afV (c, x, ()) = some y) : (ar2 c x).toO = some y := by
 obtain ⟨⟨l', q⟩, ⟨hq, h0, h1, ht⟩, hx, rfl⟩ := aaE h
 obtain ⟨rfl, hx2⟩ := Prod.mk.inj hx; obtain ⟨rfl, -⟩ := Prod.mk.inj hx2; dsimp only
 dsimp only at hq h0 h1 ht
 obtain ⟨kd, l, sg, u⟩ := l'
 dsimp only at ht ⊢
 have hl1 := ht.1
 have hl2 := ht.2.1
 have w1 : w64 (len l - 1) = ((l.length - 1 : Nat) : Int) := by rw [aaB, aaA zc]; omega
 have w2 : w64 (((l.length - 1 : Nat) : Int) - 1) = ((l.length - 2 : Nat) : Int) := by rw [aaA zc]; omega
 have w3 : w64 (((l.length - 2 : Nat) : Int) + 1) = ((l.length - 2 + 1 : Nat) : Int) := by rw [aaA zc]; omega
 have in1 : abD ((l.length - 1 : Nat) : Int) := ⟨by omega, by omega⟩
 unfold ar2 ae4 ae5 aNA
 dsimp only
 rw [w1, w2, w3]
 refine uC _ (ab3 in1) (uC _ (aqN hq (adW in1)) ?_)
 cases hs : acV (q * mkRat ((l.length - 1 : Nat) : Int) 1) with
 | none => exact uT rfl rfl
 | some p =>
 obtain ⟨hp, e⟩ := aeU hs
 have hlp : (0 : Rat) ≤ mkRat ((l.length - 1 : Nat) : Int) 1 := by
  rw [ad5]
  have := vk.2 (show (0 : Int) ≤ ((l.length - 1 : Nat) : Int) by omega)
  exact this
 have hp0 : 0 ≤ p := by rw [e]; exact Rat.mul_nonneg h0 hlp
 have hp1 : p ≤ ((l.length - 1 : Nat) : Int) := by
  rw [e]
  have := Rat.mul_le_mul_of_nonneg_right h1 hlp
  rw [Rat.one_mul] at this
  rw [ad5] at this ⊢
  exact this
 clear e hs
 simp only [zY]
 have hf0 : 0 ≤ p.floor := Rat.le_floor_iff.2 hp0
 have hf1 : p.floor ≤ ((l.length - 1 : Nat) : Int) := by
  have h2 := Rat.floor_le p
  have h3 := Rat.le_trans h2 hp1
  exact vk.1 h3
 have efl : fl p = p.floor := Int.le_antisymm (Rat.le_floor_iff.2 (aQ4 p)) ((alN p _).2 (Rat.floor_le p))
 have ifl : abD (fl p) := by rw [efl]; exact ⟨by omega, by omega⟩
 refine uF rfl (uC _ (show ajL (fx p, ()) = some (dec (fl p), 0, ()) from ?_) (uF rfl (uC _ (aRm (z := fl p) ?_) (uF rfl ?_))))
 ·unfold ajL; dsimp only; rw [agB hp]
 ·exact ifl
 dsimp only
 rw [efl]
 generalize hF : p.floor = F at hf0 hf1
 have hpl : aiV l p = min F.toNat (l.length - 2) := by unfold aiV; rw [hF]
 obtain ⟨n, rfl⟩ := zw hf0
 have wn : w64 ((n : Int) + 1) = ((n + 1 : Nat) : Int) := by rw [aaA zc]; omega
 rw [wn]
 simp only [aaM]
 have hD : ∀ k, k + 1 < l.length → w64 (l.getD (k + 1) 0 - l.getD k 0) = l.getD (k + 1) 0 - l.getD k 0 := by
  intro k hk
  have b := ajP ht (show k < l.length by omega)
  have b1 := ajP ht hk
  exact aaA (by have := b.1; have := b.2; have := b1.1; have := b1.2; omega)
 rw [zp] at hpl
 repeat (first | refine uV ?_ | refine uF (bne_self_eq_false _) ?_)
 refine uF sd ?_
 rcases zF n with c0 | c0
 ·refine uF sd ?_
  repeat (first | refine uV ?_ | refine uF (bne_self_eq_false _) ?_)
  by_cases c1 : n < l.length - 2
  ·refine uT sd ?_
   exact amB ht hp (k := n) zc (by rw [hpl]; omega) _ rfl rfl rfl (hD n zc) ⟨by exact sn, by exact sn⟩ ⟨by exact sn, by exact sn⟩ ⟨by exact sn, by exact sn⟩
  refine uF sd ?_
  by_cases c2 : n = l.length - 2
  ·refine uF sd ?_
   exact amB ht hp (k := n) zc (by rw [hpl]; omega) _ rfl rfl rfl (hD n zc) ⟨by exact sn, by exact sn⟩ ⟨by exact sn, by exact sn⟩ ⟨by exact sn, by exact sn⟩
  refine uT sd ?_
  exact amB ht hp (k := l.length - 2) zc (by rw [hpl]; omega) _ rfl rfl rfl (hD (l.length - 2) zc) ⟨by exact sn, by exact sn⟩ ⟨by exact sn, by exact sn⟩ ⟨by exact sn, by exact sn⟩
 ·refine uT sd ?_
  repeat (first | refine uV ?_ | refine uF (bne_self_eq_false _) ?_)
  by_cases c1 : n < l.length - 2
  ·refine uT sd ?_
   exact amB ht hp (k := n) zc (by rw [hpl]; omega) _ rfl rfl rfl (hD n zc) ⟨by exact sn, by exact sn⟩ ⟨by exact sn, by exact sn⟩ ⟨by exact sn, by exact sn⟩
  refine uF sd ?_
  by_cases c2 : n = l.length - 2
  ·refine uF sd ?_
   exact amB ht hp (k := n) zc (by rw [hpl]; omega) _ rfl rfl rfl (hD n zc) ⟨by exact sn, by exact sn⟩ ⟨by exact sn, by exact sn⟩ ⟨by exact sn, by exact sn⟩
  refine uT sd ?_
  exact amB ht hp (k := l.length - 2) zc (by rw [hpl]; omega) _ rfl rfl rfl (hD (l.length - 2) zc) ⟨by exact sn, by exact sn⟩ ⟨by exact sn, by exact sn⟩ ⟨by exact sn, by exact sn⟩
set_option maxRecDepth 100000
open Go Go.Vg Go.Proofs
noncomputable section
abbrev DTl (d : Int × List Int × List (Int × Int × Int × Int × Int × Int × Unit) × Bool × Bool × Unit) : Prop := Qq true ∧ (Qq (42 : TypeId) ∧ Qq (0 : Int) ∧ True ∧ True ∧ True) ∧ Qq true ∧ (Qq (25 : TypeId) ∧ Qq d.1 ∧ Qq d.2.1 ∧ Qq d.2.2.1 ∧ Qq d.2.2.2.1 ∧ Qq d.2.2.2.2.1 ∧ True) ∧ Qq true ∧ True
abbrev gP (d : Int × List Int × List (Int × Int × Int × Int × Int × Int × Unit) × Bool × Bool × Unit) (i : Int) := gi d.2.2.1 i (0, 0, 0, 0, 0, 0, ())
def aE0 : LTab := [(70, 7, 4100, ⟨0, Bool × (List Int) × Unit, .appN (.c 3 1) 4 3 vZ <| .nil, [3, 2, 1], [3, 1, 0], 1⟩), (70, 58, 5124, ⟨1, (Int) × Bool × (List Int) × Unit, .dat (.s 4) vZ <| .appN (.c 3 1) 5 3 vZ <| .nil, [3, 2, 1], [3, 1, 0], 1⟩), (70, 60, 5124, ⟨2, Bool × (List Int) × Unit, .appN (.c 3 1) 5 3 vZ <| .nil, [3, 2, 1], [3, 1, 0], 1⟩), (70, 4014, 19459, ⟨3, (Int) × (Int) × (List Int) × Unit, .dat (.s 7) vZ <| .dat (.s 6) vZ <| .row 5 vZ <| .nil, [5, 3, 2], [5, 3, 1, 0], 0⟩), (70, 60, 5123, ⟨4, (List Int) × Unit, .app (.c 3 1) 5 3 vZ <| .nil, [3, 2, 1], [3, 1, 0], 1⟩)]
def ag2 (i : (Int) × Bool × (List Int) × Unit) (d : Int × List Int × List vY × Bool × Bool × Unit) : TT (uW ⊕ tb) :=
 .tt <| .lt (i.2.2.1 : List Int) fun z4 => .vI uH <| .vI (vH (vM 3 z4) <| (vP 42 (2 : Int) <| (vN 4 0 (List.length z4) true) ∧ True ∧ True) ∧ DTl d) <| .ok (.inr (.inl ((false, z4, ()))))
def alA (d : Int × List Int × List vY × Bool × Bool × Unit) (i : (Int) × Bool × (List Int) × Unit) : TT (uW ⊕ tb) :=
 .ite (i.2.1)
 (.ite (decide (i.1 < len d.2.1))
  (.ite (decide (i.1 < 8))
   (.need (inb i.1 (len d.2.1)) <| .need (1 * 8 ≤ 140737488355328) <| .tt <| .lt (w64 (i.1 + 1) : Int) fun z => .lt ([w64 (gi d.2.1 i.1 0)] : List Int) fun z1 => .vI (vJ z <| um ∧ uh ∧ ue ∧ True) <| .vI (vH (vM 3 z1) <| (vP 42 (2 : Int) <| tO ∧ True ∧ True) ∧ DTl d) <| .ok (.inl ((z, false, z1, ()))))
   (.tt <| .vI uH <| .vI (uY ∧ DTl d) <| .ok (.inr (.inl ((true, [], ()))))))
  (.tt <| .vI uH <| .vI (uY ∧ DTl d) <| .ok (.inr (.inl ((true, [], ()))))))
 (.ite (decide (i.1 < len d.2.1))
  (.ite (decide (i.1 < 8))
   (.need (inb i.1 (len d.2.1)) <| .need ((List.length i.2.2.1 + 1) * 8 ≤ 140737488355328) <| .tt <| .lt (w64 (i.1 + 1) : Int) fun z2 => .lt (List.take (List.length i.2.2.1) i.2.2.1 ++ [w64 (gi d.2.1 i.1 0)] : List Int) fun z3 => .vI (vJ z2 <| um ∧ uh ∧ ue ∧ True) <| .need ((((3 : TypeId) = 3) ∧ ((z3 : List Int) = z3)) ∧ (true = true) ∧ (((42 : TypeId) = 42) ∧ (((2 : Int) = 2) ∧ ((((5) = (5)) ∧ (((0) = (0)) ∧ ((List.length i.2.2.1 + 1 = List.length z3) ∧ ((true) = (true))))) ∧ (True ∧ True)))) ∧ DTl d) <| .ok (.inl ((z2, false, z3, ()))))
   (ag2 i d))
  (ag2 i d))
def ahP (d : Int × List Int × List vY × Bool × Bool × Unit) (j : Bool × List Int × Unit) (i1 : Bool × List Int × Unit) (i2 : (Int) × (Int) × (List Int) × Unit) : TT (uy ⊕ tb) :=
 .ite (decide (i2.1 < len i1.2.1))
 (.need (inb i2.1 (len i1.2.1)) <| .need (w64 (Int.tdiv 65535 (len i1.2.1)) ≠ 0) <| .need (inb i2.1 (len i1.2.1)) <| .tt <| .lt (w64 (i2.1 + 1) : Int) fun z9 => .lt (w64 (w64 (i2.2.1 + 1) + Int.tmod (List.getD i2.2.2.1 (0 + Int.toNat i2.1) 0) (w64 (Int.tdiv 65535 (len i1.2.1)))) : Int) fun z10 => .lt (List.set i2.2.2.1 (0 + Int.toNat i2.1) (w64 (z10 - 1)) : List Int) fun z11 => .vI (vT z10 z9 (w64 (Int.tdiv 65535 (len i1.2.1))) <| um ∧ uh ∧ True) <| .vI (vH (vM 3 z11) <| (vP 42 (2 : Int) <| (vN 5 0 (List.length i1.2.1) true) ∧ True ∧ True) ∧ DTl d) <| .ok (.inl ((z9, z10, z11, ()))))
 (.ok (.inr (.inr (((2, List.take (List.length i1.2.1) i2.2.2.1, [], ()), ())))))
def ak9 (d : Int × List Int × List vY × Bool × Bool × Unit) (j : Bool × List Int × Unit) (i1 : Bool × (List Int) × Unit) : TT tb :=
 .ite (i1.1)
 (.triv (1 * 8 ≤ 140737488355328) zf <| .tt <| .lt ([w64 (65535 * (↑0 : Int))] : List Int) fun z6 => .vI uH <| .vI (vH (vM 3 z6) <| (vP 42 (2 : Int) <| tO ∧ True ∧ True) ∧ DTl d) <| .ok (.inl ((false, z6, ()))))
 (.ite (decide (len i1.2.1 < 2))
 (.need ((List.length i1.2.1 + 1) * 8 ≤ 140737488355328) <| .tt <| .lt (List.take (List.length i1.2.1) i1.2.1 ++ [w64 (65535 * len i1.2.1)] : List Int) fun z7 => .vI uH <| .need ((((3 : TypeId) = 3) ∧ ((z7 : List Int) = z7)) ∧ (true = true) ∧ (((42 : TypeId) = 42) ∧ (((2 : Int) = 2) ∧ ((((5) = (5)) ∧ (((0) = (0)) ∧ ((List.length i1.2.1 + 1 = List.length z7) ∧ ((true) = (true))))) ∧ (True ∧ True)))) ∧ DTl d) <| .ok (.inl ((false, z7, ()))))
 (.ite (d.2.2.2.2.1)
 (.need (len i1.2.1 ≠ 0) <| .loop 3 (.tt <| .lt (i1.2.1 : List Int) fun z8 => .vI (vT (0 : Int) (0 : Int) (w64 (Int.tdiv 65535 (len z8))) <| um ∧ uh ∧ True) <| .vI (vH (vM 3 z8) <| (vP 42 (2 : Int) <| (vN 5 0 (List.length z8) true) ∧ True ∧ True) ∧ DTl d) <| .ok ((0, 0, z8, ()))) (ahP d j i1))
 (.ok (.inr (((2, List.take (List.length i1.2.1) i1.2.1, [], ()), ()))))))
def ahO (d : Int × List Int × List vY × Bool × Bool × Unit) (j : Bool × List Int × Unit) (i3 : List Int × Unit) (i4 : (Int) × (Int) × (List Int) × Unit) : TT (uy ⊕ (tu ⊕ uE)) :=
 .ite (decide (i4.1 < len i3.1))
 (.need (inb i4.1 (len i3.1)) <| .need (w64 (Int.tdiv 65535 (len i3.1)) ≠ 0) <| .need (inb i4.1 (len i3.1)) <| .tt <| .lt (w64 (i4.1 + 1) : Int) fun z14 => .lt (w64 (w64 (i4.2.1 + 1) + Int.tmod (List.getD i4.2.2.1 (0 + Int.toNat i4.1) 0) (w64 (Int.tdiv 65535 (len i3.1)))) : Int) fun z15 => .lt (List.set i4.2.2.1 (0 + Int.toNat i4.1) (w64 (z15 - 1)) : List Int) fun z16 => .vI (vT z15 z14 (w64 (Int.tdiv 65535 (len i3.1))) <| um ∧ uh ∧ True) <| .vI (vH (vM 3 z16) <| (vP 42 (2 : Int) <| (vN 5 0 (List.length i3.1) true) ∧ True ∧ True) ∧ DTl d) <| .ok (.inl ((z14, z15, z16, ()))))
 (.ok (.inr (.inr (((2, List.take (List.length i3.1) i4.2.2.1, [], ()), ())))))
def ak8 (d : Int × List Int × List vY × Bool × Bool × Unit) (j : Bool × List Int × Unit) (i3 : (List Int) × Unit) : TT (tu ⊕ uE) :=
 .ite (decide (len i3.1 < 2))
 (.need ((List.length i3.1 + 1) * 8 ≤ 140737488355328) <| .tt <| .lt (List.take (List.length i3.1) i3.1 ++ [w64 (65535 * len i3.1)] : List Int) fun z13 => .vI uH <| .need ((((3 : TypeId) = 3) ∧ ((z13 : List Int) = z13)) ∧ (true = true) ∧ (((42 : TypeId) = 42) ∧ (((2 : Int) = 2) ∧ ((((5) = (5)) ∧ (((0) = (0)) ∧ ((List.length i3.1 + 1 = List.length z13) ∧ ((true) = (true))))) ∧ (True ∧ True)))) ∧ DTl d) <| .ok (.inl ((z13, ()))))
 (.ite (d.2.2.2.2.1)
 (.need (len i3.1 ≠ 0) <| .loop 3 (.tt <| .vI (vT (0 : Int) (0 : Int) (w64 (Int.tdiv 65535 (len i3.1))) <| um ∧ uh ∧ True) <| .vI (vH (vM 3 i3.1) <| (vP 42 (2 : Int) <| (vN 5 0 (List.length i3.1) true) ∧ True ∧ True) ∧ DTl d) <| .ok ((0, 0, i3.1, ()))) (ahO d j i3))
 (.ok (.inr (((2, List.take (List.length i3.1) i3.1, [], ()), ())))))
def ahQ (d : Int × List Int × List vY × Bool × Bool × Unit) (j : Bool × (List Int) × Unit) : TT uE :=
 .ite (j.1)
 (.loop 2 (.tt <| .vI uH <| .vI (uY ∧ DTl d) <| .ok ((true, [], ()))) (ak9 d j))
 (.loop 4 (.tt <| .lt (j.2.1 : List Int) fun z12 => .vI uH <| .vI (vH (vM 3 z12) <| (vP 42 (2 : Int) <| (vN 5 0 (List.length z12) true) ∧ True ∧ True) ∧ DTl d) <| .ok ((z12, ()))) (ak8 d j))
def ajS (d : Int × List Int × List vY × Bool × Bool × Unit) : TT uE :=
 .join 0 (ι := Bool × (List Int) × Unit) (.loop 1 (.tt <| .vI (vJ (0 : Int) <| um ∧ uh ∧ ue ∧ True) <| .vI (uY ∧ DTl d) <| .ok ((0, true, [], ()))) (alA d)) (ahQ d)
def aA2 : LTab := [(69, 250, 11268, ⟨0, (Int) × (Int) × Bool × (List vY) × Unit, .dat (.s 6) vZ <| .dat (.s 5) vZ <| .appN (.c 3 2) 11 64 uD <| .nil, [4, 3, 2, 1], [3, 1, 0], 1⟩)]
def afH (d : Int × List Int × List vY × Bool × Bool × Unit) : TT tP :=
 .ite (d.2.2.2.2.1)
 (.triv (asT Int 0 ≤ 1 ∧ 1 ≤ (↑1 : Int)) zf <| .triv (inb (w64 (1 - 1)) (↑1 : Int)) zf <| .ok (.inr (((3, [], List.take 1 (List.set [(0, 1000000, 0, 1, 1, 0, ())] (0 + Int.toNat (w64 (1 - 1))) (1000000, (List.getD [(0, 1000000, 0, 1, 1, 0, ())] (0 + Int.toNat (w64 (1 - 1))) (0, 0, 0, 0, 0, 0, ())).2)), ()), ()))))
 (.triv (inb (w64 (1 - 1)) (↑1 : Int)) zf <| .ok (.inr (((3, [], List.take 1 (List.set [(0, 1000000, 0, 1, 1, 0, ())] (0 + Int.toNat (w64 (1 - 1))) (1000000, (List.getD [(0, 1000000, 0, 1, 1, 0, ())] (0 + Int.toNat (w64 (1 - 1))) (0, 0, 0, 0, 0, 0, ())).2)), ()), ()))))
def aiE (d : Int × List Int × List vY × Bool × Bool × Unit) (i : (Int) × (Int) × Bool × (List vY) × Unit) : TT tP :=
 .ite (i.2.2.1)
 (.ite (decide (i.1 < if 3 < len d.2.2.1 then 3 else len d.2.2.1))
  (.need (inb i.1 (len d.2.2.1)) <| .triv (asT Int 4 ≠ 0) zf <| .ite (d.2.2.2.1)
   (.triv (asT Int 4 ≠ 0) zf <| .ite (d.2.2.2.2.1)
    (.call (abB (w64 (1 + w64 (Int.tmod (gP d i.1).2.2.2.2.1 4)), w64 (1 + w64 (Int.tmod (gP d i.1).2.2.2.2.2.1 4)), ())) Dd1 fun y =>
     .ite (y.1)
     (.need (1 * 48 ≤ 140737488355328) <| .tt <| .lt (w64 (i.1 + 1) : Int) fun z1 => .lt (w64 (w64 (i.2.1 + 1000) + w64 (1000 * w64 (gP d i.1).1)) : Int) fun z2 => .lt ([(z2, if w64 (0 - w64 (100 * w64 (gP d i.1).2.1)) > w64 (100 * w64 (gP d i.1).2.1) then w64 (0 - w64 (100 * w64 (gP d i.1).2.1)) else w64 (100 * w64 (gP d i.1).2.1), if w64 (0 - w64 (10 * w64 (gP d i.1).2.2.1)) > w64 (10 * w64 (gP d i.1).2.2.1) then w64 (0 - w64 (10 * w64 (gP d i.1).2.2.1)) else w64 (10 * w64 (gP d i.1).2.2.1), 1, w64 (1 + w64 (Int.tmod (gP d i.1).2.2.2.2.2.1 4)), w64 (10 * w64 (gP d i.1).2.2.2.1), ())] : List vY) fun z3 => .vI (vT z2 z1 (if 3 < len d.2.2.1 then 3 else len d.2.2.1 : Int) <| um ∧ uh ∧ ue ∧ True) <| .vI (vH (vM 64 z3) <| un ∧ DTl d) <| .ok (.inl ((z1, z2, false, z3, ()))))
     (.need (1 * 48 ≤ 140737488355328) <| .tt <| .lt (w64 (i.1 + 1) : Int) fun z4 => .lt (w64 (w64 (i.2.1 + 1000) + w64 (1000 * w64 (gP d i.1).1)) : Int) fun z5 => .lt ([(z5, if w64 (0 - w64 (100 * w64 (gP d i.1).2.1)) > w64 (100 * w64 (gP d i.1).2.1) then w64 (0 - w64 (100 * w64 (gP d i.1).2.1)) else w64 (100 * w64 (gP d i.1).2.1), if w64 (0 - w64 (10 * w64 (gP d i.1).2.2.1)) > w64 (10 * w64 (gP d i.1).2.2.1) then w64 (0 - w64 (10 * w64 (gP d i.1).2.2.1)) else w64 (10 * w64 (gP d i.1).2.2.1), w64 (1 + w64 (Int.tmod (gP d i.1).2.2.2.2.1 4)), w64 (1 + w64 (Int.tmod (gP d i.1).2.2.2.2.2.1 4)), w64 (10 * w64 (gP d i.1).2.2.2.1), ())] : List vY) fun z6 => .vI (vT z5 z4 (if 3 < len d.2.2.1 then 3 else len d.2.2.1 : Int) <| um ∧ uh ∧ ue ∧ True) <| .vI (vH (vM 64 z6) <| un ∧ DTl d) <| .ok (.inl ((z4, z5, false, z6, ())))))
    (.call (abB (w64 (1 + w64 (Int.tmod (gP d i.1).2.2.2.2.1 4)), w64 (1 + w64 (Int.tmod (gP d i.1).2.2.2.2.2.1 4)), ())) Dd1 fun y1 =>
     .ite (y1.1)
     (.need (1 * 48 ≤ 140737488355328) <| .tt <| .lt (w64 (i.1 + 1) : Int) fun z7 => .lt (w64 (w64 (i.2.1 + 1000) + w64 (1000 * w64 (gP d i.1).1)) : Int) fun z8 => .lt ([(z8, w64 (100 * w64 (gP d i.1).2.1), w64 (10 * w64 (gP d i.1).2.2.1), 1, w64 (1 + w64 (Int.tmod (gP d i.1).2.2.2.2.2.1 4)), w64 (10 * w64 (gP d i.1).2.2.2.1), ())] : List vY) fun z9 => .vI (vT z8 z7 (if 3 < len d.2.2.1 then 3 else len d.2.2.1 : Int) <| um ∧ uh ∧ ue ∧ True) <| .vI (vH (vM 64 z9) <| un ∧ DTl d) <| .ok (.inl ((z7, z8, false, z9, ()))))
     (.need (1 * 48 ≤ 140737488355328) <| .tt <| .lt (w64 (i.1 + 1) : Int) fun z10 => .lt (w64 (w64 (i.2.1 + 1000) + w64 (1000 * w64 (gP d i.1).1)) : Int) fun z11 => .lt ([(z11, w64 (100 * w64 (gP d i.1).2.1), w64 (10 * w64 (gP d i.1).2.2.1), w64 (1 + w64 (Int.tmod (gP d i.1).2.2.2.2.1 4)), w64 (1 + w64 (Int.tmod (gP d i.1).2.2.2.2.2.1 4)), w64 (10 * w64 (gP d i.1).2.2.2.1), ())] : List vY) fun z12 => .vI (vT z11 z10 (if 3 < len d.2.2.1 then 3 else len d.2.2.1 : Int) <| um ∧ uh ∧ ue ∧ True) <| .vI (vH (vM 64 z12) <| un ∧ DTl d) <| .ok (.inl ((z10, z11, false, z12, ()))))))
   (.ite (d.2.2.2.2.1)
    (.call (abB (w64 (1 + w64 (Int.tmod (gP d i.1).2.2.2.2.1 4)), 1, ())) Dd1 fun y2 =>
     .ite (y2.1)
     (.need (1 * 48 ≤ 140737488355328) <| .tt <| .lt (w64 (i.1 + 1) : Int) fun z13 => .lt (w64 (w64 (i.2.1 + 1000) + w64 (1000 * w64 (gP d i.1).1)) : Int) fun z14 => .lt ([(z14, if w64 (0 - w64 (100 * w64 (gP d i.1).2.1)) > w64 (100 * w64 (gP d i.1).2.1) then w64 (0 - w64 (100 * w64 (gP d i.1).2.1)) else w64 (100 * w64 (gP d i.1).2.1), if w64 (0 - w64 (10 * w64 (gP d i.1).2.2.1)) > w64 (10 * w64 (gP d i.1).2.2.1) then w64 (0 - w64 (10 * w64 (gP d i.1).2.2.1)) else w64 (10 * w64 (gP d i.1).2.2.1), 1, 1, w64 (10 * w64 (gP d i.1).2.2.2.1), ())] : List vY) fun z15 => .vI (vT z14 z13 (if 3 < len d.2.2.1 then 3 else len d.2.2.1 : Int) <| um ∧ uh ∧ ue ∧ True) <| .vI (vH (vM 64 z15) <| un ∧ DTl d) <| .ok (.inl ((z13, z14, false, z15, ()))))
     (.need (1 * 48 ≤ 140737488355328) <| .tt <| .lt (w64 (i.1 + 1) : Int) fun z16 => .lt (w64 (w64 (i.2.1 + 1000) + w64 (1000 * w64 (gP d i.1).1)) : Int) fun z17 => .lt ([(z17, if w64 (0 - w64 (100 * w64 (gP d i.1).2.1)) > w64 (100 * w64 (gP d i.1).2.1) then w64 (0 - w64 (100 * w64 (gP d i.1).2.1)) else w64 (100 * w64 (gP d i.1).2.1), if w64 (0 - w64 (10 * w64 (gP d i.1).2.2.1)) > w64 (10 * w64 (gP d i.1).2.2.1) then w64 (0 - w64 (10 * w64 (gP d i.1).2.2.1)) else w64 (10 * w64 (gP d i.1).2.2.1), w64 (1 + w64 (Int.tmod (gP d i.1).2.2.2.2.1 4)), 1, w64 (10 * w64 (gP d i.1).2.2.2.1), ())] : List vY) fun z18 => .vI (vT z17 z16 (if 3 < len d.2.2.1 then 3 else len d.2.2.1 : Int) <| um ∧ uh ∧ ue ∧ True) <| .vI (vH (vM 64 z18) <| un ∧ DTl d) <| .ok (.inl ((z16, z17, false, z18, ())))))
    (.call (abB (w64 (1 + w64 (Int.tmod (gP d i.1).2.2.2.2.1 4)), 1, ())) Dd1 fun y3 =>
     .ite (y3.1)
     (.need (1 * 48 ≤ 140737488355328) <| .tt <| .lt (w64 (i.1 + 1) : Int) fun z19 => .lt (w64 (w64 (i.2.1 + 1000) + w64 (1000 * w64 (gP d i.1).1)) : Int) fun z20 => .lt ([(z20, w64 (100 * w64 (gP d i.1).2.1), w64 (10 * w64 (gP d i.1).2.2.1), 1, 1, w64 (10 * w64 (gP d i.1).2.2.2.1), ())] : List vY) fun z21 => .vI (vT z20 z19 (if 3 < len d.2.2.1 then 3 else len d.2.2.1 : Int) <| um ∧ uh ∧ ue ∧ True) <| .vI (vH (vM 64 z21) <| un ∧ DTl d) <| .ok (.inl ((z19, z20, false, z21, ()))))
     (.need (1 * 48 ≤ 140737488355328) <| .tt <| .lt (w64 (i.1 + 1) : Int) fun z22 => .lt (w64 (w64 (i.2.1 + 1000) + w64 (1000 * w64 (gP d i.1).1)) : Int) fun z23 => .lt ([(z23, w64 (100 * w64 (gP d i.1).2.1), w64 (10 * w64 (gP d i.1).2.2.1), w64 (1 + w64 (Int.tmod (gP d i.1).2.2.2.2.1 4)), 1, w64 (10 * w64 (gP d i.1).2.2.2.1), ())] : List vY) fun z24 => .vI (vT z23 z22 (if 3 < len d.2.2.1 then 3 else len d.2.2.1 : Int) <| um ∧ uh ∧ ue ∧ True) <| .vI (vH (vM 64 z24) <| un ∧ DTl d) <| .ok (.inl ((z22, z23, false, z24, ())))))))
  (.ite ((if 3 < len d.2.2.1 then 3 else len d.2.2.1) == 0)
   (afH d)
   (.ite (d.2.2.2.2.1)
    (.bad)
    (.bad))))
 (.ite (decide (i.1 < if 3 < len d.2.2.1 then 3 else len d.2.2.1))
  (.need (inb i.1 (len d.2.2.1)) <| .triv (asT Int 4 ≠ 0) zf <| .ite (d.2.2.2.1)
   (.triv (asT Int 4 ≠ 0) zf <| .ite (d.2.2.2.2.1)
    (.call (abB (w64 (1 + w64 (Int.tmod (gP d i.1).2.2.2.2.1 4)), w64 (1 + w64 (Int.tmod (gP d i.1).2.2.2.2.2.1 4)), ())) Dd1 fun y4 =>
     .ite (y4.1)
     (.need ((List.length i.2.2.2.1 + 1) * 48 ≤ 140737488355328) <| .tt <| .lt (w64 (i.1 + 1) : Int) fun z25 => .lt (w64 (w64 (i.2.1 + 1000) + w64 (1000 * w64 (gP d i.1).1)) : Int) fun z26 => .lt (List.take (List.length i.2.2.2.1) i.2.2.2.1 ++ [(z26, if w64 (0 - w64 (100 * w64 (gP d i.1).2.1)) > w64 (100 * w64 (gP d i.1).2.1) then w64 (0 - w64 (100 * w64 (gP d i.1).2.1)) else w64 (100 * w64 (gP d i.1).2.1), if w64 (0 - w64 (10 * w64 (gP d i.1).2.2.1)) > w64 (10 * w64 (gP d i.1).2.2.1) then w64 (0 - w64 (10 * w64 (gP d i.1).2.2.1)) else w64 (10 * w64 (gP d i.1).2.2.1), 1, w64 (1 + w64 (Int.tmod (gP d i.1).2.2.2.2.2.1 4)), w64 (10 * w64 (gP d i.1).2.2.2.1), ())] : List vY) fun z27 => .vI (vT z26 z25 (if 3 < len d.2.2.1 then 3 else len d.2.2.1 : Int) <| um ∧ uh ∧ ue ∧ True) <| .need ((((64 : TypeId) = 64) ∧ ((z27 : List vY) = z27)) ∧ (true = true) ∧ (((42 : TypeId) = 42) ∧ (((3 : Int) = 3) ∧ (True ∧ ((((11) = (11)) ∧ (((0) = (0)) ∧ ((List.length i.2.2.2.1 + 1 = List.length z27) ∧ ((true) = (true))))) ∧ True)))) ∧ DTl d) <| .ok (.inl ((z25, z26, false, z27, ()))))
     (.need ((List.length i.2.2.2.1 + 1) * 48 ≤ 140737488355328) <| .tt <| .lt (w64 (i.1 + 1) : Int) fun z28 => .lt (w64 (w64 (i.2.1 + 1000) + w64 (1000 * w64 (gP d i.1).1)) : Int) fun z29 => .lt (List.take (List.length i.2.2.2.1) i.2.2.2.1 ++ [(z29, if w64 (0 - w64 (100 * w64 (gP d i.1).2.1)) > w64 (100 * w64 (gP d i.1).2.1) then w64 (0 - w64 (100 * w64 (gP d i.1).2.1)) else w64 (100 * w64 (gP d i.1).2.1), if w64 (0 - w64 (10 * w64 (gP d i.1).2.2.1)) > w64 (10 * w64 (gP d i.1).2.2.1) then w64 (0 - w64 (10 * w64 (gP d i.1).2.2.1)) else w64 (10 * w64 (gP d i.1).2.2.1), w64 (1 + w64 (Int.tmod (gP d i.1).2.2.2.2.1 4)), w64 (1 + w64 (Int.tmod (gP d i.1).2.2.2.2.2.1 4)), w64 (10 * w64 (gP d i.1).2.2.2.1), ())] : List vY) fun z30 => .vI (vT z29 z28 (if 3 < len d.2.2.1 then 3 else len d.2.2.1 : Int) <| um ∧ uh ∧ ue ∧ True) <| .need ((((64 : TypeId) = 64) ∧ ((z30 : List vY) = z30)) ∧ (true = true) ∧ (((42 : TypeId) = 42) ∧ (((3 : Int) = 3) ∧ (True ∧ ((((11) = (11)) ∧ (((0) = (0)) ∧ ((List.length i.2.2.2.1 + 1 = List.length z30) ∧ ((true) = (true))))) ∧ True)))) ∧ DTl d) <| .ok (.inl ((z28, z29, false, z30, ())))))
    (.call (abB (w64 (1 + w64 (Int.tmod (gP d i.1).2.2.2.2.1 4)), w64 (1 + w64 (Int.tmod (gP d i.1).2.2.2.2.2.1 4)), ())) Dd1 fun y5 =>
     .ite (y5.1)
     (.need ((List.length i.2.2.2.1 + 1) * 48 ≤ 140737488355328) <| .tt <| .lt (w64 (i.1 + 1) : Int) fun z31 => .lt (w64 (w64 (i.2.1 + 1000) + w64 (1000 * w64 (gP d i.1).1)) : Int) fun z32 => .lt (List.take (List.length i.2.2.2.1) i.2.2.2.1 ++ [(z32, w64 (100 * w64 (gP d i.1).2.1), w64 (10 * w64 (gP d i.1).2.2.1), 1, w64 (1 + w64 (Int.tmod (gP d i.1).2.2.2.2.2.1 4)), w64 (10 * w64 (gP d i.1).2.2.2.1), ())] : List vY) fun z33 => .vI (vT z32 z31 (if 3 < len d.2.2.1 then 3 else len d.2.2.1 : Int) <| um ∧ uh ∧ ue ∧ True) <| .need ((((64 : TypeId) = 64) ∧ ((z33 : List vY) = z33)) ∧ (true = true) ∧ (((42 : TypeId) = 42) ∧ (((3 : Int) = 3) ∧ (True ∧ ((((11) = (11)) ∧ (((0) = (0)) ∧ ((List.length i.2.2.2.1 + 1 = List.length z33) ∧ ((true) = (true))))) ∧ True)))) ∧ DTl d) <| .ok (.inl ((z31, z32, false, z33, ()))))
     (.need ((List.length i.2.2.2.1 + 1) * 48 ≤ 140737488355328) <| .tt <| .lt (w64 (i.1 + 1) : Int) fun z34 => .lt (w64 (w64 (i.2.1 + 1000) + w64 (1000 * w64 (gP d i.1).1)) : Int) fun z35 => .lt (List.take (List.length i.2.2.2.1) i.2.2.2.1 ++ [(z35, w64 (100 * w64 (gP d i.1).2.1), w64 (10 * w64 (gP d i.1).2.2.1), w64 (1 + w64 (Int.tmod (gP d i.1).2.2.2.2.1 4)), w64 (1 + w64 (Int.tmod (gP d i.1).2.2.2.2.2.1 4)), w64 (10 * w64 (gP d i.1).2.2.2.1), ())] : List vY) fun z36 => .vI (vT z35 z34 (if 3 < len d.2.2.1 then 3 else len d.2.2.1 : Int) <| um ∧ uh ∧ ue ∧ True) <| .need ((((64 : TypeId) = 64) ∧ ((z36 : List vY) = z36)) ∧ (true = true) ∧ (((42 : TypeId) = 42) ∧ (((3 : Int) = 3) ∧ (True ∧ ((((11) = (11)) ∧ (((0) = (0)) ∧ ((List.length i.2.2.2.1 + 1 = List.length z36) ∧ ((true) = (true))))) ∧ True)))) ∧ DTl d) <| .ok (.inl ((z34, z35, false, z36, ()))))))
   (.ite (d.2.2.2.2.1)
    (.call (abB (w64 (1 + w64 (Int.tmod (gP d i.1).2.2.2.2.1 4)), 1, ())) Dd1 fun y6 =>
     .ite (y6.1)
     (.need ((List.length i.2.2.2.1 + 1) * 48 ≤ 140737488355328) <| .tt <| .lt (w64 (i.1 + 1) : Int) fun z37 => .lt (w64 (w64 (i.2.1 + 1000) + w64 (1000 * w64 (gP d i.1).1)) : Int) fun z38 => .lt (List.take (List.length i.2.2.2.1) i.2.2.2.1 ++ [(z38, if w64 (0 - w64 (100 * w64 (gP d i.1).2.1)) > w64 (100 * w64 (gP d i.1).2.1) then w64 (0 - w64 (100 * w64 (gP d i.1).2.1)) else w64 (100 * w64 (gP d i.1).2.1), if w64 (0 - w64 (10 * w64 (gP d i.1).2.2.1)) > w64 (10 * w64 (gP d i.1).2.2.1) then w64 (0 - w64 (10 * w64 (gP d i.1).2.2.1)) else w64 (10 * w64 (gP d i.1).2.2.1), 1, 1, w64 (10 * w64 (gP d i.1).2.2.2.1), ())] : List vY) fun z39 => .vI (vT z38 z37 (if 3 < len d.2.2.1 then 3 else len d.2.2.1 : Int) <| um ∧ uh ∧ ue ∧ True) <| .need ((((64 : TypeId) = 64) ∧ ((z39 : List vY) = z39)) ∧ (true = true) ∧ (((42 : TypeId) = 42) ∧ (((3 : Int) = 3) ∧ (True ∧ ((((11) = (11)) ∧ (((0) = (0)) ∧ ((List.length i.2.2.2.1 + 1 = List.length z39) ∧ ((true) = (true))))) ∧ True)))) ∧ DTl d) <| .ok (.inl ((z37, z38, false, z39, ()))))
     (.need ((List.length i.2.2.2.1 + 1) * 48 ≤ 140737488355328) <| .tt <| .lt (w64 (i.1 + 1) : Int) fun z40 => .lt (w64 (w64 (i.2.1 + 1000) + w64 (1000 * w64 (gP d i.1).1)) : Int) fun z41 => .lt (List.take (List.length i.2.2.2.1) i.2.2.2.1 ++ [(z41, if w64 (0 - w64 (100 * w64 (gP d i.1).2.1)) > w64 (100 * w64 (gP d i.1).2.1) then w64 (0 - w64 (100 * w64 (gP d i.1).2.1)) else w64 (100 * w64 (gP d i.1).2.1), if w64 (0 - w64 (10 * w64 (gP d i.1).2.2.1)) > w64 (10 * w64 (gP d i.1).2.2.1) then w64 (0 - w64 (10 * w64 (gP d i.1).2.2.1)) else w64 (10 * w64 (gP d i.1).2.2.1), w64 (1 + w64 (Int.tmod (gP d i.1).2.2.2.2.1 4)), 1, w64 (10 * w64 (gP d i.1).2.2.2.1), ())] : List vY) fun z42 => .vI (vT z41 z40 (if 3 < len d.2.2.1 then 3 else len d.2.2.1 : Int) <| um ∧ uh ∧ ue ∧ True) <| .need ((((64 : TypeId) = 64) ∧ ((z42 : List vY) = z42)) ∧ (true = true) ∧ (((42 : TypeId) = 42) ∧ (((3 : Int) = 3) ∧ (True ∧ ((((11) = (11)) ∧ (((0) = (0)) ∧ ((List.length i.2.2.2.1 + 1 = List.length z42) ∧ ((true) = (true))))) ∧ True)))) ∧ DTl d) <| .ok (.inl ((z40, z41, false, z42, ())))))
    (.call (abB (w64 (1 + w64 (Int.tmod (gP d i.1).2.2.2.2.1 4)), 1, ())) Dd1 fun y7 =>
     .ite (y7.1)
     (.need ((List.length i.2.2.2.1 + 1) * 48 ≤ 140737488355328) <| .tt <| .lt (w64 (i.1 + 1) : Int) fun z43 => .lt (w64 (w64 (i.2.1 + 1000) + w64 (1000 * w64 (gP d i.1).1)) : Int) fun z44 => .lt (List.take (List.length i.2.2.2.1) i.2.2.2.1 ++ [(z44, w64 (100 * w64 (gP d i.1).2.1), w64 (10 * w64 (gP d i.1).2.2.1), 1, 1, w64 (10 * w64 (gP d i.1).2.2.2.1), ())] : List vY) fun z45 => .vI (vT z44 z43 (if 3 < len d.2.2.1 then 3 else len d.2.2.1 : Int) <| um ∧ uh ∧ ue ∧ True) <| .need ((((64 : TypeId) = 64) ∧ ((z45 : List vY) = z45)) ∧ (true = true) ∧ (((42 : TypeId) = 42) ∧ (((3 : Int) = 3) ∧ (True ∧ ((((11) = (11)) ∧ (((0) = (0)) ∧ ((List.length i.2.2.2.1 + 1 = List.length z45) ∧ ((true) = (true))))) ∧ True)))) ∧ DTl d) <| .ok (.inl ((z43, z44, false, z45, ()))))
     (.need ((List.length i.2.2.2.1 + 1) * 48 ≤ 140737488355328) <| .tt <| .lt (w64 (i.1 + 1) : Int) fun z46 => .lt (w64 (w64 (i.2.1 + 1000) + w64 (1000 * w64 (gP d i.1).1)) : Int) fun z47 => .lt (List.take (List.length i.2.2.2.1) i.2.2.2.1 ++ [(z47, w64 (100 * w64 (gP d i.1).2.1), w64 (10 * w64 (gP d i.1).2.2.1), w64 (1 + w64 (Int.tmod (gP d i.1).2.2.2.2.1 4)), 1, w64 (10 * w64 (gP d i.1).2.2.2.1), ())] : List vY) fun z48 => .vI (vT z47 z46 (if 3 < len d.2.2.1 then 3 else len d.2.2.1 : Int) <| um ∧ uh ∧ ue ∧ True) <| .need ((((64 : TypeId) = 64) ∧ ((z48 : List vY) = z48)) ∧ (true = true) ∧ (((42 : TypeId) = 42) ∧ (((3 : Int) = 3) ∧ (True ∧ ((((11) = (11)) ∧ (((0) = (0)) ∧ ((List.length i.2.2.2.1 + 1 = List.length z48) ∧ ((true) = (true))))) ∧ True)))) ∧ DTl d) <| .ok (.inl ((z46, z47, false, z48, ())))))))
  (.ite ((if 3 < len d.2.2.1 then 3 else len d.2.2.1) == 0)
   (afH d)
   (.ite (d.2.2.2.2.1)
    (.need (asT Int 0 ≤ 1 ∧ 1 ≤ len i.2.2.2.1) <| .triv (inb (w64 (1 - 1)) (↑1 : Int)) zf <| .ok (.inr (((3, [], List.take 1 (List.set i.2.2.2.1 (0 + Int.toNat (w64 (1 - 1))) (1000000, (List.getD i.2.2.2.1 (0 + Int.toNat (w64 (1 - 1))) (0, 0, 0, 0, 0, 0, ())).2)), ()), ()))))
    (.need (inb (w64 ((if 3 < len d.2.2.1 then 3 else len d.2.2.1) - 1)) (len i.2.2.2.1)) <| .ok (.inr (((3, [], List.take (List.length i.2.2.2.1) (List.set i.2.2.2.1 (0 + Int.toNat (w64 ((if 3 < len d.2.2.1 then 3 else len d.2.2.1) - 1))) (1000000, (List.getD i.2.2.2.1 (0 + Int.toNat (w64 ((if 3 < len d.2.2.1 then 3 else len d.2.2.1) - 1))) (0, 0, 0, 0, 0, 0, ())).2)), ()), ())))))))
def agO (d : Int × List Int × List vY × Bool × Bool × Unit) : TT uE :=
 .loop 0 (.tt <| .lt ([] : List vY) fun z => .vI (vT (0 : Int) (0 : Int) (if 3 < len d.2.2.1 then 3 else len d.2.2.1 : Int) <| um ∧ uh ∧ ue ∧ True) <| .vI ((vP 42 (3 : Int) <| True ∧ True ∧ True) ∧ DTl d) <| .ok ((0, 0, true, z, ()))) (aiE d)
end
noncomputable section
abbrev DrT := Int × List Int × List adS × Bool × Bool × Unit
def aCn (l : List Int) : Prop := ∀ v ∈ l, inR v 0 65535
def aQC (d : DrT) : Prop := inR d.1 0 255 ∧ aCn d.2.1 ∧ ∀ s ∈ d.2.2.1, inR s.1 0 255 ∧ inR s.2.1 (-32768) 32767 ∧ inR s.2.2.1 (-32768) 32767 ∧ inR s.2.2.2.1 (-32768) 32767 ∧ inR s.2.2.2.2.1 0 255 ∧ inR s.2.2.2.2.2.1 0 255
def ahG (x : DrT × Unit) : Option (CvT × Unit) := (ajS x.1).toO
def afA (x : DrT × Unit) : Option (CvT × Unit) := (agO x.1).toO
end
set_option maxRecDepth 100000
open Go Go.Vg Go.Proofs
noncomputable section
def aH5 : LTab := []
def amE (d : Int × List Int × List vY × Bool × Bool × Unit) : TT uE :=
 .triv (asT Int 4 ≠ 0) zf <| .ite (Int.tmod d.1 4 == 0)
 (.ok (((1, [], [], ()), ())))
 (.ite (Int.tmod d.1 4 == 1)
 (.call (afA ((d.1, d.2.1, d.2.2.1, d.2.2.2.1, d.2.2.2.2.1, ()), ())) aHE fun y =>
 .ok (((y.1.1, y.1.2.1, y.1.2.2.1, ()), ())))
 (.call (ahG ((d.1, d.2.1, d.2.2.1, d.2.2.2.1, d.2.2.2.2.1, ()), ())) aHE fun y1 =>
 .ok (((y1.1.1, y1.1.2.1, y1.1.2.2.1, ()), ()))))
end
noncomputable section
def ajB (x : DrT × Unit) : Option (CvT × Unit) := (amE x.1).toO
end
end Go.Vs
