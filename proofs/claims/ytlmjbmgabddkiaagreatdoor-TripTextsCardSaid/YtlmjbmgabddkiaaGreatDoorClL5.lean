/-
  Trees of what the functions compute, and their laws. Own work; no condition.
-/
import Derived.Test.YtlmjbmgabddkiaaGreatDoorClL4
import Derived.Test.YtlmjbmgabddkiaaGreatDoorProg
set_option linter.unusedVariables false
set_option linter.unusedSimpArgs false
namespace Go.Vs
open Go Go.Vg
theorem aAZ {n : Nat} (h : n ≠ 0) : ∃ t : Nat, (mag n).getD ((mag n).length - 1) 0 = (t : Int) ∧ 1 ≤ t ∧ t < 1000000000 ∧ 1000000000 ^ ((mag n).length - 1) * t ≤ n ∧ n < 1000000000 ^ ((mag n).length - 1) * (t + 1) := by
 have hd := afQ n
 have hV := akT n
 have hl : 1 ≤ (mag n).length := by
  rcases zF (mag n).length with h0 | h0
  ·exact absurd (mag_nil_iff.1 (zT.1 h0)) h
  ·exact h0
 have e1 := ab1 1000000000 (mag n) ((mag n).length - 1)
 have e2 := aaI 1000000000 (mag n) ((mag n).length - 1)
 rw [acH (k := (mag n).length - 1 + 1) _ zb] at e2
 have e3 := acO zb hd ((mag n).length - 1)
 have e4 := aaH zb (ab0 hd ((mag n).length - 1))
 have e5 := aaR zb hd ((mag n).length - 1)
 obtain ⟨t, ht⟩ := zG e5.1
 have h1 : 1 ≤ t := by
  rcases zF t with h0 | h0
  ·have hc := aNJ n
   unfold Cn at hc
   rw [yO, zJ zb] at hc
   rw [ahK zb, h0] at ht
   rw [ht] at hc
   exact absurd rfl hc
  ·exact h0
 have hp : (1000000000 : Int) ^ ((mag n).length - 1) = ((1000000000 ^ ((mag n).length - 1) : Nat) : Int) := zg
 rw [hV, e2, ht, hp] at e1
 rw [hp] at e3
 refine ⟨t, ht, h1, by omega, ?_, ?_⟩
 ·have : ((1000000000 ^ ((mag n).length - 1) * t : Nat) : Int) ≤ n := by
   rw [yE]
   simp only [wF, wX] at e1
   omega
  exact Int.ofNat_le.1 this
 ·have : (n : Int) < ((1000000000 ^ ((mag n).length - 1) * (t + 1) : Nat) : Int) := by
   rw [yE]
   simp only [wF, wX] at e1
   rw [Int.natCast_add, xU]
   omega
  exact Int.ofNat_lt.1 this
theorem arJ {n t L : Nat} (h1 : 1 ≤ t) (h3 : 1000000000 ^ L * t ≤ n) (h4 : n < 1000000000 ^ L * (t + 1)) : (aaY n).length = L * 9 + (aaY t).length := by
 have a1 := afR t
 have a2 := aAQ (n := t) zb
 have a3 := aeA t
 have e : (1000000000 : Nat) ^ L = 10 ^ (L * 9) := by rw [show 1000000000 = 10 ^ 9 by decide, ← Nat.pow_mul, yV]
 rw [e] at h3 h4
 obtain ⟨q, hq⟩ : ∃ q, (aaY t).length = q + 1 := ⟨(aaY t).length - 1, by omega⟩
 rw [hq] at a1 a2 ⊢
 have h5 : 10 ^ (L * 9 + q) ≤ n := by
  rw [wJ]
  have := ya (10 ^ (L * 9)) a2
  simp at this
  omega
 have h6 : n < 10 ^ (L * 9 + q + 1) := by
  rw [show L * 9 + q + 1 = L * 9 + (q + 1) by omega, wJ]
  have : 10 ^ (L * 9) * (t + 1) ≤ 10 ^ (L * 9) * 10 ^ (q + 1) := ya _ zb
  omega
 rw [asU h5 h6]
 omega
theorem aJ4 (m : List Int) (y) (h : aBM (m, ()) = some y) : (aqX m).toO = some y := by
 obtain ⟨n, hn, hx, rfl⟩ := aaF h
 obtain ⟨rfl, -⟩ := Prod.mk.inj hx
 unfold aqX
 refine uC (len (mag n) == 0, ()) rfl ?_
 by_cases h0 : n = 0
 ·subst h0
  refine uT (by simp [mag_zero, len]) ?_
  simp [aaJ, abK]
 ·obtain ⟨t, ht, h1, h2, h3, h4⟩ := aAZ h0
  have hl : 1 ≤ (mag n).length := by
   rcases zF (mag n).length with h5 | h5
   ·exact absurd (mag_nil_iff.1 (zT.1 h5)) h0
   ·exact h5
  have hw : w64 (len (mag n) - 1) = (((mag n).length - 1 : Nat) : Int) := by rw [aaD, aaA (x := ((mag n).length : Int) - 1) zb]; omega
  refine uF sd ?_
  simp only [hw, aaK, ht]
  refine uN sd ?_
  have hdl : (aaY t).length ≤ 9 := (aa2 zb).2 zb
  refine uC (aaY t, ()) ?_ ?_
  ·rw [aaA (x := (t : Int)) zb]
   unfold ar5
   rw [if_pos (by simp only; omega)]
   simp only [akL]
  ·rw [arJ h1 h3 h4]
   simp only [aaJ, aaD]
   rw [aaA (x := ((((mag n).length - 1 : Nat)) : Int) * 9) zb, aaA zb]
   simp
theorem aD9 (m o : List Int) (y) (h : ao2 (m, o, ()) = some y) : (av3 m o).toO = some y := by
 obtain ⟨⟨a, b⟩, hn, hx, rfl⟩ := aaF h
 obtain ⟨rfl, hx2⟩ := Prod.mk.inj hx; obtain ⟨rfl, -⟩ := Prod.mk.inj hx2; dsimp only
 obtain ⟨la, lb⟩ := hn
 simp only at la lb
 unfold av3
 refine uO (mag a, mag b, ()) rfl ?_
 refine aaM (fun i : List Int × List Int × Unit => ∃ p q : Nat, i = (mag p, mag q, ()) ∧ (mag p).length ≤ 100000000000 ∧ (mag q).length ≤ 100000000000 ∧ Nat.gcd p q = Nat.gcd a b) (fun i => (V 1000000000 i.2.1).toNat) (fun _ => (mag (Nat.gcd a b), ())) ?_ _ ⟨a, b, rfl, la, lb, rfl⟩
 rintro i ⟨p, q, rfl, lp, lq, hg⟩
 simp only [azD]
 by_cases hq : q = 0
 ·right
  subst hq
  refine uC (len (mag 0) == 0, ()) rfl ?_
  refine uF (by simp [mag_zero, len]) ?_
  rw [← hg]
  simp [aaJ]
 ·have hql : 1 ≤ (mag q).length := by
   rcases zF (mag q).length with h5 | h5
   ·exact absurd (mag_nil_iff.1 (zT.1 h5)) hq
   ·exact h5
  by_cases hs : (mag p).length ≤ 2 ∧ (mag q).length ≤ 2
  ·right
   have bp : p < 1000000000000000000 := by have := mag_length_le_iff.1 hs.1; omega
   have bq : q < 1000000000000000000 := by have := mag_length_le_iff.1 hs.2; omega
   refine uC (len (mag q) == 0, ()) rfl ?_
   refine uT (by simp [len]; intro h; simp [h] at hql) ?_
   refine uL (true, ()) ?_ ?_
   ·refine uT sd ?_
    repeat refine za ?_
    show some (Sum.inl (decide (len (mag q) ≤ 2), ())) = _
    rw [zn (show len (mag q) ≤ 2 by exact sn)]
   ·simp only [aqY]
    refine uT rfl ?_
    refine uC ((p : Int), ()) (aaN (enc := fun n : Nat => (mag n, ())) p bp (fun b hb => afP (Prod.mk.inj hb).1)) ?_
    refine uC ((q : Int), ()) (aaN (enc := fun n : Nat => (mag n, ())) q bq (fun b hb => afP (Prod.mk.inj hb).1)) ?_
    refine uO ((q : Int), (p : Int), ()) rfl ?_
    refine aaM (fun i : Int × Int × Unit => ∃ r s : Nat, i = ((r : Int), (s : Int), ()) ∧ s < 1000000000000000000 ∧ r < 1000000000000000000 ∧ Nat.gcd s r = Nat.gcd a b) (fun i => i.1.toNat) (fun _ => (Sum.inr (mag (Nat.gcd a b), ()) : (List Int × List Int × Unit) ⊕ (List Int × Unit))) ?_ _ ⟨q, p, rfl, bp, bq, hg⟩
    rintro i ⟨r, s, rfl, h1, h2, h3⟩
    simp only [azC]
    rcases zF r with hr | hr
    ·subst hr
     right
     refine uF sd ?_
     refine uC (mag s, ()) ?_ ?_
     ·unfold acM
      rw [if_pos (by simp only; omega)]
      simp
     ·rw [← h3]
      simp [aaJ]
    ·left
     have hm := yz s hr
     refine ⟨(((s % r : Nat) : Int), (r : Int), ()), ?_, ⟨s % r, r, rfl, by omega, by omega, ?_⟩, by simp only; omega, zd⟩
     ·repeat refine za ?_
      rw [zY zb]
      rfl
     ·rw [← h3, xO s r, Nat.gcd_rec r s, xO]
  ·left
   refine ⟨(mag q, mag (p % q), ()), ?_, ⟨q, p % q, rfl, lq, ?_, ?_⟩, ?_, zd⟩
   ·refine uC (len (mag q) == 0, ()) rfl ?_
    refine uT (by simp [len]; intro h; simp [h] at hql) ?_
    refine uL (false, ()) ?_ ?_
    ·rcases zv 2 (mag p).length with h5 | h5
     ·repeat refine za ?_
      rfl
     ·repeat refine za ?_
      show some (Sum.inl (decide (len (mag q) ≤ 2), ())) = _
      rw [zl (show ¬ len (mag q) ≤ 2 by exact sn)]
    ·simp only [aqY]
     refine uF rfl ?_
     refine uC (mag (p / q), mag (p % q), ()) (aaN (enc := fun p : Nat × Nat => (mag p.1, mag p.2, ())) (p, q) ⟨lp, lq, hq⟩ (fun b hb => ae7 hb)) ?_
     repeat refine za ?_
     rfl
   ·have := abG (Nat.le_of_lt (yz p (show 0 < q by omega))); omega
   ·rw [← hg, xO p q, Nat.gcd_rec q p, xO]
   ·simp only [akT, zj]
    exact yz p zb
set_option maxRecDepth 100000
open Go Go.Vg Go.Proofs
noncomputable section
def aBc : LTab := [(152, 8186, 49153, ⟨0, (Int) × (List Int) × (List Int) × Unit, .dat (.s 12) vG <| .row 41 vI <| .row 26 vI <| .nil, [4, 11, 10, 9, 8, 5], [41, 26], 0⟩), (196, 63, 95232, ⟨1, (Int) × Unit, .dat (.s 8) vU <| .nil, [5, 4, 0, 1], [41, 26], 0⟩), (196, 252, 95232, ⟨2, (Int) × (Int) × Unit, .dat (.s 9) vU <| .dat (.s 8) vU <| .nil, [6, 5, 4, 0, 1], [41, 26], 0⟩), (196, 2042, 100352, ⟨3, (Int) × (Int) × (Int) × (List Int) × Unit, .dat (.s 77) vG <| .dat (.s 11) vG <| .dat (.s 10) vU <| .row 26 vI <| .nil, [76, 75, 8, 5, 4, 0, 1], [41, 26], 0⟩), (196, 65454, 118784, ⟨4, (Int) × (Int) × (List Int) × Unit, .dat (.s 125) vG <| .dat (.s 15) vI <| .row 26 vI <| .nil, [124, 123, 8, 5, 4, 0], [41, 26], 0⟩)]
def afU (i1 : (Int) × (Int) × Unit) (y3 : List Int × Unit) (i : Int × List Int × List Int × Unit) : TT (vQ ⊕ (ua ⊕ vJ)) :=
 .ite (decide (abI (i1.1 + abI (gi y3.1 (w64 (len y3.1 - 1)) 0)) ≥ 1000000000))
 (.tt <| .lt (abI (i1.2.1 - 1) : Int) fun z5 => .wZ (vl z5 (len y3.1) (0 : Int) <| (vu 26 (0 + Int.toNat i.1) (Int.toNat (w64 (w64 (i.1 + len y3.1) + 1)) - Int.toNat i.1) true) ∧ vk y3.1) <| .wZ (wY (vt 180 i.2.1) <| wY (vt 180 i.2.2.1) True) <| .ok (.inr (.inl ((z5, ())))))
 (.tt <| .lt (abI (i1.1 + abI (gi y3.1 (w64 (len y3.1 - 1)) 0)) : Int) fun z6 => .lt (abI (i1.2.1 - 1) : Int) fun z7 => .wZ (vw z7 z6 (abI (gi y3.1 (w64 (len y3.1 - 1)) 0) : Int) (len y3.1) (0 : Int) <| (vu 26 (0 + Int.toNat i.1) (Int.toNat (w64 (w64 (i.1 + len y3.1) + 1)) - Int.toNat i.1) true) ∧ vk y3.1) <| .wZ (wY (vt 180 i.2.1) <| wY (vt 180 i.2.2.1) True) <| .ok (.inl ((z6, z7, ()))))
def ae0 (m : List Int) (o : List Int) (y : Int × Unit) (y3 : List Int × Unit) (y4 : List Int × Unit) (i : Int × List Int × List Int × Unit) (i1 : (Int) × (Int) × Unit) : TT (vQ ⊕ (ua ⊕ vJ)) :=
 .ite (decide (i1.2.1 ≥ 1000000000))
 (afU i1 y3 i)
 (.need (inb (w64 (len y3.1 - 2)) (len y3.1)) <| .need (inb (w64 (len y3.1 - 2)) (↑(Int.toNat (w64 (w64 (i.1 + len y3.1) + 1)) - Int.toNat i.1) : Int)) <| .ite (decide (abI (i1.2.1 * abI (gi y3.1 (w64 (len y3.1 - 2)) 0)) > abI (abI (i1.1 * 1000000000) + abI (List.getD i.2.2.1 (0 + Int.toNat i.1 + Int.toNat (w64 (len y3.1 - 2))) 0))))
  (afU i1 y3 i)
  (.tt <| .lt (i1.2.1 : Int) fun z11 => .wZ (vl z11 (len y3.1) (0 : Int) <| (vu 26 (0 + Int.toNat i.1) (Int.toNat (w64 (w64 (i.1 + len y3.1) + 1)) - Int.toNat i.1) true) ∧ vk y3.1) <| .wZ (wY (vt 180 i.2.1) <| wY (vt 180 i.2.2.1) True) <| .ok (.inr (.inl ((z11, ()))))))
def af9 (m : List Int) (o : List Int) (y : Int × Unit) (y3 : List Int × Unit) (y4 : List Int × Unit) (i : Int × List Int × List Int × Unit) (j : Int × Unit) (i2 : Int × Int × Int × List Int × Unit) (i3 : (Int) × (Int) × (List Int) × Unit) : TT (vR ⊕ uv) :=
 .ite (decide (i3.1 < len y3.1))
 (.need (inb i3.1 (len y3.1)) <| .need (inb i3.1 (↑(Int.toNat (w64 (w64 (i.1 + len y3.1) + 1)) - Int.toNat i.1) : Int)) <| .ite (decide (adH (adH (List.getD i3.2.2.1 (0 + Int.toNat i.1 + Int.toNat i3.1) 0 + gi y3.1 i3.1 0) + i3.2.1) ≥ 1000000000))
 (.need (inb i3.1 (↑(Int.toNat (w64 (w64 (i.1 + len y3.1) + 1)) - Int.toNat i.1) : Int)) <| .tt <| .lt (w64 (i3.1 + 1) : Int) fun z20 => .lt (List.set i3.2.2.1 (0 + Int.toNat i.1 + Int.toNat i3.1) (adH (adH (adH (List.getD i3.2.2.1 (0 + Int.toNat i.1 + Int.toNat i3.1) 0 + gi y3.1 i3.1 0) + i3.2.1) - 1000000000)) : List Int) fun z21 => .wZ (vC (1 : Int) z20 (len y3.1) y3.1 (abI (j.1 - 1)) (len y3.1) (0 : Int) <| (vu 26 (0 + Int.toNat i.1) (Int.toNat (w64 (w64 (i.1 + len y3.1) + 1)) - Int.toNat i.1) true) ∧ True) <| .wZ (wY (vt 180 i.2.1) <| wY (vt 180 z21) True) <| .ok (.inl ((z20, 1, z21, ()))))
 (.need (inb i3.1 (↑(Int.toNat (w64 (w64 (i.1 + len y3.1) + 1)) - Int.toNat i.1) : Int)) <| .tt <| .lt (w64 (i3.1 + 1) : Int) fun z22 => .lt (List.set i3.2.2.1 (0 + Int.toNat i.1 + Int.toNat i3.1) (adH (adH (List.getD i3.2.2.1 (0 + Int.toNat i.1 + Int.toNat i3.1) 0 + gi y3.1 i3.1 0) + i3.2.1)) : List Int) fun z23 => .wZ (vC (0 : Int) z22 (len y3.1) y3.1 (abI (j.1 - 1)) (len y3.1) (0 : Int) <| (vu 26 (0 + Int.toNat i.1) (Int.toNat (w64 (w64 (i.1 + len y3.1) + 1)) - Int.toNat i.1) true) ∧ True) <| .wZ (wY (vt 180 i.2.1) <| wY (vt 180 z23) True) <| .ok (.inl ((z22, 0, z23, ())))))
 (.need (inb (len y3.1) (↑(Int.toNat (w64 (w64 (i.1 + len y3.1) + 1)) - Int.toNat i.1) : Int)) <| .need (inb i.1 (↑(Int.toNat (w64 (w64 (len m - len y3.1) + 1))) : Int)) <| .tt <| .lt (w64 (i.1 - 1) : Int) fun z24 => .lt (List.set i.2.1 (0 + Int.toNat i.1) (adH (abI (j.1 - 1))) : List Int) fun z25 => .lt (List.set i3.2.2.1 (0 + Int.toNat i.1 + Int.toNat (len y3.1)) 0 : List Int) fun z26 => .wZ (vj z24 <| (vu 41 0 (Int.toNat (w64 (w64 (len m - len y3.1) + 1))) true) ∧ (vj (len y3.1) <| (vu 26 0 (Int.toNat (w64 (len m + 1))) true) ∧ (vz y3.1 (adH (Int.tdiv 1000000000 (adH (gi o (w64 (len o - 1)) 0 + 1))) : Int) <| True ∧ True))) <| .wZ (wY (vt 180 z25) <| wY (vt 180 z26) True) <| .ok (.inr (.inr (.inl ((z24, z25, z26, ()))))))
def aeZ (m : List Int) (o : List Int) (y : Int × Unit) (y3 : List Int × Unit) (y4 : List Int × Unit) (i : Int × List Int × List Int × Unit) (j : Int × Unit) (i2 : (Int) × (Int) × (Int) × (List Int) × Unit) : TT uv :=
 .ite (decide (i2.1 < len y3.1))
 (.need (inb i2.1 (len y3.1)) <| .need (inb i2.1 (↑(Int.toNat (w64 (w64 (i.1 + len y3.1) + 1)) - Int.toNat i.1) : Int)) <| .triv (asT Int 1000000000 ≠ 0) ze <| .triv (asT Int 1000000000 ≠ 0) ze <| .ite (decide (w64 (w64 (w64 (List.getD i2.2.2.2.1 (0 + Int.toNat i.1 + Int.toNat i2.1) 0) - i2.2.1) - w64 (Int.tmod (abI (i2.2.2.1 + abI (j.1 * abI (gi y3.1 i2.1 0)))) 1000000000)) < 0))
 (.need (inb i2.1 (↑(Int.toNat (w64 (w64 (i.1 + len y3.1) + 1)) - Int.toNat i.1) : Int)) <| .tt <| .lt (w64 (i2.1 + 1) : Int) fun z13 => .lt (abI (Int.tdiv (abI (i2.2.2.1 + abI (j.1 * abI (gi y3.1 i2.1 0)))) 1000000000) : Int) fun z14 => .lt (List.set i2.2.2.2.1 (0 + Int.toNat i.1 + Int.toNat i2.1) (adH (w64 (w64 (w64 (w64 (List.getD i2.2.2.2.1 (0 + Int.toNat i.1 + Int.toNat i2.1) 0) - i2.2.1) - w64 (Int.tmod (abI (i2.2.2.1 + abI (j.1 * abI (gi y3.1 i2.1 0)))) 1000000000)) + 1000000000))) : List Int) fun z15 => .wZ (vA z14 (1 : Int) z13 (len y3.1) y3.1 j.1 (len y3.1) (0 : Int) <| (vu 26 (0 + Int.toNat i.1) (Int.toNat (w64 (w64 (i.1 + len y3.1) + 1)) - Int.toNat i.1) true) ∧ vk y3.1) <| .wZ (wY (vt 180 i.2.1) <| wY (vt 180 z15) True) <| .ok (.inl ((z13, 1, z14, z15, ()))))
 (.need (inb i2.1 (↑(Int.toNat (w64 (w64 (i.1 + len y3.1) + 1)) - Int.toNat i.1) : Int)) <| .tt <| .lt (w64 (i2.1 + 1) : Int) fun z16 => .lt (abI (Int.tdiv (abI (i2.2.2.1 + abI (j.1 * abI (gi y3.1 i2.1 0)))) 1000000000) : Int) fun z17 => .lt (List.set i2.2.2.2.1 (0 + Int.toNat i.1 + Int.toNat i2.1) (adH (w64 (w64 (w64 (List.getD i2.2.2.2.1 (0 + Int.toNat i.1 + Int.toNat i2.1) 0) - i2.2.1) - w64 (Int.tmod (abI (i2.2.2.1 + abI (j.1 * abI (gi y3.1 i2.1 0)))) 1000000000)))) : List Int) fun z18 => .wZ (vA z17 (0 : Int) z16 (len y3.1) y3.1 j.1 (len y3.1) (0 : Int) <| (vu 26 (0 + Int.toNat i.1) (Int.toNat (w64 (w64 (i.1 + len y3.1) + 1)) - Int.toNat i.1) true) ∧ vk y3.1) <| .wZ (wY (vt 180 i.2.1) <| wY (vt 180 z18) True) <| .ok (.inl ((z16, 0, z17, z18, ())))))
 (.need (inb (len y3.1) (↑(Int.toNat (w64 (w64 (i.1 + len y3.1) + 1)) - Int.toNat i.1) : Int)) <| .ite (decide (w64 (w64 (List.getD i2.2.2.2.1 (0 + Int.toNat i.1 + Int.toNat (len y3.1)) 0) - i2.2.1) < w64 i2.2.2.1))
 (.loop 4 (.tt <| .lt (i2.2.2.2.1 : List Int) fun z19 => .wZ (vC (0 : Int) (0 : Int) (len y3.1) y3.1 (abI (j.1 - 1)) (len y3.1) (0 : Int) <| (vu 26 (0 + Int.toNat i.1) (Int.toNat (w64 (w64 (i.1 + len y3.1) + 1)) - Int.toNat i.1) true) ∧ True) <| .wZ (wY (vt 180 i.2.1) <| wY (vt 180 z19) True) <| .ok ((0, 0, z19, ()))) (af9 m o y y3 y4 i j i2))
 (.need (inb (len y3.1) (↑(Int.toNat (w64 (w64 (i.1 + len y3.1) + 1)) - Int.toNat i.1) : Int)) <| .need (inb i.1 (↑(Int.toNat (w64 (w64 (len m - len y3.1) + 1))) : Int)) <| .tt <| .lt (w64 (i.1 - 1) : Int) fun z27 => .lt (List.set i.2.1 (0 + Int.toNat i.1) (adH j.1) : List Int) fun z28 => .lt (List.set i2.2.2.2.1 (0 + Int.toNat i.1 + Int.toNat (len y3.1)) 0 : List Int) fun z29 => .wZ (vj z27 <| (vu 41 0 (Int.toNat (w64 (w64 (len m - len y3.1) + 1))) true) ∧ (vj (len y3.1) <| (vu 26 0 (Int.toNat (w64 (len m + 1))) true) ∧ (vz y3.1 (adH (Int.tdiv 1000000000 (adH (gi o (w64 (len o - 1)) 0 + 1))) : Int) <| True ∧ True))) <| .wZ (wY (vt 180 z28) <| wY (vt 180 z29) True) <| .ok (.inr (.inl ((z27, z28, z29, ()))))))
def an2 (m : List Int) (o : List Int) (y : Int × Unit) (y3 : List Int × Unit) (y4 : List Int × Unit) (i : Int × List Int × List Int × Unit) (j : (Int) × Unit) : TT vJ :=
 .loop 3 (.tt <| .lt (i.2.2.1 : List Int) fun z12 => .wZ (vA (0 : Int) (0 : Int) (0 : Int) (len y3.1) y3.1 j.1 (len y3.1) (0 : Int) <| (vu 26 (0 + Int.toNat i.1) (Int.toNat (w64 (w64 (i.1 + len y3.1) + 1)) - Int.toNat i.1) true) ∧ vk y3.1) <| .wZ (wY (vt 180 i.2.1) <| wY (vt 180 z12) True) <| .ok ((0, 0, 0, z12, ()))) (aeZ m o y y3 y4 i j)
def agA (m : List Int) (o : List Int) (y : Int × Unit) (y3 : List Int × Unit) (y4 : List Int × Unit) (i : (Int) × (List Int) × (List Int) × Unit) : TT vJ :=
 .ite (decide (i.1 ≥ 0))
 (.need (inc (w64 (w64 (i.1 + len y3.1) + 1)) (↑(Int.toNat (w64 (len m + 1))) : Int)) <| .need (inc i.1 (↑(Int.toNat (w64 (w64 (i.1 + len y3.1) + 1))) : Int)) <| .tt <| .tt <| .need (inb (w64 (len y3.1 - 1)) (len y3.1)) <| .need (inb (len y3.1) (↑(Int.toNat (w64 (w64 (i.1 + len y3.1) + 1)) - Int.toNat i.1) : Int)) <| .need (inb (w64 (len y3.1 - 1)) (↑(Int.toNat (w64 (w64 (i.1 + len y3.1) + 1)) - Int.toNat i.1) : Int)) <| .need (abI (gi y3.1 (w64 (len y3.1 - 1)) 0) ≠ 0) <| .need (abI (gi y3.1 (w64 (len y3.1 - 1)) 0) ≠ 0) <| .join 1 (ι := (Int) × Unit) (.loop 2 (.tt <| .lt (Int.tmod (abI (abI (abI (List.getD i.2.2.1 (0 + Int.toNat i.1 + Int.toNat (len y3.1)) 0) * 1000000000) + abI (List.getD i.2.2.1 (0 + Int.toNat i.1 + Int.toNat (w64 (len y3.1 - 1))) 0))) (abI (gi y3.1 (w64 (len y3.1 - 1)) 0)) : Int) fun z3 => .lt (abI (Int.tdiv (abI (abI (abI (List.getD i.2.2.1 (0 + Int.toNat i.1 + Int.toNat (len y3.1)) 0) * 1000000000) + abI (List.getD i.2.2.1 (0 + Int.toNat i.1 + Int.toNat (w64 (len y3.1 - 1))) 0))) (abI (gi y3.1 (w64 (len y3.1 - 1)) 0))) : Int) fun z4 => .wZ (vw z4 z3 (abI (gi y3.1 (w64 (len y3.1 - 1)) 0) : Int) (len y3.1) (0 : Int) <| (vu 26 (0 + Int.toNat i.1) (Int.toNat (w64 (w64 (i.1 + len y3.1) + 1)) - Int.toNat i.1) true) ∧ vk y3.1) <| .wZ (wY (vt 180 i.2.1) <| wY (vt 180 i.2.2.1) True) <| .ok ((z3, z4, ()))) (ae0 m o y y3 y4 i)) (an2 m o y y3 y4 i))
 (.need (inc (len y3.1) (↑(Int.toNat (w64 (len m + 1))) : Int)) <| .call (ab9 (List.take (Int.toNat (len y3.1)) i.2.2.1, ())) Dd0 fun y5 =>
 .call (ag7 (y5.1, adH (Int.tdiv 1000000000 (adH (gi o (w64 (len o - 1)) 0 + 1))), ())) aPm fun y6 =>
 .call (ab9 (List.take (Int.toNat (w64 (w64 (len m - len y3.1) + 1))) i.2.1, ())) Dd0 fun y7 =>
 .ok (.inr ((y7.1, y6.1, ()))))
def akG (m : List Int) (o : List Int) : TT (List Int × List Int × Unit) :=
 .call (ac5 (m, o, ())) Dd6 fun y =>
 .ite (decide (y.1 < 0))
 (.ok (([], m, ())))
 (.ite (len o == 1)
 (.need (asT Int 0 ≤ 0 ∧ 0 < len o) <| .call (ag7 (m, gi o 0 0, ())) aPm fun y1 =>
 .call (acM (abI y1.2.1, ())) Dd0 fun y2 =>
 .ok ((y1.1, y2.1, ())))
 (.need (inb (w64 (len o - 1)) (len o)) <| .need (adH (gi o (w64 (len o - 1)) 0 + 1) ≠ 0) <| .call (adC (o, [adH (Int.tdiv 1000000000 (adH (gi o (w64 (len o - 1)) 0 + 1)))], ())) Dd0 fun y3 =>
 .need (0 ≤ w64 (len m + 1) ∧ w64 (len m + 1) ≤ w64 (len m + 1) ∧ w64 (len m + 1) * (↑4 : Int) ≤ 140737488355328) <| .call (adC (m, [adH (Int.tdiv 1000000000 (adH (gi o (w64 (len o - 1)) 0 + 1)))], ())) Dd0 fun y4 =>
 .need (0 ≤ w64 (w64 (len m - len y3.1) + 1) ∧ w64 (w64 (len m - len y3.1) + 1) ≤ w64 (w64 (len m - len y3.1) + 1) ∧ w64 (w64 (len m - len y3.1) + 1) * (↑4 : Int) ≤ 140737488355328) <| .loop 0 (.tt <| .lt (w64 (len m - len y3.1) : Int) fun z => .lt (List.replicate (Int.toNat (w64 (z + 1))) 0 : List Int) fun z1 => .lt (over (List.replicate (Int.toNat (w64 (len m + 1))) 0) 0 (List.take (Int.toNat (w64 (len m + 1))) y4.1) : List Int) fun z2 => .wZ (vj z <| (vu 41 0 (Int.toNat (w64 (z + 1))) true) ∧ (vj (len y3.1) <| (vu 26 0 (Int.toNat (w64 (len m + 1))) true) ∧ (vz y3.1 (adH (Int.tdiv 1000000000 (adH (gi o (w64 (len o - 1)) 0 + 1))) : Int) <| True ∧ True))) <| .wZ (wY (vt 180 z1) <| wY (vt 180 z2) True) <| .ok ((z, z1, z2, ()))) (agA m o y y3 y4)))
end
theorem aHt {H v1 V P U Q : Int} (hP : 0 < P) (h1 : 0 < v1) (hV : v1 * P ≤ V) (hU : U < (H + 1) * P) (hQ : Q * V ≤ U) (hQ0 : 0 ≤ Q) : Q ≤ H / v1 := by
 rw [Int.le_ediv_iff_mul_le h1]
 have a1 : Q * (v1 * P) ≤ Q * V := zy hV hQ0
 have a2 : Q * v1 * P < (H + 1) * P := by rw [Int.mul_assoc]; omega
 have := zZ a2 zb
 omega
theorem aKe {q r H v1 v2 V P U Q u2 B : Int} (hV0 : 0 ≤ V) (hP : 0 < P) (hinv : q * v1 + r = H) (hV : (v1 * B + v2) * P ≤ V) (hU : U < (H * B + u2 + 1) * P) (hQ : Q * V ≤ U) (hq : 0 ≤ q) (h : q * v2 > r * B + u2) : Q ≤ q - 1 := by
 have a1 : H * B + u2 + 1 ≤ q * (v1 * B + v2) := by
  have : q * (v1 * B + v2) = (q * v1 + r) * B - r * B + q * v2 := by grind
  rw [this, hinv]; omega
 have a2 : (H * B + u2 + 1) * P ≤ (q * (v1 * B + v2)) * P := zH a1 zb
 have a3 : q * ((v1 * B + v2) * P) ≤ q * V := zy hV hq
 rw [Int.mul_assoc] at a2
 have a4 : Q * V < q * V := zb
 have := zZ a4 hV0
 omega
theorem aCK {q r H v1 v2 V V3 P U u2 B Q : Int} (hP : 0 < P) (hinv : q * v1 + r = H) (hVe : V = (v1 * B + v2) * P + V3) (hV3 : V3 < P) (hV30 : 0 ≤ V3) (hU : (H * B + u2) * P ≤ U) (hq : 0 ≤ q) (hqB : q < B) (hVB : B * P ≤ V) (hUQ : U < (Q + 1) * V) (h : q * v2 ≤ r * B + u2) : q ≤ Q + 1 := by
 have a1 : q * (v1 * B + v2) ≤ H * B + u2 := by
  have : q * (v1 * B + v2) = (q * v1 + r) * B - r * B + q * v2 := by grind
  rw [this, hinv]; omega
 have a2 : (q * (v1 * B + v2)) * P ≤ (H * B + u2) * P := zH a1 zb
 have a3 : q * V3 ≤ B * P := by
  have b1 : q * V3 ≤ q * P := zy zb hq
  have b2 : q * P ≤ B * P := zH zb zb
  omega
 have a4 : q * V = (q * (v1 * B + v2)) * P + q * V3 := by rw [hVe]; grind
 have a5 : q * V < (Q + 2) * V := by
  have : (Q + 2) * V = (Q + 1) * V + V := by grind
  omega
 have hVpos : 0 < V := by
  have : 0 < B * P := Int.mul_pos zb hP
  omega
 have := zZ a5 zb
 omega
theorem aBf {u w : List Int} {j n : Nat} {Q Vv e U : Int} (hlen : w.length = u.length) (hjn : j + n < u.length) (hw : Dg 1000000000 w)
  (htk : w.take j = u.take j) (hdr : w.drop (j + n) = u.drop (j + n)) (hz : V 1000000000 (u.drop (j + n + 1)) = 0) (hU : U = V 1000000000 (u.drop j)) (hX0 : 0 ≤ U - Q * Vv) (hX1 : U - Q * Vv < 1000000000 ^ n)
  (hV : V 1000000000 w = V 1000000000 u - 1000000000 ^ j * (Q * Vv) + 1000000000 ^ (j + n) * e) :
  V 1000000000 (w.set (j + n) 0) = V 1000000000 u - 1000000000 ^ j * (Q * Vv) ∧ V 1000000000 ((w.set (j + n) 0).drop j) = U - Q * Vv ∧ e = u.getD (j + n) 0 := by
 have sw := ab1 1000000000 w j
 have su := ab1 1000000000 u j
 rw [htk] at sw
 have hPj : (0 : Int) < 1000000000 ^ j := yI zb
 have hPn : (0 : Int) < 1000000000 ^ n := yI zb
 have e1 : V 1000000000 (w.drop j) = U - Q * Vv + 1000000000 ^ n * e := by
  have : 1000000000 ^ j * V 1000000000 (w.drop j) = 1000000000 ^ j * (U - Q * Vv + 1000000000 ^ n * e) := by
   rw [xJ] at hV
   rw [hU]
   have : (1000000000 : Int) ^ j * (V 1000000000 (u.drop j) - Q * Vv + 1000000000 ^ n * e) = 1000000000 ^ j * V 1000000000 (u.drop j) - 1000000000 ^ j * (Q * Vv) + 1000000000 ^ j * 1000000000 ^ n * e := by grind
   omega
  exact Int.eq_of_mul_eq_mul_left zb this
 have s2 := ab1 1000000000 (w.drop j) n
 rw [zQ, hdr] at s2
 have s3 := aaI 1000000000 u (j + n)
 rw [hz, wF, wX] at s3
 rw [s3] at s2
 have l1 := acO zb (acC hw j) n
 have l2 := aaH zb (ab0 (acC hw j) n)
 have hget : w.getD (j + n) 0 = u.getD (j + n) 0 := by
  have h1 : (w.drop (j + n)).getD 0 0 = (u.drop (j + n)).getD 0 0 := by rw [hdr]
  simpa [yx, yA] using h1
 have he : e = u.getD (j + n) 0 := by
  have h1 : 1000000000 ^ n * (u.getD (j + n) 0 - e) = (U - Q * Vv) - V 1000000000 ((w.drop j).take n) := by
   rw [Int.mul_sub]; omega
  have h2 : u.getD (j + n) 0 - e < 1 := by
   have : 1000000000 ^ n * (u.getD (j + n) 0 - e) < 1000000000 ^ n * 1 := zb
   exact yP this zb
  have h3 : -1 < u.getD (j + n) 0 - e := by
   have : 1000000000 ^ n * (-1) < 1000000000 ^ n * (u.getD (j + n) 0 - e) := zb
   exact yP this zb
  omega
 refine ⟨?_, ?_, he⟩
 ·rw [asY _ zb, hget, hV, he, Int.mul_sub]
  omega
 ·have s4 : (w.set (j + n) 0).drop j = (w.drop j).set n 0 := by
   rw [List.drop_set, if_neg zb]; congr 1; omega
  rw [s4, asY _ (by rw [ye]; omega)]
  have : (w.drop j).getD n 0 = u.getD (j + n) 0 := by
   rw [← hget]; simp [yx, yA]
  rw [this, e1, he, Int.mul_sub]
  omega
theorem aL7 {u w : List Int} {j n : Nat} {q Vv e U : Int} (hw : Dg 1000000000 w)
  (htk : w.take j = u.take j) (hdr : w.drop (j + n) = u.drop (j + n)) (hz : V 1000000000 (u.drop (j + n + 1)) = 0) (hU : U = V 1000000000 (u.drop j)) (hX0 : U - q * Vv < 0)
  (hV : V 1000000000 w = V 1000000000 u - 1000000000 ^ j * (q * Vv) + 1000000000 ^ (j + n) * e) : u.getD (j + n) 0 < e := by
 have sw := ab1 1000000000 w j
 have su := ab1 1000000000 u j
 rw [htk] at sw
 have hPj : (0 : Int) < 1000000000 ^ j := yI zb
 have hPn : (0 : Int) < 1000000000 ^ n := yI zb
 have e1 : V 1000000000 (w.drop j) = U - q * Vv + 1000000000 ^ n * e := by
  have : 1000000000 ^ j * V 1000000000 (w.drop j) = 1000000000 ^ j * (U - q * Vv + 1000000000 ^ n * e) := by
   rw [xJ] at hV
   rw [hU]
   have : (1000000000 : Int) ^ j * (V 1000000000 (u.drop j) - q * Vv + 1000000000 ^ n * e) = 1000000000 ^ j * V 1000000000 (u.drop j) - 1000000000 ^ j * (q * Vv) + 1000000000 ^ j * 1000000000 ^ n * e := by grind
   omega
  exact Int.eq_of_mul_eq_mul_left zb this
 have s2 := ab1 1000000000 (w.drop j) n
 rw [zQ, hdr] at s2
 have s3 := aaI 1000000000 u (j + n)
 rw [hz, wF, wX] at s3
 rw [s3] at s2
 have l2 := aaH zb (ab0 (acC hw j) n)
 have : 1000000000 ^ n * u.getD (j + n) 0 < 1000000000 ^ n * e := zb
 exact yP this zb
theorem arE (l : List Int) {k j : Nat} (h : j ≤ k) (x : Int) : (l.set (k) x).take j = l.take j := by
 rw [List.take_set_of_le h]
theorem aHa (m o : List Int) (y : Int × Unit) (y4 : List Int × Unit) (v ql u w0 : List Int) (j n : Nat) (q : Int) (i2 : Int × Int × Int × List Int × Unit) (hv : Dg 1000000000 v) (hn : v.length = n) (hN : w0.length ≤ 1000000000000) (hjn : j + n < w0.length) (hw : Dg 1000000000 w0) (hq : 1 ≤ q ∧ q < 1000000000) (hK : inb (j : Int) (↑(Int.toNat (w64 (w64 (len m - len v) + 1))) : Int)) :
  ∃ w' e, ac0 (fun i3 => (af9 m o y (v, ()) y4 ((j : Int), ql, u, ()) (q, ()) i2 i3).toO) (0, 0, w0, ()) = some (.inr (.inl ((j : Int) - 1, ql.set j (q - 1), w'.set (j + n) 0, ()))) ∧ w'.length = w0.length ∧ Dg 1000000000 w' ∧ w'.take j = w0.take j ∧ w'.drop (j + n) = w0.drop (j + n) ∧ V 1000000000 w' = V 1000000000 w0 + 1000000000 ^ j * V 1000000000 v - 1000000000 ^ (j + n) * e := by
 have wa : w64 (w64 ((j : Int) + len v) + 1) = ((j + n + 1 : Nat) : Int) := by rw [aaD, hn, aaA (x := (j : Int) + n) zb, aaA zb]; omega
 have wb : ((((j + n + 1 : Nat) : Int).toNat - (j : Int).toNat : Nat) : Int) = ((n + 1 : Nat) : Int) := zb
 refine Exists.elim (agW (R := fun i3 => (af9 m o y (v, ()) y4 ((j : Int), ql, u, ()) (q, ()) i2 i3).toO) (fun i : Int × Int × List Int × Unit => ∃ k : Nat, k ≤ n ∧ i.1 = (k : Int) ∧ 0 ≤ i.2.1 ∧ i.2.1 ≤ 1 ∧ i.2.2.1.length = w0.length ∧ Dg 1000000000 i.2.2.1 ∧ i.2.2.1.take j = w0.take j ∧ i.2.2.1.drop (j + k) = w0.drop (j + k) ∧ V 1000000000 i.2.2.1 = V 1000000000 w0 + 1000000000 ^ j * V 1000000000 (v.take k) - 1000000000 ^ (j + k) * i.2.1) (fun i => ((n : Int) - i.1).toNat)
  (fun r => ∃ w' e, r = Sum.inr (Sum.inl ((j : Int) - 1, ql.set j (q - 1), w'.set (j + n) 0, ())) ∧ w'.length = w0.length ∧ Dg 1000000000 w' ∧ w'.take j = w0.take j ∧ w'.drop (j + n) = w0.drop (j + n) ∧ V 1000000000 w' = V 1000000000 w0 + 1000000000 ^ j * V 1000000000 v - 1000000000 ^ (j + n) * e) ?step (0, 0, w0, ()) ⟨0, by omega, rfl, by simp, by simp, rfl, hw, rfl, rfl, by simp [V]⟩) ?fin
 case fin =>
  rintro a ⟨h1, w', e, rfl, h3⟩
  exact ⟨w', e, h1, h3⟩
 rintro ⟨i, c, w, u5⟩ ⟨k, g1, g2, g3, g4, g5, g6, g7, g8, g9⟩
 dsimp only at g2 g3 g4 g5 g6 g7 g8 g9
 subst g2
 have dv := aaR zb hv k
 have dw := aaR zb g6 (j + k)
 have ev := aaT 1000000000 v k
 simp only [af9, aaK, wa, wb, zj, zo]
 rcases zv k n with hk | hk
 ·left
  have w1 : adH (adH (w.getD (j + k) 0 + v.getD k 0) + c) = w.getD (j + k) 0 + v.getD k 0 + c := by rw [aaQ (x := w.getD (j + k) 0 + v.getD k 0) zb, aaQ zb]
  have w5 : w64 ((k : Int) + 1) = ((k + 1 : Nat) : Int) := by rw [aaA (x := (k : Int) + 1) zb]; omega
  simp only [w1, w5]
  have fin : ∀ x c' : Int, 0 ≤ x ∧ x < 1000000000 → 0 ≤ c' ∧ c' ≤ 1 → x + 1000000000 * c' = w.getD (j + k) 0 + v.getD k 0 + c → ∃ k_1 : Nat, k_1 ≤ n ∧ ((k + 1 : Nat) : Int) = (k_1 : Int) ∧ 0 ≤ c' ∧ c' ≤ 1 ∧ (w.set (j + k) x).length = w0.length ∧ Dg 1000000000 (w.set (j + k) x) ∧ (w.set (j + k) x).take j = w0.take j ∧ (w.set (j + k) x).drop (j + k_1) = w0.drop (j + k_1) ∧ V 1000000000 (w.set (j + k) x) = V 1000000000 w0 + 1000000000 ^ j * V 1000000000 (v.take k_1) - 1000000000 ^ (j + k_1) * c' := by
   intro x c' hx hc he
   refine ⟨k + 1, by omega, rfl, hc.1, hc.2, by simp; omega, ahC g6 hx _, by rw [arE _ zb, g7], ?_, ?_⟩
   ·rw [afW _ zb, show j + (k + 1) = j + k + 1 by omega, ← zQ (i := 1), g8, zQ]
   ·rw [asY _ zb, g9, ev, show j + (k + 1) = j + k + 1 by omega, yp, xJ]
    have : (1000000000 : Int) ^ j * 1000000000 ^ k * (x + 1000000000 * c') = 1000000000 ^ j * 1000000000 ^ k * (w.getD (j + k) 0 + v.getD k 0 + c) := by rw [he]
    grind
  by_cases cc : w.getD (j + k) 0 + v.getD k 0 + c ≥ 1000000000
  ·refine ⟨(((k + 1 : Nat) : Int), 1, w.set (j + k) (w.getD (j + k) 0 + v.getD k 0 + c - 1000000000), ()), ?_, fin _ 1 zb zb zb, by dsimp only; omega⟩
   refine uT sd (uN sd (uN ⟨by omega, by omega⟩ (uT (zn cc) (uN ⟨by omega, by omega⟩ ?_))))
   repeat refine za ?_
   rw [aaQ (x := w.getD (j + k) 0 + v.getD k 0 + c - 1000000000) zb]
   rfl
  ·refine ⟨(((k + 1 : Nat) : Int), 0, w.set (j + k) (w.getD (j + k) 0 + v.getD k 0 + c), ()), ?_, fin _ 0 zb zb zb, by dsimp only; omega⟩
   refine uT sd (uN sd (uN ⟨by omega, by omega⟩ (uF (zl cc) (uN ⟨by omega, by omega⟩ ?_))))
   repeat refine za ?_
   rfl
 ·right
  have hkn : k = n := zb
  subst hkn
  rw [aa6 _ zb] at g9
  refine ⟨_, ?_, w, c, rfl, g5, g6, g7, g8, g9⟩
  refine uF sd (uN ⟨by simp [len], by rw [aaD, hn]; omega⟩ (uN hK ?_))
  repeat refine za ?_
  have w6 : adH (abI (q - 1)) = q - 1 := by rw [aaG (x := q - 1) zb, aaQ zb]
  rw [aaJ, w6, aaA (x := (j : Int) - 1) zb, aaD, hn, zj]
theorem amQ {a b B : Int} (ha : 0 ≤ a ∧ a < B) (hb : 0 ≤ b ∧ b < B) : 0 ≤ a * b ∧ a * b ≤ (B - 1) * (B - 1) := by
 refine ⟨xn ha.1 hb.1, ?_⟩
 have h1 : a * b ≤ a * (B - 1) := zy zb ha.1
 have h2 : a * (B - 1) ≤ (B - 1) * (B - 1) := zH zb zb
 omega
theorem aHb (m o : List Int) (y : Int × Unit) (y4 : List Int × Unit) (v ql u : List Int) (j n : Nat) (q Q : Int) (hv : Dg 1000000000 v) (hn : v.length = n) (hN : u.length ≤ 1000000000000) (hjn : j + n < u.length) (hu : Dg 1000000000 u) (hq : 0 ≤ q ∧ q < 1000000000) (hK : inb (j : Int) (↑(Int.toNat (w64 (w64 (len m - len v) + 1))) : Int))
  (hz : V 1000000000 (u.drop (j + n + 1)) = 0) (hQ : q = Q ∨ q = Q + 1) (hX0 : 0 ≤ V 1000000000 (u.drop j) - Q * V 1000000000 v) (hX1 : V 1000000000 (u.drop j) - Q * V 1000000000 v < V 1000000000 v) (hQ0 : 0 ≤ Q) :
  ∃ u', ac0 (fun i2 => (aeZ m o y (v, ()) y4 ((j : Int), ql, u, ()) (q, ()) i2).toO) (0, 0, 0, u, ()) = some (.inl ((j : Int) - 1, ql.set j Q, u', ())) ∧ u'.length = u.length ∧ Dg 1000000000 u' ∧ V 1000000000 u' = V 1000000000 u - 1000000000 ^ j * (Q * V 1000000000 v) ∧ V 1000000000 (u'.drop j) = V 1000000000 (u.drop j) - Q * V 1000000000 v := by
 have wa : w64 (w64 ((j : Int) + len v) + 1) = ((j + n + 1 : Nat) : Int) := by rw [aaD, hn, aaA (x := (j : Int) + n) zb, aaA zb]; omega
 have wb : ((((j + n + 1 : Nat) : Int).toNat - (j : Int).toNat : Nat) : Int) = ((n + 1 : Nat) : Int) := zb
 have hVn : V 1000000000 v < 1000000000 ^ n := by have := aEI zb hv; rwa [hn] at this
 refine Exists.elim (agW (R := fun i2 => (aeZ m o y (v, ()) y4 ((j : Int), ql, u, ()) (q, ()) i2).toO) (fun i : Int × Int × Int × List Int × Unit => ∃ k : Nat, k ≤ n ∧ i.1 = (k : Int) ∧ 0 ≤ i.2.1 ∧ i.2.1 ≤ 1 ∧ 0 ≤ i.2.2.1 ∧ i.2.2.1 < 1000000000 ∧ i.2.2.2.1.length = u.length ∧ Dg 1000000000 i.2.2.2.1 ∧ i.2.2.2.1.take j = u.take j ∧ i.2.2.2.1.drop (j + k) = u.drop (j + k) ∧ V 1000000000 i.2.2.2.1 = V 1000000000 u - 1000000000 ^ j * (q * V 1000000000 (v.take k)) + 1000000000 ^ (j + k) * (i.2.1 + i.2.2.1)) (fun i => ((n : Int) - i.1).toNat)
  (fun r => ∃ u', r = Sum.inl ((j : Int) - 1, ql.set j Q, u', ()) ∧ u'.length = u.length ∧ Dg 1000000000 u' ∧ V 1000000000 u' = V 1000000000 u - 1000000000 ^ j * (Q * V 1000000000 v) ∧ V 1000000000 (u'.drop j) = V 1000000000 (u.drop j) - Q * V 1000000000 v) ?step (0, 0, 0, u, ()) ⟨0, by omega, rfl, by simp, by simp, by simp, by simp, rfl, hu, rfl, rfl, by simp [V]⟩) ?fin
 case fin =>
  rintro a ⟨h1, u', rfl, h3⟩
  exact ⟨u', h1, h3⟩
 rintro ⟨i, b, c, w, u5⟩ ⟨k, g1, g2, g3, g4, g5, g6, g7, g8, g9, g10, g11⟩
 dsimp only at g2 g3 g4 g5 g6 g7 g8 g9 g10 g11
 subst g2
 have dv := aaR zb hv k
 have dw := aaR zb g8 (j + k)
 have ev := aaT 1000000000 v k
 have hm := amQ hq dv
 have hs : 0 ≤ c + q * v.getD k 0 := zb
 simp only [aeZ, aaK, wa, wb, zj, zo]
 rcases zv k n with hk | hk
 ·left
  have wv : abI (v.getD k 0) = v.getD k 0 := aaG zb
  have wp : abI (c + abI (q * v.getD k 0)) = c + q * v.getD k 0 := by rw [aaG (x := q * v.getD k 0) zb, aaG zb]
  have em := yi (c + q * v.getD k 0) 1000000000
  have e2 : 0 ≤ (c + q * v.getD k 0) % 1000000000 ∧ (c + q * v.getD k 0) % 1000000000 < 1000000000 := zb
  have e3 : 0 ≤ (c + q * v.getD k 0) / 1000000000 ∧ (c + q * v.getD k 0) / 1000000000 < 1000000000 := zb
  have tm : Int.tmod (c + q * v.getD k 0) 1000000000 = (c + q * v.getD k 0) % 1000000000 := zY hs
  have td : Int.tdiv (c + q * v.getD k 0) 1000000000 = (c + q * v.getD k 0) / 1000000000 := zM hs
  have wr : w64 (w64 (w64 (w.getD (j + k) 0) - b) - w64 ((c + q * v.getD k 0) % 1000000000)) = w.getD (j + k) 0 - b - (c + q * v.getD k 0) % 1000000000 := by
   rw [aaA (x := w.getD (j + k) 0) zb, aaA (x := w.getD (j + k) 0 - b) zb, aaA (x := (c + q * v.getD k 0) % 1000000000) zb, aaA zb]
  have w5 : w64 ((k : Int) + 1) = ((k + 1 : Nat) : Int) := by rw [aaA (x := (k : Int) + 1) zb]; omega
  have wd : abI ((c + q * v.getD k 0) / 1000000000) = (c + q * v.getD k 0) / 1000000000 := aaG zb
  simp only [wv, wp, tm, td, wr, w5, wd]
  generalize (c + q * v.getD k 0) % 1000000000 = D at *
  generalize (c + q * v.getD k 0) / 1000000000 = C at *
  have fin : ∀ x b' : Int, 0 ≤ x ∧ x < 1000000000 → 0 ≤ b' ∧ b' ≤ 1 → x = w.getD (j + k) 0 - b - D + 1000000000 * b' → ∃ k_1 : Nat, k_1 ≤ n ∧ ((k + 1 : Nat) : Int) = (k_1 : Int) ∧ 0 ≤ b' ∧ b' ≤ 1 ∧ 0 ≤ C ∧ C < 1000000000 ∧ (w.set (j + k) x).length = u.length ∧ Dg 1000000000 (w.set (j + k) x) ∧ (w.set (j + k) x).take j = u.take j ∧ (w.set (j + k) x).drop (j + k_1) = u.drop (j + k_1) ∧ V 1000000000 (w.set (j + k) x) = V 1000000000 u - 1000000000 ^ j * (q * V 1000000000 (v.take k_1)) + 1000000000 ^ (j + k_1) * (b' + C) := by
   intro x b' hx hb he
   refine ⟨k + 1, by omega, rfl, hb.1, hb.2, e3.1, e3.2, by simp; omega, ahC g8 hx _, by rw [arE _ zb, g9], ?_, ?_⟩
   ·rw [afW _ zb, show j + (k + 1) = j + k + 1 by omega, ← zQ (i := 1), g10, zQ]
   ·rw [asY _ zb, g11, ev, show j + (k + 1) = j + k + 1 by omega, yp, xJ, he]
    have : (1000000000 : Int) ^ j * 1000000000 ^ k * (D + 1000000000 * C) = 1000000000 ^ j * 1000000000 ^ k * (c + q * v.getD k 0) := by rw [em]
    grind
  by_cases cc : w.getD (j + k) 0 - b - D < 0
  ·refine ⟨(((k + 1 : Nat) : Int), 1, C, w.set (j + k) (w.getD (j + k) 0 - b - D + 1000000000), ()), ?_, fin _ 1 zb zb zb, by dsimp only; omega⟩
   refine uT sd (uN sd (uN ⟨by omega, by omega⟩ (uV (uV (uT (zn cc) (uN ⟨by omega, by omega⟩ ?_))))))
   repeat refine za ?_
   rw [aaA (x := w.getD (j + k) 0 - b - D + 1000000000) zb, aaQ zb]
   rfl
  ·refine ⟨(((k + 1 : Nat) : Int), 0, C, w.set (j + k) (w.getD (j + k) 0 - b - D), ()), ?_, fin _ 0 zb zb zb, by dsimp only; omega⟩
   refine uT sd (uN sd (uN ⟨by omega, by omega⟩ (uV (uV (uF (zl cc) (uN ⟨by omega, by omega⟩ ?_))))))
   repeat refine za ?_
   rw [aaQ (x := w.getD (j + k) 0 - b - D) zb]
   rfl
 ·right
  have hkn : k = n := zb
  subst hkn
  rw [aa6 _ zb] at g11
  have hun := aaR zb hu (j + k)
  have hget : w.getD (j + k) 0 = u.getD (j + k) 0 := by
   have h1 : (w.drop (j + k)).getD 0 0 = (u.drop (j + k)).getD 0 0 := by rw [g10]
   simpa [yx, yA] using h1
  have wl : len v = (k : Int) := by rw [aaD, hn]
  have wt : w64 (w64 (u.getD (j + k) 0) - b) = u.getD (j + k) 0 - b := by rw [aaA (x := u.getD (j + k) 0) zb, aaA zb]
  have wc : w64 c = c := aaA zb
  simp only [wl, zj, hget, wt, wc]
  by_cases cb : u.getD (j + k) 0 - b < c
  ·-- one too great
   have hq1 : q = Q + 1 := by
    rcases hQ with h | h
    ·subst h
     obtain ⟨-, -, he⟩ := aBf (Q := q) g7 hjn g8 g9 g10 hz rfl hX0 zb g11
     omega
    ·exact h
   obtain ⟨w', e, r1, r2, r3, r4, r5, r6⟩ := aHa m o y y4 v ql u w j k q ((k : Int), b, c, w, ()) hv hn zb zb g8 zb hK
   obtain ⟨f1, f2, -⟩ := aBf (u := u) (w := w') (Q := Q) (Vv := V 1000000000 v) (e := b + c - e) (by rw [r2, g7]) hjn r3 (by rw [r4, g9]) (by rw [r5, g10]) hz rfl hX0 zb (by
    rw [r6, g11, hq1]
    grind)
   refine ⟨_, ?_, w'.set (j + k) 0, rfl, by simp; omega, ahC r3 zb _, f1, f2⟩
   refine uF sd (uN ⟨by omega, by omega⟩ (uT (zn cb) ?_))
   refine uO (0, 0, w, ()) (by repeat refine za ?_; rfl) ?_
   rw [r1, hq1, Int.add_sub_cancel]
  ·have hq1 : q = Q := by
    rcases hQ with h | h
    ·exact h
    ·exfalso
     have := aL7 (q := q) g8 g9 g10 hz rfl (by rw [h, Int.add_mul]; omega) g11
     omega
   subst hq1
   obtain ⟨f1, f2, -⟩ := aBf (Q := q) g7 hjn g8 g9 g10 hz rfl hX0 zb g11
   refine ⟨_, ?_, w.set (j + k) 0, rfl, by simp; omega, ahC g8 zb _, f1, f2⟩
   refine uF sd (uN ⟨by omega, by omega⟩ (uF (zl cb) (uN ⟨by omega, by omega⟩ (uN (by rw [wl] at hK; exact hK) ?_))))
   repeat refine za ?_
   rw [aaJ, aaQ (x := q) zb, aaA (x := (j : Int) - 1) zb]
theorem amN {N : Nat} {s : List Int} (h : s.length ≤ N) : over (List.replicate N 0) 0 s = s ++ List.replicate (N - s.length) 0 := by
 unfold over
 simp
theorem aOh {N : Nat} {s : List Int} (h : s.length ≤ N) : V 1000000000 (over (List.replicate N 0) 0 s) = V 1000000000 s := by
 rw [amN h, adA, ar2]; omega
theorem aHc (m o : List Int) (y : Int × Unit) (y4 : List Int × Unit) (v ql u : List Int) (j n : Nat) (U Q : Int) (hv : Dg 1000000000 v) (hn : v.length = n + 2) (hN : u.length ≤ 1000000000000) (hjn : j + n + 2 < u.length) (hu : Dg 1000000000 u) (hz : V 1000000000 (u.drop (j + n + 2 + 1)) = 0) (hU : U = V 1000000000 (u.drop j)) (hUB : U < V 1000000000 v * 1000000000) (hQ1 : Q * V 1000000000 v ≤ U) (hQ2 : U < (Q + 1) * V 1000000000 v) (hQ0 : 0 ≤ Q) (htop : 1 ≤ v.getD (n + 1) 0) :
  ∃ q, (q = Q ∨ q = Q + 1) ∧ 0 ≤ q ∧ q < 1000000000 ∧ ac0 (fun i1 => (ae0 m o y (v, ()) y4 ((j : Int), ql, u, ()) i1).toO) ((u.getD (j + n + 2) 0 * 1000000000 + u.getD (j + n + 1) 0) % v.getD (n + 1) 0, (u.getD (j + n + 2) 0 * 1000000000 + u.getD (j + n + 1) 0) / v.getD (n + 1) 0, ()) = some (.inl (q, ())) := by
 have wb1 : w64 (len v - 1) = ((n + 1 : Nat) : Int) := by rw [aaD, hn, aaA zb]; omega
 have wb2 : w64 (len v - 2) = ((n : Nat) : Int) := by rw [aaD, hn, aaA zb]; omega
 have wa : w64 (w64 ((j : Int) + len v) + 1) = ((j + n + 2 + 1 : Nat) : Int) := by rw [aaD, hn, aaA (x := (j : Int) + ((n + 2 : Nat) : Int)) zb, aaA zb]; omega
 have wb : ((((j + n + 2 + 1 : Nat) : Int).toNat - (j : Int).toNat : Nat) : Int) = ((n + 3 : Nat) : Int) := zb
 have dv1 := aaR zb hv (n + 1)
 have dv2 := aaR zb hv n
 have du0 := aaR zb hu (j + n + 2)
 have du1 := aaR zb hu (j + n + 1)
 have du2 := aaR zb hu (j + n)
 -- the divisor
 have hP : (0 : Int) < 1000000000 ^ n := yI zb
 have hP1 : (0 : Int) < 1000000000 ^ (n + 1) := yI zb
 have s1 := ab1 1000000000 v n
 have s2 := aaI 1000000000 v n
 have s3 := aaI 1000000000 v (n + 1)
 rw [acH (k := n + 1 + 1) _ zb, wF, wX] at s3
 rw [s3] at s2
 have s4 := acO zb hv n
 have s5 := aaH zb (ab0 hv n)
 have s6 := ab1 1000000000 v (n + 1)
 rw [s3] at s6
 have s7 := aaH zb (ab0 hv (n + 1))
 -- the window
 have t1 := ab1 1000000000 (u.drop j) n
 have t2 : V 1000000000 ((u.drop j).drop n) = (u.getD (j + n + 2) 0 * 1000000000 + u.getD (j + n + 1) 0) * 1000000000 + u.getD (j + n) 0 := by
  rw [zQ]
  have a1 := aaI 1000000000 u (j + n)
  have a2 := aaI 1000000000 u (j + n + 1)
  have a3 := aaI 1000000000 u (j + n + 1 + 1)
  rw [show j + n + 1 + 1 + 1 = j + n + 2 + 1 by omega, hz] at a3
  rw [a1, a2, a3]
  show _ + 1000000000 * (_ + 1000000000 * (u.getD (j + n + 2) 0 + 1000000000 * 0)) = _
  omega
 have t3 := acO zb (acC hu j) n
 have t4 := aaH zb (ab0 (acC hu j) n)
 rw [← hU, t2] at t1
 generalize hH : u.getD (j + n + 2) 0 * 1000000000 + u.getD (j + n + 1) 0 = H at *
 have hH0 : 0 ≤ H ∧ H < 1000000000000000000 := zb
 generalize hv1 : v.getD (n + 1) 0 = v1 at *
 generalize hv2 : v.getD n 0 = v2 at *
 generalize hu2 : u.getD (j + n) 0 = u2 at *
 generalize V 1000000000 (v.take n) = V3 at *
 generalize V 1000000000 ((u.drop j).take n) = U3 at *
 generalize V 1000000000 (v.take (n + 1)) = V4 at *
 have hVe : V 1000000000 v = (v1 * 1000000000 + v2) * 1000000000 ^ n + V3 := by rw [s1, s2]; grind
 have hVv : v1 * 1000000000 ^ (n + 1) ≤ V 1000000000 v := by
  have : (1000000000 : Int) ^ (n + 1) * v1 = v1 * 1000000000 ^ (n + 1) := yZ _ _
  omega
 have hVB : 1000000000 * 1000000000 ^ n ≤ V 1000000000 v := by
  have a1 : 1 * 1000000000 ^ (n + 1) ≤ v1 * 1000000000 ^ (n + 1) := zH htop zb
  have a2 : (1000000000 : Int) ^ (n + 1) = 1000000000 * 1000000000 ^ n := by rw [yp, yZ]
  omega
 have hUlo : (H * 1000000000 + u2) * 1000000000 ^ n ≤ U := by
  have : (1000000000 : Int) ^ n * (H * 1000000000 + u2) = (H * 1000000000 + u2) * 1000000000 ^ n := yZ _ _
  omega
 have hUhi : U < (H * 1000000000 + u2 + 1) * 1000000000 ^ n := by
  have : (H * 1000000000 + u2 + 1) * 1000000000 ^ n = 1000000000 ^ n * (H * 1000000000 + u2) + 1000000000 ^ n := by grind
  omega
 have hUhi1 : U < (H + 1) * 1000000000 ^ (n + 1) := by
  have a1 : (H * 1000000000 + u2 + 1) * 1000000000 ^ n ≤ ((H + 1) * 1000000000) * 1000000000 ^ n := zH zb zb
  have a2 : ((H + 1) * 1000000000) * 1000000000 ^ n = (H + 1) * 1000000000 ^ (n + 1) := by rw [yp]; grind
  omega
 have hVpos : 0 < V 1000000000 v := by have := Int.mul_pos (show (0 : Int) < 1000000000 by omega) hP; omega
 have hQB : Q < 1000000000 := by
  have : Q * V 1000000000 v < 1000000000 * V 1000000000 v := zb
  exact zZ this zb
 have hstart := aHt hP1 zb hVv hUhi1 hQ1 hQ0
 have hdm := yi H v1
 have hr0 := xy H (show v1 ≠ 0 by omega)
 have hr1 := xq H (show 0 < v1 by omega)
 refine Exists.elim (agW (R := fun i1 => (ae0 m o y (v, ()) y4 ((j : Int), ql, u, ()) i1).toO) (fun i : Int × Int × Unit => 0 ≤ i.1 ∧ i.1 < 1000000000 ∧ Q ≤ i.2.1 ∧ i.2.1 * v1 + i.1 = H) (fun i => i.2.1.toNat) (fun r => ∃ q, (q = Q ∨ q = Q + 1) ∧ 0 ≤ q ∧ q < 1000000000 ∧ r = Sum.inl (q, ())) ?step (H % v1, H / v1, ()) ⟨hr0, by dsimp only; omega, hstart, by dsimp only; rw [yZ]; omega⟩) ?fin
 case fin =>
  rintro a ⟨h1, q, h2, h3, h4, rfl⟩
  exact ⟨q, h2, h3, h4, h1⟩
 rintro ⟨r, q, u5⟩ ⟨g1, g2, g3, g4⟩
 dsimp only at g1 g2 g3 g4
 have hqH : q ≤ H := by
  have : q * 1 ≤ q * v1 := zy htop zb
  omega
 have down : Q ≤ q - 1 → ((r + v1 ≥ 1000000000 → ∃ q', (q' = Q ∨ q' = Q + 1) ∧ 0 ≤ q' ∧ q' < 1000000000 ∧ q' = q - 1)) := by
  intro hdn hr
  have hqB : q - 1 < 1000000000 := by
   have a1 : (q - 1) * v1 = H - (r + v1) := by rw [Int.sub_mul]; omega
   have a2 : H < (v1 + 1) * 1000000000 := by
    have b1 : H * 1000000000 ^ (n + 1) ≤ U := by
     have a2 : (H * 1000000000) * 1000000000 ^ n = H * 1000000000 ^ (n + 1) := by rw [yp]; grind
     have a3 : (H * 1000000000) * 1000000000 ^ n ≤ (H * 1000000000 + u2) * 1000000000 ^ n := zH zb zb
     omega
    have b2 : V 1000000000 v < (v1 + 1) * 1000000000 ^ (n + 1) := by
     have a2 : (v1 + 1) * 1000000000 ^ (n + 1) = (v1 * 1000000000 + 1000000000) * 1000000000 ^ n := by rw [yp]; grind
     have a3 : (v1 * 1000000000 + v2 + 1) * 1000000000 ^ n ≤ (v1 * 1000000000 + 1000000000) * 1000000000 ^ n := zH zb zb
     have a4 : (v1 * 1000000000 + v2 + 1) * 1000000000 ^ n = (v1 * 1000000000 + v2) * 1000000000 ^ n + 1000000000 ^ n := by grind
     omega
    have b3 : H * 1000000000 ^ (n + 1) < ((v1 + 1) * 1000000000) * 1000000000 ^ (n + 1) := by
     have : ((v1 + 1) * 1000000000) * 1000000000 ^ (n + 1) = ((v1 + 1) * 1000000000 ^ (n + 1)) * 1000000000 := by grind
     omega
    exact zZ b3 zb
   have a3 : (q - 1) * v1 < 1000000000 * v1 := by
    have : (v1 + 1) * 1000000000 = 1000000000 * v1 + 1000000000 := by grind
    omega
   exact zZ a3 zb
  have hm := amQ (a := q - 1) (b := v2) (B := 1000000000) ⟨by omega, hqB⟩ dv2
  have hmB : 1000000000 * 1000000000 ≤ (r + v1) * 1000000000 := zb
  have := aCK (q := q - 1) (r := r + v1) hP (by rw [Int.sub_mul]; omega) hVe s4 s5 hUlo zb hqB hVB hQ2 zb
  exact ⟨q - 1, by omega, by omega, hqB, rfl⟩
 have wv1 : abI v1 = v1 := aaG zb
 have wr : abI (r + v1) = r + v1 := aaG zb
 have hgi1 : gi v ((n + 1 : Nat) : Int) 0 = v1 := by rw [aaK, hv1]
 have hgi2 : gi v ((n : Nat) : Int) 0 = v2 := by rw [aaK, hv2]
 simp only [ae0, afU, wb1, wb2, hgi1, hgi2, wv1, wr, wa, wb, zj, zo, hu2]
 have stepdn : Q ≤ q - 1 → 1 ≤ q → ((r + v1 ≥ 1000000000 → ∃ q', ((q' = Q ∨ q' = Q + 1) ∧ 0 ≤ q' ∧ q' < 1000000000) ∧ abI (q - 1) = q') ∧ (¬ r + v1 ≥ 1000000000 → (0 ≤ r + v1 ∧ r + v1 < 1000000000 ∧ Q ≤ q - 1 ∧ (q - 1) * v1 + (r + v1) = H) ∧ abI (q - 1) = q - 1)) := by
  intro h1 h2
  have wq : abI (q - 1) = q - 1 := aaG zb
  refine ⟨fun h => ?_, fun h => ⟨⟨by omega, by omega, h1, by rw [Int.sub_mul]; omega⟩, wq⟩⟩
  obtain ⟨q', e1, e2, e3, e4⟩ := down h1 h
  exact ⟨q', ⟨e1, e2, e3⟩, by rw [wq, e4]⟩
 by_cases c1 : q ≥ 1000000000
 ·obtain ⟨d1, d2⟩ := stepdn zb zb
  by_cases c2 : r + v1 ≥ 1000000000
  ·right
   obtain ⟨q', e1, e2⟩ := d1 c2
   refine ⟨.inl (q', ()), ?_, q', e1.1, e1.2.1, e1.2.2, rfl⟩
   refine uT (zn c1) (uT (zn c2) ?_)
   repeat refine za ?_
   rw [aaJ, e2]
  ·left
   obtain ⟨e1, e2⟩ := d2 c2
   refine ⟨(r + v1, q - 1, ()), ?_, e1, by dsimp only; omega⟩
   refine uT (zn c1) (uF (zl c2) ?_)
   repeat refine za ?_
   rw [aaJ, e2]
 ·have hm := amQ (a := q) (b := v2) (B := 1000000000) ⟨by omega, by omega⟩ dv2
  have wm : abI (q * abI v2) = q * v2 := by rw [aaG (x := v2) zb, aaG zb]
  have wn : abI (abI (r * 1000000000) + abI u2) = r * 1000000000 + u2 := by rw [aaG (x := r * 1000000000) zb, aaG (x := u2) zb, aaG zb]
  simp only [wm, wn]
  by_cases c3 : q * v2 > r * 1000000000 + u2
  ·have hdn := aKe (q := q) (r := r) (wC hVpos) hP g4 zb hUhi hQ1 zb c3
   obtain ⟨d1, d2⟩ := stepdn hdn zb
   by_cases c2 : r + v1 ≥ 1000000000
   ·right
    obtain ⟨q', e1, e2⟩ := d1 c2
    refine ⟨.inl (q', ()), ?_, q', e1.1, e1.2.1, e1.2.2, rfl⟩
    refine uF (zl c1) (uN ⟨by omega, by rw [aaD, hn]; omega⟩ (uN ⟨by omega, by omega⟩ (uT (zn c3) (uT (zn c2) ?_))))
    repeat refine za ?_
    rw [aaJ, e2]
   ·left
    obtain ⟨e1, e2⟩ := d2 c2
    refine ⟨(r + v1, q - 1, ()), ?_, e1, by dsimp only; omega⟩
    refine uF (zl c1) (uN ⟨by omega, by rw [aaD, hn]; omega⟩ (uN ⟨by omega, by omega⟩ (uT (zn c3) (uF (zl c2) ?_))))
    repeat refine za ?_
    rw [aaJ, e2]
  ·right
   have hdone := aCK (q := q) (r := r) hP g4 hVe s4 s5 hUlo zb zb hVB hQ2 zb
   refine ⟨.inl (q, ()), ?_, q, by omega, by omega, by omega, rfl⟩
   refine uF (zl c1) (uN ⟨by omega, by rw [aaD, hn]; omega⟩ (uN ⟨by omega, by omega⟩ (uF (zl c3) ?_)))
   repeat refine za ?_
   rfl
theorem aFg {b s t L : Nat} (hs : s * (t + 1) ≤ 1000000000) (hs1 : 1 ≤ s) (h1 : 1000000000 ^ L * t ≤ b) (h2 : b < 1000000000 ^ L * (t + 1)) (ht : 1 ≤ t) : (mag (b * s)).length = L + 1 := by
 have a1 : b * s < 1000000000 ^ (L + 1) := by
  have c1 : b * s < (1000000000 ^ L * (t + 1)) * s := Nat.mul_lt_mul_of_pos_right h2 zb
  have c2 : (1000000000 ^ L * (t + 1)) * s = 1000000000 ^ L * (s * (t + 1)) := by rw [wM, yV (t + 1)]
  have c3 : 1000000000 ^ L * (s * (t + 1)) ≤ 1000000000 ^ L * 1000000000 := ya _ hs
  rw [yH]; omega
 have a2 := mag_length_le_iff.2 a1
 have a3 : 1000000000 ^ L ≤ b * s := by
  have c1 : 1000000000 ^ L * 1 ≤ 1000000000 ^ L * t := ya _ ht
  have c2 : b * 1 ≤ b * s := ya _ hs1
  omega
 rcases zv L (mag (b * s)).length with h | h
 ·omega
 ·have := mag_length_le_iff.1 h; omega
theorem aHd (m o : List Int) (y : Int × Unit) (y4 : List Int × Unit) (v q u : List Int) (j n : Nat) (qq : Int) (X : (Int × List Int × List Int × Unit) ⊕ (List Int × List Int × Unit)) (hvd : Dg 1000000000 v) (g7 : Dg 1000000000 u) (lv : v.length = n + 2) (g6 : u.length = m.length + 1) (hN : m.length ≤ 1000000000000) (hj : j + n + 2 < u.length) (hvtop : 1 ≤ v.getD (n + 1) 0)
  (p4 : ac0 (fun i1 => (ae0 m o y (v, ()) y4 ((j : Int), q, u, ()) i1).toO) ((u.getD (j + n + 2) 0 * 1000000000 + u.getD (j + n + 1) 0) % v.getD (n + 1) 0, (u.getD (j + n + 2) 0 * 1000000000 + u.getD (j + n + 1) 0) / v.getD (n + 1) 0, ()) = some (.inl (qq, ())))
  (r1 : ac0 (fun i1 => (aeZ m o y (v, ()) y4 ((j : Int), q, u, ()) (qq, ()) i1).toO) (0, 0, 0, u, ()) = some X) : (agA m o y (v, ()) y4 ((j : Int), q, u, ())).toO = some X := by
 have wlv : len v = ((n + 2 : Nat) : Int) := by rw [aaD, lv]
 have wa : w64 (w64 ((j : Int) + len v) + 1) = ((j + n + 2 + 1 : Nat) : Int) := by rw [wlv, aaA (x := (j : Int) + ((n + 2 : Nat) : Int)) zb, aaA zb]; omega
 have wb : ((((j + n + 2 + 1 : Nat) : Int).toNat - (j : Int).toNat : Nat) : Int) = ((n + 3 : Nat) : Int) := zb
 have wb1 : w64 (len v - 1) = ((n + 1 : Nat) : Int) := by rw [wlv, aaA zb]; omega
 have w2 : w64 (len m + 1) = ((m.length + 1 : Nat) : Int) := by rw [aaD, aaA zb]; omega
 have dv1 := aaR zb hvd (n + 1)
 have du0 := aaR zb g7 (j + n + 2)
 have du1 := aaR zb g7 (j + n + 1)
 have hgi1 : abI (gi v ((n + 1 : Nat) : Int) 0) = v.getD (n + 1) 0 := by rw [aaK, aaG zb]
 have wH : abI (abI (abI (u.getD (j + (n + 2)) 0) * 1000000000) + abI (u.getD (j + (n + 1)) 0)) = u.getD (j + n + 2) 0 * 1000000000 + u.getD (j + n + 1) 0 := by
  rw [show j + (n + 2) = j + n + 2 by omega, show j + (n + 1) = j + n + 1 by omega, aaG (x := u.getD (j + n + 2) 0) zb, aaG (x := u.getD (j + n + 2) 0 * 1000000000) zb, aaG (x := u.getD (j + n + 1) 0) zb, aaG zb]
 have hH0 : 0 ≤ u.getD (j + n + 2) 0 * 1000000000 + u.getD (j + n + 1) 0 := zb
 have tm := zY (b := v.getD (n + 1) 0) hH0
 have td := zM (b := v.getD (n + 1) 0) hH0
 have hdle : (u.getD (j + n + 2) 0 * 1000000000 + u.getD (j + n + 1) 0) / v.getD (n + 1) 0 ≤ u.getD (j + n + 2) 0 * 1000000000 + u.getD (j + n + 1) 0 := Int.ediv_le_self _ hH0
 have hdge : 0 ≤ (u.getD (j + n + 2) 0 * 1000000000 + u.getD (j + n + 1) 0) / v.getD (n + 1) 0 := xC hH0 zb
 have wq : abI ((u.getD (j + n + 2) 0 * 1000000000 + u.getD (j + n + 1) 0) / v.getD (n + 1) 0) = (u.getD (j + n + 2) 0 * 1000000000 + u.getD (j + n + 1) 0) / v.getD (n + 1) 0 := aaG zb
 simp only [agA, wa, wb, wb1, hgi1, w2, zj, zo]
 have wlt : (len v).toNat = n + 2 := by rw [wlv]; omega
 simp only [wlt, wH, tm, td, wq]
 refine uT sd (uN ⟨by omega, by omega⟩ (uN ⟨by omega, by omega⟩ (uN ⟨by omega, by omega⟩ (uN ⟨by omega, by omega⟩ (uN ⟨by omega, by omega⟩ (uN zb (uN zb ?_)))))))
 refine uL (qq, ()) ?_ ?_
 ·refine uO ((u.getD (j + n + 2) 0 * 1000000000 + u.getD (j + n + 1) 0) % v.getD (n + 1) 0, (u.getD (j + n + 2) 0 * 1000000000 + u.getD (j + n + 1) 0) / v.getD (n + 1) 0, ()) ?_ p4
  repeat refine za ?_
  rfl
 ·unfold an2
  refine uO (0, 0, 0, u, ()) (by repeat refine za ?_; rfl) ?_
  exact r1
set_option maxHeartbeats 1000000 in
theorem av4 (m o : List Int) (y) (h : af2 (m, o, ()) = some y) : (akG m o).toO = some y := by
 obtain ⟨⟨a, b⟩, hp, hx, rfl⟩ := aaF h
 obtain ⟨rfl, hx2⟩ := Prod.mk.inj hx; obtain ⟨rfl, -⟩ := Prod.mk.inj hx2; dsimp only
 obtain ⟨la, lb, hb0⟩ := hp
 simp only at la lb hb0
 clear h hx hx2
 unfold akG
 have hcmp : ac5 (mag a, mag b, ()) = some (asV a b, ()) := aaN (enc := fun p : Nat × Nat => (mag p.1, mag p.2, ())) (a, b) ⟨by dsimp only; omega, by dsimp only; omega⟩ (fun b hb => ae7 hb)
 refine uC _ hcmp ?_
 by_cases hab : a < b
 ·refine uT (zn (by unfold asV; rw [if_pos zb]; show (-1 : Int) < 0; omega)) ?_
  rw [yN hab, yr hab, mag_zero]; rfl
 refine uF (zl (by unfold asV; rw [if_neg zb]; split <;> decide)) ?_
 have hbl : 1 ≤ (mag b).length := by
  rcases zF (mag b).length with h5 | h5
  ·exact absurd (mag_nil_iff.1 (zT.1 h5)) hb0
  ·exact h5
 have hshort : ∀ x d : Nat, (mag x).length ≤ 1000000000000 → 0 < d → d < 4294967296 → ag7 (mag x, (d : Int), ()) = some (mag (x / d), ((x % d : Nat) : Int), ()) := by
  intro x d h1 h2 h3
  refine aaN (enc := fun p : Nat × Nat => (mag p.1, (p.2 : Int), ())) (x, d) ⟨h1, h2, h3⟩ (fun b hb => ?_)
  obtain ⟨e1, e2⟩ := Prod.mk.inj hb
  obtain ⟨e2, -⟩ := Prod.mk.inj e2
  exact Prod.ext (afP e1) (Int.ofNat.inj e2)
 by_cases h1 : (mag b).length = 1
 ·refine uT sd (uN ⟨by simp [asT], by exact sn⟩ ?_)
  have hb1 : b < 1000000000 := by have := mag_length_le_iff.1 (xL h1); simpa using this
  have hg : gi (mag b) 0 0 = (b : Int) := by rw [alM hb0 hb1]; rfl
  rw [hg]
  refine uC _ (hshort a b zb zb zb) ?_
  have hm := yz a (show 0 < b by omega)
  generalize a % b = r at hm ⊢
  refine uC (mag r, ()) ?_ rfl
  dsimp only
  rw [aaG (x := (r : Int)) zb]
  unfold acM
  rw [if_pos (by dsimp only; omega)]
  simp
 refine uF sd ?_
 obtain ⟨n, hnl⟩ : ∃ n, (mag b).length = n + 2 := ⟨(mag b).length - 2, by omega⟩
 have hml : n + 2 ≤ (mag a).length := by rw [← hnl]; exact abG zb
 obtain ⟨t, ht, t1, t2, t3, t4⟩ := aAZ hb0
 have w1 : w64 (len (mag b) - 1) = ((n + 1 : Nat) : Int) := by rw [aaD, hnl, aaA zb]; omega
 rw [hnl, show n + 2 - 1 = n + 1 by omega] at ht t3 t4
 have hg : gi (mag b) ((n + 1 : Nat) : Int) 0 = (t : Int) := by rw [aaK, ht]
 have wt : adH ((t : Int) + 1) = ((t + 1 : Nat) : Int) := by rw [aaQ zb]; omega
 obtain ⟨s, hs⟩ : ∃ s, s = 1000000000 / (t + 1) := ⟨_, rfl⟩
 have hs1 : 1 ≤ s := by rw [hs]; exact (Nat.le_div_iff_mul_le zb).2 zb
 have hs2 : s * (t + 1) ≤ 1000000000 := by rw [hs]; exact Nat.div_mul_le_self _ _
 have hs3 : s < 1000000000 := by
  have : s * 2 ≤ s * (t + 1) := ya _ zb
  omega
 have ws : adH (Int.tdiv 1000000000 ((t + 1 : Nat) : Int)) = (s : Int) := by
  have : Int.tdiv 1000000000 ((t + 1 : Nat) : Int) = (s : Int) := by
   rw [zM zb, hs]; rfl
  rw [this, aaQ zb]
 simp only [w1, hg, wt, ws]
 refine uN sd (uN zb ?_)
 have hms : mag s = [(s : Int)] := alM zb hs3
 have lv : (mag (b * s)).length = n + 2 := aFg hs2 hs1 t3 t4 t1
 have htimes : ∀ x : Nat, (mag x).length ≤ 1000000000000 → adC (mag x, [(s : Int)], ()) = some (mag (x * s), ()) := by
  intro x hx
  rw [← hms]
  exact aaN (enc := fun p : Nat × Nat => (mag p.1, mag p.2, ())) (x, s) ⟨hx, by rw [hms]; simp⟩ (fun b hb => ae7 hb)
 refine uC _ (htimes b zb) ?_
 have w2 : w64 (len (mag a) + 1) = (((mag a).length + 1 : Nat) : Int) := by rw [aaD, aaA zb]; omega
 obtain ⟨K, hK⟩ : ∃ K, (mag a).length = K + n + 2 := ⟨(mag a).length - (n + 2), by omega⟩
 have w3 : w64 (len (mag a) - len (mag (b * s))) = (K : Int) := by rw [aaD, aaD, lv, hK, aaA zb]; omega
 have w4 : w64 ((K : Int) + 1) = ((K + 1 : Nat) : Int) := by rw [aaA zb]; omega
 simp only [w2, w3, w4]
 refine uN zb ?_
 refine uC _ (htimes a zb) ?_
 refine uN zb ?_
 have las : (mag (a * s)).length ≤ (mag a).length + 1 := by
  have := agM a s
  rw [hms] at this; simpa using this
 have htk : List.take (mag a).length.succ (mag (a * s)) = mag (a * s) := zq las
 -- the start
 have hu0d : Dg 1000000000 (over (List.replicate ((mag a).length + 1) 0) 0 (mag (a * s))) := by
  rw [amN las]; exact adS (afQ _) (afD zb _)
 have hu0V : V 1000000000 (over (List.replicate ((mag a).length + 1) 0) 0 (mag (a * s))) = ((a * s : Nat) : Int) := by rw [aOh las, akT]
 have hu0l : (over (List.replicate ((mag a).length + 1) 0) 0 (mag (a * s))).length = (mag a).length + 1 := by rw [amN las]; simp; omega
 refine uO ((K : Int), List.replicate (K + 1) 0, over (List.replicate ((mag a).length + 1) 0) 0 (mag (a * s)), ()) ?_ ?_
 ·repeat refine za ?_
  simp only [zj, w4]
  rw [show List.take ((mag a).length + 1) (mag (a * s)) = mag (a * s) from htk]
  rfl
 generalize hu0 : over (List.replicate ((mag a).length + 1) 0) 0 (mag (a * s)) = u0 at *
 have hvd := afQ (b * s)
 have hvV := akT (b * s)
 have hvpos : 0 < b * s := Nat.mul_pos zb zb
 have hvtop : 1 ≤ (mag (b * s)).getD (n + 1) 0 := by
  obtain ⟨t', e1, e2, -⟩ := aAZ (n := b * s) zb
  rw [lv, show n + 2 - 1 = n + 1 by omega] at e1
  omega
 generalize hv : mag (b * s) = v at *
 have hdrop0 : V 1000000000 (u0.drop (K + 1)) < V 1000000000 v := by
  have e1 := ab1 1000000000 u0 (K + 1)
  have e2 := aaH zb (ab0 hu0d (K + 1))
  have e3 := aaH zb (acC hu0d (K + 1))
  rw [hu0V] at e1
  have a1 : a < 1000000000 ^ (K + 1) * b := by
   have c1 := mag_length_le_iff.1 (xL hK)
   have c2 : 1000000000 ^ (n + 1) ≤ b := by
    have : 1000000000 ^ (n + 1) * 1 ≤ 1000000000 ^ (n + 1) * t := ya _ t1
    omega
   have c3 : 1000000000 ^ (K + 1) * 1000000000 ^ (n + 1) ≤ 1000000000 ^ (K + 1) * b := ya _ c2
   rw [← wJ, show K + 1 + (n + 1) = K + n + 2 by omega] at c3
   omega
  have a2 : a * s < (1000000000 ^ (K + 1) * b) * s := Nat.mul_lt_mul_of_pos_right a1 zb
  have a3 : ((a * s : Nat) : Int) < (((1000000000 ^ (K + 1) * b) * s : Nat) : Int) := Int.ofNat_lt.2 a2
  have a4 : ((((1000000000 ^ (K + 1) * b) * s : Nat)) : Int) = 1000000000 ^ (K + 1) * V 1000000000 v := by
   rw [hvV, wM, yE, Int.natCast_pow]; rfl
  rw [a4] at a3
  have a5 : 1000000000 ^ (K + 1) * V 1000000000 (u0.drop (K + 1)) < 1000000000 ^ (K + 1) * V 1000000000 v := zb
  exact yP a5 (wC (yI zb))
 refine aaM (fun i : Int × List Int × List Int × Unit => ∃ k : Nat, k ≤ K + 1 ∧ i.1 = (k : Int) - 1 ∧ i.2.1.length = K + 1 ∧ Dg 1000000000 i.2.1 ∧ (∀ p, p < k → i.2.1.getD p 0 = 0) ∧ i.2.2.1.length = (mag a).length + 1 ∧ Dg 1000000000 i.2.2.1 ∧ V 1000000000 (i.2.2.1.drop k) < V 1000000000 v ∧ ((a * s : Nat) : Int) = V 1000000000 i.2.1 * V 1000000000 v + V 1000000000 i.2.2.1) (fun i => (i.1 + 1).toNat) (fun _ => (mag (a / b), mag (a % b), ())) ?_ _ ⟨K + 1, zi _, by dsimp only; omega, by simp, afD zb _, fun p _ => by simp [yx, List.getElem?_replicate]; split <;> rfl, hu0l, hu0d, hdrop0, by rw [ar2, hu0V]; omega⟩
 rintro ⟨i, q, u, u6⟩ ⟨k, g1, g2, g3, g4, g5, g6, g7, g8, g9⟩
 dsimp only at g2 g3 g4 g5 g6 g7 g8 g9
 subst g2
 cases k with
 | zero =>
  right
  rw [yv] at g8
  obtain ⟨x, hx⟩ := zG (aaH zb g4)
  obtain ⟨r, hr⟩ := zG (aaH zb g7)
  rw [hx, hr, hvV] at g9
  rw [hr, hvV] at g8
  have h8 : a * s = x * (b * s) + r := by
   have : ((a * s : Nat) : Int) = ((x * (b * s) + r : Nat) : Int) := by rw [g9]; simp
   exact Int.ofNat.inj this
  have h9 : x = a / b := by
   have : a * s / (b * s) = x := by rw [h8, yK, wg _ _ hvpos, yN zb, zo]
   rw [← this, Nat.mul_div_mul_right _ _ zb]
  have h10 : r = (a % b) * s := by
   have : a * s % (b * s) = r := by rw [h8, yK, xF, yr zb]
   rw [← this, Nat.mul_mod_mul_right]
  have hrl : (mag r).length ≤ n + 2 := by rw [← lv, ← hv]; exact abG zb
  have hVtake : V 1000000000 (u.take (n + 2)) = r := by
   have e1 := ab1 1000000000 u (n + 2)
   have e2 := aaH zb (ab0 g7 (n + 2))
   have e3 := aaH zb (acC g7 (n + 2))
   have e4 : V 1000000000 u < 1000000000 ^ (n + 2) := by
    have := aEI zb hvd
    rw [lv] at this
    omega
   have e5 : V 1000000000 (u.drop (n + 2)) < 1 := by
    have : 1000000000 ^ (n + 2) * V 1000000000 (u.drop (n + 2)) < 1000000000 ^ (n + 2) * 1 := zb
    exact yP this (wC (yI zb))
   have e6 : V 1000000000 (u.drop (n + 2)) = 0 := zb
   rw [e6, wF] at e1
   omega
  have wlv : len v = ((n + 2 : Nat) : Int) := by rw [aaD, lv]
  simp only [agA, w1, hg, wt, ws, w2, w3, w4, wlv, zj]
  have wkk : w64 (w64 (len (mag a) - ((n + 2 : Nat) : Int)) + 1) = ((K + 1 : Nat) : Int) := by rw [← wlv, w3, w4]
  simp only [wkk, zj]
  refine uF sd (uN ⟨by omega, by omega⟩ ?_)
  have htr : ∀ (l : List Int) (z : Nat), Dg 1000000000 l → l.length ≤ 2000000000000 → V 1000000000 l = z → ab9 (l, ()) = some (mag z, ()) := by
   intro l z h1 h2 h3
   unfold ab9
   rw [if_pos ⟨h1, h2⟩]
   simp only [h3, zj]
  refine uC _ (htr _ r (ab0 g7 _) (by rw [zR]; omega) hVtake) ?_
  refine uC _ (hshort r s zb zb zb) ?_
  have htq : List.take (K + 1) q = q := zq zb
  rw [htq]
  refine uC _ (htr q x g4 zb hx) ?_
  rw [aaJ, h9, h10, Nat.mul_div_cancel _ zb]
 | succ j =>
  left
  have e6 : ((j + 1 : Nat) : Int) - 1 = (j : Int) := zb
  rw [e6]
  have wlv : len v = ((n + 2 : Nat) : Int) := by rw [aaD, lv]
  have wa : w64 (w64 ((j : Int) + len v) + 1) = ((j + n + 2 + 1 : Nat) : Int) := by rw [wlv, aaA (x := (j : Int) + ((n + 2 : Nat) : Int)) zb, aaA zb]; omega
  have wb : ((((j + n + 2 + 1 : Nat) : Int).toNat - (j : Int).toNat : Nat) : Int) = ((n + 3 : Nat) : Int) := zb
  have wb1 : w64 (len v - 1) = ((n + 1 : Nat) : Int) := by rw [wlv, aaA zb]; omega
  have hvpos' : 0 < V 1000000000 v := by rw [hvV]; omega
  have du := aaR zb g7 j
  have eU := aaI 1000000000 u j
  have hU0 := aaH zb (acC g7 j)
  have hUB : V 1000000000 (u.drop j) < V 1000000000 v * 1000000000 := zb
  have hvlt : V 1000000000 v < 1000000000 ^ (n + 2) := by have := aEI zb hvd; rwa [lv] at this
  have hz : V 1000000000 (u.drop (j + n + 2 + 1)) = 0 := by
   have e1 := ab1 1000000000 (u.drop (j + 1)) (n + 2)
   rw [zQ, show j + 1 + (n + 2) = j + n + 2 + 1 by omega] at e1
   have e2 := aaH zb (ab0 (acC g7 (j + 1)) (n + 2))
   have e3 := aaH zb (acC g7 (j + n + 2 + 1))
   have e5 : V 1000000000 (u.drop (j + n + 2 + 1)) < 1 := by
    have : 1000000000 ^ (n + 2) * V 1000000000 (u.drop (j + n + 2 + 1)) < 1000000000 ^ (n + 2) * 1 := zb
    exact yP this (wC (yI zb))
   omega
  obtain ⟨Q, hQ⟩ : ∃ Q, Q = V 1000000000 (u.drop j) / V 1000000000 v := ⟨_, rfl⟩
  have hdm := yi (V 1000000000 (u.drop j)) (V 1000000000 v)
  have hr0 := xy (V 1000000000 (u.drop j)) (show V 1000000000 v ≠ 0 by omega)
  have hr1 := xq (V 1000000000 (u.drop j)) hvpos'
  have hQ0 : 0 ≤ Q := by rw [hQ]; exact xC hU0 zb
  rw [← hQ, yZ] at hdm
  have hQB : Q < 1000000000 := by
   have : Q * V 1000000000 v < 1000000000 * V 1000000000 v := zb
   exact zZ this zb
  obtain ⟨qq, p1, p2, p3, p4⟩ := aHc (mag a) (mag b) (asV a b, ()) (mag (a * s), ()) v q u j n (V 1000000000 (u.drop j)) Q hvd lv zb zb g7 hz rfl hUB zb (by rw [Int.add_mul]; omega) hQ0 hvtop
  obtain ⟨u', r1, r2, r3, r4, r5⟩ := aHb (mag a) (mag b) (asV a b, ()) (mag (a * s), ()) v q u j (n + 2) qq Q hvd lv zb zb g7 ⟨p2, p3⟩ (by rw [w3, w4]; exact ⟨by omega, by omega⟩) hz p1 zb zb hQ0
  have k1 : j ≤ K + 1 := Nat.le_of_succ_le g1
  have k3 : (q.set j Q).length = K + 1 := by rw [List.length_set]; exact g3
  have k4 := ahC g4 ⟨hQ0, hQB⟩ j
  have k6 : u'.length = (mag a).length + 1 := by rw [r2]; exact g6
  have k8 : V 1000000000 (u'.drop j) < V 1000000000 v := by rw [r5]; omega
  have k9 : ((j : Int) - 1 + 1).toNat < ((j : Int) + 1).toNat := zb
  refine ⟨((j : Int) - 1, q.set j Q, u', ()), ?_, ⟨j, k1, rfl, k3, k4, ?_, k6, r3, k8, ?_⟩, k9, zd⟩
  ·exact aHd (mag a) (mag b) (asV a b, ()) (mag (a * s), ()) v q u j n qq _ hvd g7 lv g6 zb zb hvtop p4 r1
  ·intro p hp
   dsimp only
   rw [akC _ zb]
   exact g5 p zb
  ·dsimp only
   rw [asY _ zb, g5 j zb, r4, g9]
   grind
set_option maxRecDepth 100000
open Go Go.Vg Go.Proofs
noncomputable section
def aEY : LTab := [(239, 12, 1025, ⟨0, (List Int) × Unit, .dat (.s 0) ub <| .nil, [2], [], 0⟩)]
def aC4 : LTab := [(222, 218, 5122, ⟨0, (Int) × Bool × (List Int) × Unit, .dat (.s 4) vG <| .appN (.s 3) 5 180 vI <| .nil, [2, 0], [], 1⟩), (222, 55834, 13314, ⟨1, (Int) × (Int) × Unit, .dat (.s 7) vG <| .dat (.s 6) vI <| .nil, [15, 5, 14, 13, 12, 3, 4, 2, 0], [], 0⟩), (222, 55834, 13313, ⟨2, (Int) × (Int) × Unit, .dat (.s 7) vG <| .dat (.s 6) vI <| .nil, [15, 5, 14, 13, 12, 3, 4, 2, 0], [5], 0⟩)]
end
end Go.Vs
