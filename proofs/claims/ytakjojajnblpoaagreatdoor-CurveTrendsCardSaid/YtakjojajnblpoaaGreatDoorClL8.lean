/-
  Trees of what the functions compute, and their laws. Own work; no condition.
-/
import Derived.Test.YtakjojajnblpoaaGreatDoorClL7
import Derived.Test.YtakjojajnblpoaaGreatDoorProg
set_option linter.unusedVariables false
set_option linter.unusedSimpArgs false
namespace Go.Vs
open Go Go.Vg
noncomputable section
abbrev DrT := Int × List Int × List aeX × Bool × Bool × Unit
def aCj (l : List Int) : Prop := ∀ v ∈ l, inR v 0 65535
def aRd (d : DrT) : Prop := inR d.1 0 255 ∧ aCj d.2.1 ∧ ∀ s ∈ d.2.2.1, inR s.1 0 255 ∧ inR s.2.1 (-32768) 32767 ∧ inR s.2.2.1 (-32768) 32767 ∧ inR s.2.2.2.1 (-32768) 32767 ∧ inR s.2.2.2.2.1 0 255 ∧ inR s.2.2.2.2.2.1 0 255
def ahM (x : DrT × Unit) : Option (CvT × Unit) := (ajT x.1).toO
def afD (x : DrT × Unit) : Option (CvT × Unit) := (agQ x.1).toO
end
set_option maxRecDepth 100000
open Go Go.Vg Go.Proofs
noncomputable section
def aH4 : LTab := []
def amA (d : Int × List Int × List (Int × Int × Int × Int × Int × Int × Unit) × Bool × Bool × Unit) : TT ((Int × List Int × List (Int × Int × Int × Int × Int × Int × Unit) × Unit) × Unit) :=
 .triv (asT Int 4 ≠ 0) (by decide) <| .ite (Int.tmod d.1 4 == 0)
 (.ok (((1, [], [], ()), ())))
 (.ite (Int.tmod d.1 4 == 1)
 (.call (afD ((d.1, d.2.1, d.2.2.1, d.2.2.2.1, d.2.2.2.2.1, ()), ())) aNl fun y =>
 .ok (((y.1.1, y.1.2.1, y.1.2.2.1, ()), ())))
 (.call (ahM ((d.1, d.2.1, d.2.2.1, d.2.2.2.1, d.2.2.2.2.1, ()), ())) aNl fun y1 =>
 .ok (((y1.1.1, y1.1.2.1, y1.1.2.2.1, ()), ()))))
end
noncomputable section
def ajB (x : DrT × Unit) : Option (CvT × Unit) := (amA x.1).toO
end
theorem apN {l : List Int} (h : aCj l) (k : Nat) : 0 ≤ l.getD k 0 ∧ l.getD k 0 ≤ 65535 := by
 rw [List.getD_eq_getElem?_getD]
 rcases Nat.lt_or_ge k l.length with hk | hk
 ·rw [List.getElem?_eq_getElem hk]; exact h _ (List.getElem_mem hk)
 ·rw [List.getElem?_eq_none hk]; decide
theorem aBI {l : List Int} {v : Int} (h : aCj l) (hv : 0 ≤ v ∧ v ≤ 65535) : aCj (l ++ [v]) := by
 intro w hw
 rcases List.mem_append.mp hw with hw | hw
 ·exact h w hw
 ·rw [List.mem_singleton.mp hw]; exact hv
theorem aOS {l : List Int} {v : Int} {k : Nat} (h : aCj l) (hv : 0 ≤ v ∧ v ≤ 65535) : aCj (l.set k v) := by
 intro w hw
 rcases List.mem_or_eq_of_mem_set hw with hw | hw
 ·exact h w hw
 ·rw [hw]; exact hv
theorem aMk {l : List Int} {k : Nat} (h : aCj l) : aCj (l.take k) := fun w hw => h w (List.mem_of_mem_take hw)
theorem aKw {A : Type} {R : Int × Int × List Int × Unit → Option ((Int × Int × List Int × Unit) ⊕ (A ⊕ (CvT × Unit)))} (l : List Int) (hl : 2 ≤ l.length ∧ l.length ≤ 8) (he : aCj l)
  (hs : ∀ (k : Nat) (a : Int) (s : List Int), k < l.length → s.length = l.length → aCj s → 0 ≤ a → a ≤ 65535 → R ((k : Int), a, s, ()) = some (.inl (((k + 1 : Nat) : Int), a + 1 + Int.tmod (s.getD k 0) (Int.tdiv 65535 l.length), s.set k (a + Int.tmod (s.getD k 0) (Int.tdiv 65535 l.length)), ())))
  (hd : ∀ (a : Int) (s : List Int), s.length = l.length → R ((l.length : Int), a, s, ()) = some (.inr (.inr ((2, s.take l.length, [], ()), ())))) :
  ∃ t, ac1 R (0, 0, l, ()) = some (.inr ((2, t, [], ()), ())) ∧ ad9 t := by
 obtain ⟨n, hn⟩ : ∃ n : Nat, n = l.length := ⟨_, rfl⟩
 rw [← hn] at hl hs hd
 have hq : Int.tdiv 65535 (n : Int) = 65535 / (n : Int) := Int.tdiv_eq_ediv_of_nonneg (by omega)
 have hq1 : (n : Int) * (65535 / (n : Int)) ≤ 65535 := by have := Int.ediv_mul_le 65535 (b := (n : Int)) (by omega); rw [Int.mul_comm]; omega
 have hq0 : 1 ≤ 65535 / (n : Int) := by
  rw [Int.le_ediv_iff_mul_le (by omega)]; omega
 rw [hq] at hs
 obtain ⟨q, hqq⟩ : ∃ q : Int, q = 65535 / (n : Int) := ⟨_, rfl⟩
 rw [← hqq] at hs hq1 hq0
 suffices H : ∃ a, ac1 R (0, 0, l, ()) = some a ∧ ∃ t, a = .inr ((2, t, [], ()), ()) ∧ ad9 t by
  obtain ⟨a, h1, t, rfl, h2⟩ := H
  exact ⟨t, h1, h2⟩
 refine adJ (R := R) (fun i => ∃ k : Nat, k ≤ n ∧ i.1 = (k : Int) ∧ 0 ≤ i.2.1 ∧ i.2.1 ≤ (k : Int) * q ∧ i.2.2.1.length = n ∧ aCj i.2.2.1) (fun i => ((n : Int) - i.1).toNat) (fun a => ∃ t, a = .inr ((2, t, [], ()), ()) ∧ ad9 t) ?_ (0, 0, l, ()) ⟨0, by omega, rfl, by simp, by simp, hn.symm, he⟩
 rintro ⟨i, a, s, u⟩ ⟨k, h1, h2, h3, h4, h5, h6⟩
 simp only at h2 h3 h4 h5 h6
 subst h2
 rcases Nat.lt_or_ge k n with hk | hk
 ·left
  have hg := apN h6 k
  have hm : Int.tmod (s.getD k 0) q = s.getD k 0 % q := Int.tmod_eq_emod_of_nonneg hg.1
  have m0 := Int.emod_nonneg (s.getD k 0) (b := q) (by omega)
  have m1 := Int.emod_lt_of_pos (s.getD k 0) (b := q) (by omega)
  have hkn : ((k : Int) + 1) * q ≤ (n : Int) * q := Int.mul_le_mul_of_nonneg_right (by omega) (by omega)
  have hk1 : ((k : Int) + 1) * q = (k : Int) * q + q := by rw [Int.add_mul, Int.one_mul]
  refine ⟨_, hs k a s hk h5 h6 h3 (by omega), ⟨k + 1, hk, rfl, ?_, ?_, ?_, ?_⟩, ?_⟩
  ·simp only [hm]; omega
  ·simp only [hm]; rw [Int.natCast_add]; show _ ≤ ((k : Int) + 1) * q; omega
  ·simp only [List.length_set, h5]
  ·simp only [hm]; exact aOS h6 ⟨by omega, by omega⟩
  ·simp only; omega
 ·right
  obtain rfl : k = n := by omega
  exact ⟨_, hd a s h5, s.take k, rfl, by rw [List.length_take]; omega, by rw [List.length_take]; omega, aMk h6⟩
theorem s9 {p : Prop} (h : p := by first | omega | ((try simp only [aaC, inb, inc, ge_iff_le, gt_iff_lt, Int.toNat_natCast, asT, ne_eq, List.length_append, List.length_take, List.length_cons, List.length_nil, Nat.min_self, DTl]) <;> (first | omega | (refine ⟨?_, ?_⟩ <;> omega) | simp))) : p := h
theorem aMo (d : DrT) (j : Bool × List Int × Unit) (b : Bool) (l : List Int) (hl : 2 ≤ l.length ∧ l.length ≤ 8) (he : aCj l) :
  ∃ t, ac1 (fun i => (ahU d j (b, l, ()) i).toO) (0, 0, l, ()) = some (.inr ((2, t, [], ()), ())) ∧ ad9 t := by
 have hq : Int.tdiv 65535 (l.length : Int) = 65535 / (l.length : Int) := Int.tdiv_eq_ediv_of_nonneg (by omega)
 have hq0 : 1 ≤ 65535 / (l.length : Int) := by rw [Int.le_ediv_iff_mul_le (by omega)]; omega
 have hq1 : 65535 / (l.length : Int) ≤ 65535 := Int.ediv_le_self _ (by omega)
 refine aKw l hl he ?_ ?_
 ·intro k a s hk hs hes h0 h1
  have hg := apN hes k
  have hm : Int.tmod (s.getD k 0) (Int.tdiv 65535 (l.length : Int)) = s.getD k 0 % (65535 / (l.length : Int)) := by rw [hq]; exact Int.tmod_eq_emod_of_nonneg hg.1
  have m0 := Int.emod_nonneg (s.getD k 0) (b := 65535 / (l.length : Int)) (by omega)
  have m1 := Int.emod_lt_of_pos (s.getD k 0) (b := 65535 / (l.length : Int)) (by omega)
  have e1 : w64 (Int.tdiv 65535 (l.length : Int)) = Int.tdiv 65535 (l.length : Int) := aaA (by rw [hq]; omega)
  have e2 : w64 ((k : Int) + 1) = ((k + 1 : Nat) : Int) := by rw [aaA (x := (k : Int) + 1) (by omega)]; omega
  have e3 : w64 (a + 1) = a + 1 := aaA (by omega)
  have e4 : w64 (a + 1 + Int.tmod (s.getD k 0) (Int.tdiv 65535 (l.length : Int))) = a + 1 + Int.tmod (s.getD k 0) (Int.tdiv 65535 (l.length : Int)) := aaA (by rw [hm]; omega)
  have e5 : w64 (a + 1 + Int.tmod (s.getD k 0) (Int.tdiv 65535 (l.length : Int)) - 1) = a + Int.tmod (s.getD k 0) (Int.tdiv 65535 (l.length : Int)) := by rw [aaA (x := a + 1 + Int.tmod (s.getD k 0) (Int.tdiv 65535 (l.length : Int)) - 1) (by rw [hm]; omega)]; omega
  simp only [ahU, aaC, e1, e2, e3, Nat.zero_add, Int.toNat_natCast, e4, e5]
  refine uT (decide_eq_true (by omega)) ?_
  refine uN ⟨by omega, by omega⟩ ?_
  refine uN (by rw [hq]; omega) ?_
  refine uN ⟨by omega, by omega⟩ ?_
  refine uB (uB (uB ?_))
  repeat refine uV ?_
  simp only [aaK, e5]
 ·intro a s hs
  simp only [ahU, aaC]
  refine uF (decide_eq_false (by omega)) ?_
  rfl
theorem aMn (d : DrT) (j : Bool × List Int × Unit) (l : List Int) (hl : 2 ≤ l.length ∧ l.length ≤ 8) (he : aCj l) :
  ∃ t, ac1 (fun i => (ahT d j (l, ()) i).toO) (0, 0, l, ()) = some (.inr ((2, t, [], ()), ())) ∧ ad9 t := by
 have hq : Int.tdiv 65535 (l.length : Int) = 65535 / (l.length : Int) := Int.tdiv_eq_ediv_of_nonneg (by omega)
 have hq0 : 1 ≤ 65535 / (l.length : Int) := by rw [Int.le_ediv_iff_mul_le (by omega)]; omega
 have hq1 : 65535 / (l.length : Int) ≤ 65535 := Int.ediv_le_self _ (by omega)
 refine aKw l hl he ?_ ?_
 ·intro k a s hk hs hes h0 h1
  have hg := apN hes k
  have hm : Int.tmod (s.getD k 0) (Int.tdiv 65535 (l.length : Int)) = s.getD k 0 % (65535 / (l.length : Int)) := by rw [hq]; exact Int.tmod_eq_emod_of_nonneg hg.1
  have m0 := Int.emod_nonneg (s.getD k 0) (b := 65535 / (l.length : Int)) (by omega)
  have m1 := Int.emod_lt_of_pos (s.getD k 0) (b := 65535 / (l.length : Int)) (by omega)
  have e1 : w64 (Int.tdiv 65535 (l.length : Int)) = Int.tdiv 65535 (l.length : Int) := aaA (by rw [hq]; omega)
  have e2 : w64 ((k : Int) + 1) = ((k + 1 : Nat) : Int) := by rw [aaA (x := (k : Int) + 1) (by omega)]; omega
  have e3 : w64 (a + 1) = a + 1 := aaA (by omega)
  have e4 : w64 (a + 1 + Int.tmod (s.getD k 0) (Int.tdiv 65535 (l.length : Int))) = a + 1 + Int.tmod (s.getD k 0) (Int.tdiv 65535 (l.length : Int)) := aaA (by rw [hm]; omega)
  have e5 : w64 (a + 1 + Int.tmod (s.getD k 0) (Int.tdiv 65535 (l.length : Int)) - 1) = a + Int.tmod (s.getD k 0) (Int.tdiv 65535 (l.length : Int)) := by rw [aaA (x := a + 1 + Int.tmod (s.getD k 0) (Int.tdiv 65535 (l.length : Int)) - 1) (by rw [hm]; omega)]; omega
  simp only [ahT, aaC, e1, e2, e3, Nat.zero_add, Int.toNat_natCast, e4, e5]
  refine uT (decide_eq_true (by omega)) ?_
  refine uN ⟨by omega, by omega⟩ ?_
  refine uN (by rw [hq]; omega) ?_
  refine uN ⟨by omega, by omega⟩ ?_
  refine uB (uB (uB ?_))
  repeat refine uV ?_
  simp only [aaK, e5]
 ·intro a s hs
  simp only [ahT, aaC]
  refine uF (decide_eq_false (by omega)) ?_
  rfl
theorem aMp (d : DrT) (b : Bool) (l : List Int) (hl : l.length ≤ 8) (he : aCj l) (hb : b = true → l = []) :
  ∃ t, (ahV d (b, l, ())).toO = some ((2, t, [], ()), ()) ∧ ad9 t := by
 cases b
 ·suffices H : ∃ a, ac1 (fun i => (ak6 d (false, l, ()) i).toO) (l, ()) = some a ∧ ∃ t, a = ((2, t, [], ()), ()) ∧ ad9 t by
   obtain ⟨a, h1, t, rfl, h2⟩ := H
   refine ⟨t, ?_, h2⟩
   simp only [ahV]
   refine uF rfl ?_
   exact uO (l, ()) (uB rfl) h1
  refine adJ (fun i => i.1.length ≤ 8 ∧ aCj i.1) (fun i => 2 - i.1.length) _ ?_ (l, ()) ⟨hl, he⟩
  rintro ⟨l, u⟩ ⟨h1, h2⟩
  simp only at h1 h2
  simp only [ak6, aaC, List.take_length]
  rcases Nat.lt_or_ge l.length 2 with hk | hk
  ·left
   have e1 : w64 (65535 * (l.length : Int)) = 65535 * (l.length : Int) := aaA (by omega)
   refine ⟨(l ++ [65535 * (l.length : Int)], ()), ?_, ⟨by rw [List.length_append]; simp only [List.length_cons, List.length_nil]; omega, aBI h2 (by omega)⟩, by simp only [List.length_append, List.length_cons, List.length_nil]; omega⟩
   refine uT (decide_eq_true (by omega)) ?_
   simp only [e1]
   repeat (first | refine uV ?_ | refine uB ?_ | refine uN s9 ?_)
   rfl
  ·right
   rcases (Bool.eq_false_or_eq_true d.2.2.2.2.1).symm with hd | hd
   ·refine ⟨_, uF (decide_eq_false (by omega)) (uF hd ?_), l, rfl, hk, by omega, h2⟩
    repeat (first | refine uV ?_ | refine uB ?_ | refine uN s9 ?_)
    rfl
   ·obtain ⟨t, h3, h4⟩ := aMn d (false, l, ()) l ⟨hk, h1⟩ h2
    refine ⟨_, uF (decide_eq_false (by omega)) (uT hd ?_), t, rfl, h4⟩
    repeat (first | refine uV ?_ | refine uB ?_ | refine uN s9 ?_)
    refine uO (0, 0, l, ()) ?_ ?_
    ·repeat (first | refine uV ?_ | refine uB ?_ | refine uN s9 ?_)
     rfl
    ·exact h3
 ·suffices H : ∃ a, ac1 (fun i => (ak7 d (true, l, ()) i).toO) (true, [], ()) = some a ∧ ∃ t, a = ((2, t, [], ()), ()) ∧ ad9 t by
   obtain ⟨a, h1, t, rfl, h2⟩ := H
   refine ⟨t, ?_, h2⟩
   simp only [ahV]
   refine uT rfl ?_
   exact uO (true, [], ()) rfl h1
  refine adJ (fun i => i.2.1.length ≤ 8 ∧ aCj i.2.1 ∧ (i.1 = true → i.2.1 = [])) (fun i => 2 - i.2.1.length) _ ?_ (true, [], ()) ⟨by simp, (by intro v hv; cases hv), fun _ => rfl⟩
  rintro ⟨b, l, u⟩ ⟨h1, h2, h5⟩
  simp only at h1 h2 h5
  simp only [ak7, aaC, List.take_length]
  cases b
  ·rcases Nat.lt_or_ge l.length 2 with hk | hk
   ·left
    have e1 : w64 (65535 * (l.length : Int)) = 65535 * (l.length : Int) := aaA (by omega)
    refine ⟨(false, l ++ [65535 * (l.length : Int)], ()), ?_, ⟨by rw [List.length_append]; simp only [List.length_cons, List.length_nil]; omega, aBI h2 (by omega), by intro h; cases h⟩, by simp only [List.length_append, List.length_cons, List.length_nil]; omega⟩
    refine uF rfl (uT (decide_eq_true (by omega)) ?_)
    simp only [e1]
    repeat (first | refine uV ?_ | refine uB ?_ | refine uN s9 ?_)
    rfl
   ·right
    rcases (Bool.eq_false_or_eq_true d.2.2.2.2.1).symm with hd | hd
    ·refine ⟨_, uF rfl (uF (decide_eq_false (by omega)) (uF hd ?_)), l, rfl, hk, by omega, h2⟩
     repeat (first | refine uV ?_ | refine uB ?_ | refine uN s9 ?_)
     rfl
    ·obtain ⟨t, h3, h4⟩ := aMo d (true, ‹List Int›, ()) false l ⟨hk, h1⟩ h2
     refine ⟨_, uF rfl (uF (decide_eq_false (by omega)) (uT hd ?_)), t, rfl, h4⟩
     repeat (first | refine uV ?_ | refine uB ?_ | refine uN s9 ?_)
     refine uO (0, 0, l, ()) ?_ ?_
     ·repeat (first | refine uV ?_ | refine uB ?_ | refine uN s9 ?_)
      rfl
     ·exact h3
  ·left
   have := h5 rfl
   subst this
   refine ⟨(false, [0], ()), ?_, ⟨by simp, by intro v hv; rw [List.mem_singleton.mp hv]; decide, by intro h; cases h⟩, by simp⟩
   refine uT rfl ?_
   repeat (first | refine uV ?_ | refine uB ?_ | refine uN s9 ?_)
   rfl
theorem aMm (d : DrT) (hd : aRd d) : ∃ t, ahM (d, ()) = some ((2, t, [], ()), ()) ∧ ad9 t := by
 suffices H : ∃ a, ac1 (fun i => (ak8 d i).toO) (0, true, [], ()) = some a ∧ ∃ b l, a = .inl (b, l, ()) ∧ l.length ≤ 8 ∧ aCj l ∧ (b = true → l = []) by
  obtain ⟨a, h1, b, l, rfl, h2, h3, h4⟩ := H
  obtain ⟨t, h5, h6⟩ := aMp d b l h2 h3 h4
  refine ⟨t, ?_, h6⟩
  simp only [ahM, ajT]
  exact uL (b, l, ()) (uO (0, true, [], ()) rfl h1) h5
 refine adJ (fun i => ∃ k : Nat, k ≤ 8 ∧ i.1 = (k : Int) ∧ i.2.2.1.length = k ∧ aCj i.2.2.1 ∧ (i.2.1 = true → i.2.2.1 = [] )) (fun i => (8 - i.1).toNat) _ ?_ _ ⟨0, by omega, rfl, rfl, (by intro v hv; cases hv), fun _ => rfl⟩
 rintro ⟨i, b, l, u⟩ ⟨k, h1, h2, h3, h4, h5⟩
 simp only at h2 h3 h4 h5
 subst h2
 simp only [ak8, ag4, aaC, List.take_length, aaM]
 have hg := apN hd.2.1 k
 have e0 : w64 (d.2.1.getD k 0) = d.2.1.getD k 0 := aaA (by omega)
 have e2 : w64 ((k : Int) + 1) = ((k + 1 : Nat) : Int) := by rw [aaA (x := (k : Int) + 1) (by omega)]; omega
 simp only [e0, e2]
 by_cases c1 : (k : Int) < d.2.1.length
 ·by_cases c2 : (k : Int) < 8
  ·left
   refine ⟨(((k + 1 : Nat) : Int), false, l ++ [d.2.1.getD k 0], ()), ?_, ⟨k + 1, by omega, rfl, by simp [h3], aBI h4 hg, by intro h; cases h⟩, by simp only; omega⟩
   cases b
   ·refine uF rfl (uT (decide_eq_true c1) (uT (decide_eq_true c2) ?_))
    repeat (first | refine uV ?_ | refine uB ?_ | refine uN s9 ?_)
    rfl
   ·have := h5 rfl
    subst this
    refine uT rfl (uT (decide_eq_true c1) (uT (decide_eq_true c2) ?_))
    repeat (first | refine uV ?_ | refine uB ?_ | refine uN s9 ?_)
    rfl
  ·right
   cases b
   ·refine ⟨_, uF rfl (uT (decide_eq_true c1) (uF (decide_eq_false c2) ?_)), false, l, rfl, by omega, h4, by intro h; cases h⟩
    repeat (first | refine uV ?_ | refine uB ?_ | refine uN s9 ?_)
    rfl
   ·refine ⟨_, uT rfl (uT (decide_eq_true c1) (uF (decide_eq_false c2) ?_)), true, [], rfl, by simp, (by intro v hv; cases hv), fun _ => rfl⟩
    repeat (first | refine uV ?_ | refine uB ?_ | refine uN s9 ?_)
    rfl
 ·right
  cases b
  ·refine ⟨_, uF rfl (uF (decide_eq_false c1) ?_), false, l, rfl, by omega, h4, by intro h; cases h⟩
   repeat (first | refine uV ?_ | refine uB ?_ | refine uN s9 ?_)
   rfl
  ·refine ⟨_, uT rfl (uF (decide_eq_false c1) ?_), true, [], rfl, by simp, (by intro v hv; cases hv), fun _ => rfl⟩
   repeat (first | refine uV ?_ | refine uB ?_ | refine uN s9 ?_)
   rfl
def aQF : Int → List aeX → Int → Prop
 | last, [], t => t = last
 | last, s :: r, t => aiU last s ∧ aQF s.1 r t
theorem aGU : ∀ (l : List aeX) (last t : Int) (s : aeX), aQF last l t → aiU t s → aQF last (l ++ [s]) s.1
 | [], last, t, s, h, hs => by
  have : t = last := h
  subst this; exact ⟨hs, rfl⟩
 | x :: r, last, t, s, h, hs => ⟨h.1, aGU r x.1 t s h.2 hs⟩
theorem aGT : ∀ (l : List aeX) (last t : Int), aQF last l t → 1 ≤ l.length → t < 1000000 → ag3 last (l.set (l.length - 1) (1000000, (l.getD (l.length - 1) (0, 0, 0, 0, 0, 0, ())).2))
 | [], _, _, _, h, _ => absurd h (by decide)
 | [s], last, t, h, _, ht => by
  have h2 : t = s.1 := h.2
  obtain ⟨h3, h4⟩ := h.1
  exact ⟨⟨h3, ⟨by have := h4.1; omega, by show (1000000 : Int) ≤ 1000000; omega⟩⟩, rfl⟩
 | s :: x :: r, last, t, h, _, ht => by
  have := aGT (x :: r) s.1 t h.2 (by simp) ht
  simp only [List.length_cons, Nat.add_sub_cancel] at this ⊢
  exact ⟨h.1, by simpa using this⟩
theorem auI {a b : Int} (ha : inR a 1 36) (hb : inR b 1 12) : abK (a, b, ()) = some (!decide (Nat.gcd a.natAbs b.natAbs = 1), ()) := by
 unfold abK
 rw [if_pos ⟨ha, hb⟩]
theorem aF4 (d : DrT) (hd : aRd d) : ∃ l, afD (d, ()) = some ((3, [], l, ()), ()) ∧ ad0 l := by
 suffices H : ∃ a, ac1 (fun i => (aiH d i).toO) (0, 0, true, [], ()) = some a ∧ ∃ l, a = ((3, [], l, ()), ()) ∧ ad0 l by
  obtain ⟨a, h1, l, rfl, h2⟩ := H
  refine ⟨l, ?_, h2⟩
  simp only [afD, agQ]
  exact uO (0, 0, true, [], ()) (uB rfl) h1
 obtain ⟨n, hn⟩ : ∃ n : Nat, n = (if 3 < d.2.2.1.length then 3 else d.2.2.1.length) := ⟨_, rfl⟩
 have hnz : (if 3 < len d.2.2.1 then 3 else len d.2.2.1) = (n : Int) := by
  rw [hn]
  by_cases h : 3 < d.2.2.1.length
  ·rw [if_pos h]; exact (if_pos (by rw [aaC]; omega)).trans rfl
  ·rw [if_neg h]; exact (if_neg (by rw [aaC]; omega)).trans rfl
 have hn3 : n ≤ 3 := by rw [hn]; split <;> omega
 have hnl : n ≤ d.2.2.1.length := by rw [hn]; split <;> omega
 clear hn
 refine adJ (fun i : Int × Int × Bool × List aeX × Unit => ∃ k : Nat, k ≤ n ∧ i.1 = (k : Int) ∧ i.2.2.2.1.length = k ∧ (i.2.2.1 = true → i.2.2.2.1 = []) ∧ (i.2.2.1 = false → 1 ≤ k) ∧ 0 ≤ i.2.1 ∧ i.2.1 ≤ 256000 * (k : Int) ∧ aQF 0 i.2.2.2.1 i.2.1) (fun i => (3 - i.1).toNat) _ ?_ _ ⟨0, by omega, rfl, rfl, fun _ => rfl, (by intro h; cases h), Int.le_refl _, (by show (0 : Int) ≤ _; omega), rfl⟩
 rintro ⟨i, t, b, l, u⟩ ⟨k, h1, h2, h3, h4, h5, h6, h7, h8⟩
 simp only at h2 h3 h4 h5 h6 h7 h8
 subst h2
 simp only [aiH, afL, gP, hnz, aaM, List.take_length]
 rcases Nat.lt_or_ge k n with hk | hk
 ·left
  have hmem : d.2.2.1.getD k (0, 0, 0, 0, 0, 0, ()) ∈ d.2.2.1 := by
   rw [List.getD_eq_getElem?_getD, List.getElem?_eq_getElem (by omega)]; exact List.getElem_mem _
  obtain ⟨p, hp⟩ : ∃ p, p = d.2.2.1.getD k (0, 0, 0, 0, 0, 0, ()) := ⟨_, rfl⟩
  have hpb := hd.2.2 p (by rw [hp]; exact hmem)
  simp only [← hp]
  clear hp hmem
  obtain ⟨w, m, a, o, nu, de, uu⟩ := p
  obtain ⟨b1, b2, b3, b4, b5, b6⟩ := hpb
  simp only [inR] at b1 b2 b3 b4 b5 b6 ⊢
  have q1 : w64 w = w := aaA (by omega)
  have q2 : w64 m = m := aaA (by omega)
  have q3 : w64 a = a := aaA (by omega)
  have q4 : w64 o = o := aaA (by omega)
  have q5 : Int.tmod nu 4 = nu % 4 := Int.tmod_eq_emod_of_nonneg (by omega)
  have q6 : Int.tmod de 4 = de % 4 := Int.tmod_eq_emod_of_nonneg (by omega)
  have q7 : w64 (nu % 4) = nu % 4 := aaA (by omega)
  have q8 : w64 (de % 4) = de % 4 := aaA (by omega)
  have q9 : w64 (1 + nu % 4) = 1 + nu % 4 := aaA (by omega)
  have q10 : w64 (1 + de % 4) = 1 + de % 4 := aaA (by omega)
  have q11 : w64 (t + 1000) = t + 1000 := aaA (by omega)
  have q12 : w64 (1000 * w) = 1000 * w := aaA (by omega)
  have q13 : w64 (t + 1000 + 1000 * w) = t + 1000 + 1000 * w := aaA (by omega)
  have q14 : w64 (100 * m) = 100 * m := aaA (by omega)
  have q15 : w64 (10 * a) = 10 * a := aaA (by omega)
  have q16 : w64 (10 * o) = 10 * o := aaA (by omega)
  have q17 : w64 (0 - 100 * m) = 0 - 100 * m := aaA (by omega)
  have q18 : w64 (0 - 10 * a) = 0 - 10 * a := aaA (by omega)
  have q19 : w64 ((k : Int) + 1) = ((k + 1 : Nat) : Int) := by rw [aaA (x := (k : Int) + 1) (by omega)]; omega
  simp only [q1, q2, q3, q4, q5, q6, q7, q8, q9, q10, q11, q12, q13, q14, q15, q16, q17, q18, q19]
  have inv : ∀ M A N D : Int, inR M (-100000000) 100000000 → inR A (-100000000) 100000000 → inR N 1 36 → inR D 1 12 → Nat.gcd N.natAbs D.natAbs = 1 →
    (∃ k' : Nat, k' ≤ n ∧ ((k + 1 : Nat) : Int) = (k' : Int) ∧ (l ++ [((t + 1000 + 1000 * w, M, A, N, D, 10 * o, ()) : aeX)]).length = k' ∧ ((false = true) → l ++ [((t + 1000 + 1000 * w, M, A, N, D, 10 * o, ()) : aeX)] = []) ∧ (false = false → 1 ≤ k') ∧ 0 ≤ t + 1000 + 1000 * w ∧ t + 1000 + 1000 * w ≤ 256000 * (k' : Int) ∧ aQF 0 (l ++ [((t + 1000 + 1000 * w, M, A, N, D, 10 * o, ()) : aeX)]) (t + 1000 + 1000 * w)) := by
   intro M A N D c1 c2 c3 c4 c5
   refine ⟨k + 1, hk, rfl, by simp [h3], (by intro h; cases h), (by intro _; omega), by omega, by omega, ?_⟩
   exact aGU l 0 t (t + 1000 + 1000 * w, M, A, N, D, 10 * o, ()) h8 ⟨⟨c1, c2, ⟨by show -100000000 ≤ 10 * o; omega, by show 10 * o ≤ 100000000; omega⟩, c3, c4, c5⟩, ⟨by show t + 1 ≤ t + 1000 + 1000 * w; omega, by show t + 1000 + 1000 * w ≤ 1000000; omega⟩⟩
  have n1 : inR (1 : Int) 1 36 := by decide
  have n2 : inR (1 : Int) 1 12 := by decide
  have n3 : inR (1 + nu % 4) 1 36 := ⟨by omega, by omega⟩
  have n4 : inR (1 + de % 4) 1 12 := ⟨by omega, by omega⟩
  have n5 : inR (100 * m) (-100000000) 100000000 := ⟨by omega, by omega⟩
  have n6 : inR (10 * a) (-100000000) 100000000 := ⟨by omega, by omega⟩
  have n7 : inR (if 0 - 100 * m > 100 * m then 0 - 100 * m else 100 * m) (-100000000) 100000000 := by split <;> exact ⟨by omega, by omega⟩
  have n8 : inR (if 0 - 10 * a > 10 * a then 0 - 10 * a else 10 * a) (-100000000) 100000000 := by split <;> exact ⟨by omega, by omega⟩
  have g1 : ∀ D : Int, Nat.gcd (1 : Int).natAbs D.natAbs = 1 := fun D => Nat.gcd_one_left _
  have g2 : ∀ N : Int, Nat.gcd N.natAbs (1 : Int).natAbs = 1 := fun N => Nat.gcd_one_right _
  rcases (Bool.eq_false_or_eq_true d.2.2.2.1).symm with hr | hr <;> rcases (Bool.eq_false_or_eq_true d.2.2.2.2.1).symm with hi | hi <;> by_cases g : Nat.gcd (1 + nu % 4).natAbs (1 + de % 4).natAbs = 1
  all_goals
   cases b
   ·apply Exists.intro
    refine ⟨?_, ?_, ?_⟩
    ·refine uF rfl (uT (decide_eq_true (by omega)) (uN ⟨by omega, by rw [aaC]; omega⟩ ?_))
     first | refine uT hr ?_ | refine uF hr ?_
     first | refine uT hi ?_ | refine uF hi ?_
     first | refine uC _ (auI n3 n4) ?_ | refine uC _ (auI n3 n2) ?_
     first | refine uF (congrArg Bool.not (decide_eq_true g)) ?_ | refine uF (congrArg Bool.not (decide_eq_true (g2 _))) ?_ | refine uT (congrArg Bool.not (decide_eq_false g)) ?_
     repeat (first | refine uV ?_ | refine uB ?_ | refine uN s9 ?_)
     rfl
    ·exact inv _ _ _ _ (by assumption) (by assumption) (by assumption) (by assumption) (by first | exact g | exact g2 _ | exact g1 _)
    ·show (3 - ((k + 1 : Nat) : Int)).toNat < (3 - (k : Int)).toNat; omega
   ·have := h4 rfl
    subst this
    apply Exists.intro
    refine ⟨?_, ?_, ?_⟩
    ·refine uT rfl (uT (decide_eq_true (by omega)) (uN ⟨by omega, by rw [aaC]; omega⟩ ?_))
     first | refine uT hr ?_ | refine uF hr ?_
     first | refine uT hi ?_ | refine uF hi ?_
     first | refine uC _ (auI n3 n4) ?_ | refine uC _ (auI n3 n2) ?_
     first | refine uF (congrArg Bool.not (decide_eq_true g)) ?_ | refine uF (congrArg Bool.not (decide_eq_true (g2 _))) ?_ | refine uT (congrArg Bool.not (decide_eq_false g)) ?_
     repeat (first | refine uV ?_ | refine uB ?_ | refine uN s9 ?_)
     rfl
    ·exact inv _ _ _ _ (by assumption) (by assumption) (by assumption) (by assumption) (by first | exact g | exact g2 _ | exact g1 _)
    ·show (3 - ((k + 1 : Nat) : Int)).toNat < (3 - (k : Int)).toNat; omega
 ·right
  obtain rfl : k = n := by omega
  have e0 : w64 (1 - 1) = 0 := aaA (by omega)
  cases b
  ·have h5 := h5 rfl
   rcases (Bool.eq_false_or_eq_true d.2.2.2.2.1).symm with hi | hi
   ·have e1 : w64 ((k : Int) - 1) = ((k - 1 : Nat) : Int) := by rw [aaA (x := (k : Int) - 1) (by omega)]; omega
    refine ⟨_, uF rfl (uF (decide_eq_false (by omega)) (uF (beq_eq_false_iff_ne.mpr (by omega)) (uF hi (uN ?_ rfl)))), _, rfl, ?_⟩
    ·rw [e1, aaC]; exact ⟨by omega, by omega⟩
    ·rw [e1, Int.toNat_natCast, Nat.zero_add, ← h3, List.take_of_length_le (by rw [List.length_set]; omega)]
     refine ⟨by rw [List.length_set]; omega, by rw [List.length_set]; omega, aGT l 0 t h8 (by omega) (by omega)⟩
   ·refine ⟨_, uF rfl (uF (decide_eq_false (by omega)) (uF (beq_eq_false_iff_ne.mpr (by omega)) (uT hi (uN ?_ rfl)))), _, rfl, ?_⟩
    ·rw [aaC]; exact ⟨by simp only [asT]; omega, by omega⟩
    ·rw [e0]
     obtain ⟨s, r, rfl⟩ : ∃ s r, l = s :: r := by
      cases l with
      | nil => simp at h3; omega
      | cons s r => exact ⟨s, r, rfl⟩
     show ad0 [((1000000, s.2) : aeX)]
     exact ⟨Nat.le_refl 1, by show 1 ≤ 4; omega, ⟨h8.1.1, ⟨by show (0 : Int) + 1 ≤ 1000000; omega, by show (1000000 : Int) ≤ 1000000; omega⟩⟩, rfl⟩
  ·have := h4 rfl
   subst this
   have : k = 0 := h3.symm
   subst this
   rcases (Bool.eq_false_or_eq_true d.2.2.2.2.1).symm with hi | hi
   ·refine ⟨_, uT rfl (uF (decide_eq_false (by omega)) (uT rfl (uF hi rfl))), _, rfl, ?_⟩
    rw [e0]; decide
   ·refine ⟨_, uT rfl (uF (decide_eq_false (by omega)) (uT rfl (uT hi rfl))), _, rfl, ?_⟩
    rw [e0]; decide
theorem aPb (d : DrT) (hd : aRd d) : ∃ c, ajB (d, ()) = some (c, ()) ∧ acD c := by
 obtain ⟨k, ta, pa, ro, ri, u⟩ := d
 obtain ⟨l1, e1, o1⟩ := aMm _ hd
 obtain ⟨l2, e2, o2⟩ := aF4 _ hd
 simp only [ajB, amA]
 by_cases c0 : Int.tmod k 4 = 0
 ·exact ⟨(1, [], [], ()), uT (beq_iff_eq.mpr c0) rfl, Or.inl ⟨rfl, rfl, rfl⟩⟩
 ·by_cases c1 : Int.tmod k 4 = 1
  ·refine ⟨(3, [], l2, ()), uF (beq_eq_false_iff_ne.mpr c0) (uT (beq_iff_eq.mpr c1) (uC _ e2 ?_)), Or.inr (Or.inr ⟨rfl, rfl, o2⟩)⟩
   repeat (first | refine uV ?_ | refine uB ?_ | refine uN s9 ?_)
   rfl
  ·refine ⟨(2, l1, [], ()), uF (beq_eq_false_iff_ne.mpr c0) (uF (beq_eq_false_iff_ne.mpr c1) (uC _ e1 ?_)), Or.inr (Or.inl ⟨rfl, o1, rfl⟩)⟩
   repeat (first | refine uV ?_ | refine uB ?_ | refine uN s9 ?_)
   rfl
theorem aAW (d : DrT) (y) (h : ahM (d, ()) = some y) : (ajT d).toO = some y := h
theorem au1 (d : DrT) (y) (h : afD (d, ()) = some y) : (agQ d).toO = some y := h
theorem aCE (d : DrT) (y) (h : ajB (d, ()) = some y) : (amA d).toO = some y := h
noncomputable section
def akO (_ : DrT × List Int × Unit) : Option (Bool × Unit) := some (true, ())
end
set_option maxRecDepth 100000
open Go Go.Vg Go.Proofs
noncomputable section
def aCg : LTab := []
def akP (d : Int × List Int × List (Int × Int × Int × Int × Int × Int × Unit) × Bool × Bool × Unit) (at0 : List Int) : TT (Bool × Unit) :=
 .call (asD ()) Dd1 fun y =>
 .ite (!y.1)
 (.ok ((false, ())))
 (.call (ajB ((d.1, d.2.1, d.2.2.1, d.2.2.2.1, d.2.2.2.2.1, ()), ())) aNl fun y1 =>
 .call (agL ((y1.1.1, y1.1.2.1, y1.1.2.2.1, ()), ())) aCf fun y2 =>
 .triv (asT Int 0 ≤ 0 ∧ 0 < (↑2 : Int)) (by decide) <| .triv (asT Int 0 ≤ 1 ∧ 1 < (↑2 : Int)) (by decide) <| .call (ab9 (w64 (if List.headD (List.tail at0) 0 < List.headD at0 0 then List.headD (List.tail at0) 0 else List.headD at0 0), 1000, ())) aeY fun y3 =>
 .call (abZ ((y1.1.1, y1.1.2.1, y1.1.2.2.1, ()), y3.1, ())) afI fun y4 =>
 .triv (asT Int 0 ≤ 0 ∧ 0 < (↑2 : Int)) (by decide) <| .triv (asT Int 0 ≤ 1 ∧ 1 < (↑2 : Int)) (by decide) <| .call (ab9 (w64 (if List.headD (List.tail at0) 0 > List.headD at0 0 then List.headD (List.tail at0) 0 else List.headD at0 0), 1000, ())) aeY fun y5 =>
 .call (abZ ((y1.1.1, y1.1.2.1, y1.1.2.2.1, ()), y5.1, ())) afI fun y6 =>
 .ite (y2.2.1 != 0)
 (.ok ((false, ())))
 (.ite (decide (y2.1 < -1))
 (.ok ((false, ())))
 (.ite (decide (y2.1 > 1))
 (.ok ((false, ())))
 (.ite (y4.2.1 != 0)
 (.call (alZ ((y1.1.1, y1.1.2.1, y1.1.2.2.1, ()), ())) Dd1 fun y7 =>
 .ok ((!y7.1, ())))
 (.ite (y6.2.1 != 0)
 (.call (alZ ((y1.1.1, y1.1.2.1, y1.1.2.2.1, ()), ())) Dd1 fun y8 =>
 .ok ((!y8.1, ())))
 (.call (amV ((y6.1.1, y6.1.2.1, ()), (y4.1.1, y4.1.2.1, ()), ())) aCf fun y9 =>
 .ite (y9.2.1 == 0)
 (.ite (y2.1 == 0)
 (.ok ((true, ())))
 (.ite (y2.1 == 1)
 (.ite (decide (y9.1 ≥ 0))
 (.ok ((true, ())))
 (.ite (y2.1 == -1)
 (.ok ((decide (y9.1 ≤ 0), ())))
 (.ok ((false, ())))))
 (.ite (y2.1 == -1)
 (.ok ((decide (y9.1 ≤ 0), ())))
 (.ok ((false, ()))))))
 (.ok ((false, ())))))))))
end
theorem aQY (X : Int) {d : Nat} (hd : d ≠ 0) : (mkRat X d).num.natAbs ≤ X.natAbs ∧ (mkRat X d).den ≤ d := by
 constructor
 ·rw [Rat.num_mkRat, if_neg hd]; exact Int.natAbs_ediv_le_natAbs _ _
 ·rw [Rat.den_mkRat, if_neg hd]; exact Nat.div_le_self _ _
theorem aMH {q : Rat} (h0 : 0 ≤ q) (h1 : q ≤ 1) : ab7 q = q := by
 unfold ab7
 rw [if_neg (Rat.not_lt.2 h0), if_neg (Rat.not_lt.2 h1)]
theorem as0 (f : Nat → Int) (L : Nat) (hL : 1 ≤ L) (hf : ∀ k, k < L → f k ≤ f (k + 1)) {P Q : Int} (h0 : 0 ≤ P) (h : P ≤ Q) (hQ : Q ≤ L * 1000000000000) :
  f (min (P / 1000000000000).toNat (L - 1)) * 1000000000000 + (P - (min (P / 1000000000000).toNat (L - 1) : Nat) * 1000000000000) * (f (min (P / 1000000000000).toNat (L - 1) + 1) - f (min (P / 1000000000000).toNat (L - 1)))
   ≤ f (min (Q / 1000000000000).toNat (L - 1)) * 1000000000000 + (Q - (min (Q / 1000000000000).toNat (L - 1) : Nat) * 1000000000000) * (f (min (Q / 1000000000000).toNat (L - 1) + 1) - f (min (Q / 1000000000000).toNat (L - 1))) := by
 have mono : ∀ k j, k ≤ j → j ≤ L → f k ≤ f j := by
  intro k j hkj
  induction hkj with
  | refl => intro _; exact Int.le_refl _
  | step h ih => intro hj; exact Int.le_trans (ih (by omega)) (hf _ (by omega))
 obtain ⟨i, hi⟩ : ∃ i, i = min (P / 1000000000000).toNat (L - 1) := ⟨_, rfl⟩
 obtain ⟨j, hj⟩ : ∃ j, j = min (Q / 1000000000000).toNat (L - 1) := ⟨_, rfl⟩
 have i1 : i ≤ L - 1 := by omega
 have j1 : j ≤ L - 1 := by omega
 have hij : i ≤ j := by omega
 have p0 : 0 ≤ P - (i : Int) * 1000000000000 := by omega
 have p1 : P - (i : Int) * 1000000000000 ≤ 1000000000000 := by omega
 have q0 : 0 ≤ Q - (j : Int) * 1000000000000 := by omega
 rw [← hi, ← hj]
 have d1 : 0 ≤ f (i + 1) - f i := by have := hf i (by omega); omega
 have d2 : 0 ≤ f (j + 1) - f j := by have := hf j (by omega); omega
 rcases Nat.lt_or_ge i j with g | g
 ·have a1 : (P - (i : Int) * 1000000000000) * (f (i + 1) - f i) ≤ 1000000000000 * (f (i + 1) - f i) := Int.mul_le_mul_of_nonneg_right p1 d1
  have a2 : 0 ≤ (Q - (j : Int) * 1000000000000) * (f (j + 1) - f j) := Int.mul_nonneg q0 d2
  have a3 := mono (i + 1) j g (by omega)
  omega
 ·obtain rfl : i = j := by omega
  have a1 : (P - (i : Int) * 1000000000000) * (f (i + 1) - f i) ≤ (Q - (i : Int) * 1000000000000) * (f (i + 1) - f i) := Int.mul_le_mul_of_nonneg_right (by omega) d1
  omega
theorem aKj {l : List Int} (ht : ad9 l) (hf : ∀ k, k + 1 < l.length → l.getD k 0 ≤ l.getD (k + 1) 0) {n m : Int} (hn : inU n) (hm : inU m) (h : n ≤ m) : akW l n ≤ akW l m := by
 have hl1 := ht.1
 have e1 : n * ((l.length - 1 : Nat) : Int) ≤ m * ((l.length - 1 : Nat) : Int) := Int.mul_le_mul_of_nonneg_right h (by omega)
 have e2 : m * ((l.length - 1 : Nat) : Int) ≤ 1000000000000 * ((l.length - 1 : Nat) : Int) := Int.mul_le_mul_of_nonneg_right hm.2 (by omega)
 have := as0 (fun k => l.getD k 0) (l.length - 1) (by omega) (fun k hk => hf k (by omega)) (Int.mul_nonneg hn.1 (by omega)) e1 (by omega)
 exact this
theorem aKk {l : List Int} (ht : ad9 l) (hf : ∀ k, k + 1 < l.length → l.getD (k + 1) 0 ≤ l.getD k 0) {n m : Int} (hn : inU n) (hm : inU m) (h : n ≤ m) : akW l m ≤ akW l n := by
 have hl1 := ht.1
 have e1 : n * ((l.length - 1 : Nat) : Int) ≤ m * ((l.length - 1 : Nat) : Int) := Int.mul_le_mul_of_nonneg_right h (by omega)
 have e2 : m * ((l.length - 1 : Nat) : Int) ≤ 1000000000000 * ((l.length - 1 : Nat) : Int) := Int.mul_le_mul_of_nonneg_right hm.2 (by omega)
 have := as0 (fun k => - l.getD k 0) (l.length - 1) (by omega) (fun k hk => by have := hf k (by omega); exact Int.neg_le_neg this) (Int.mul_nonneg hn.1 (by omega)) e1 (by omega)
 have e3 : ∀ A B C D : Int, -A * B + C * (-D - -A) = - (A * B + C * (D - A)) := by intro A B C D; grind
 simp only [e3] at this
 have t : - akW l n ≤ - akW l m := this
 omega
theorem aDJ {z : Int} {j : Nat} (h : z.natAbs ≤ 1000000000000) (hj : j ≤ 40) : Fit (z ^ j) := by
 unfold Fit
 obtain ⟨K, hK⟩ : ∃ K : Nat, K = 600 := ⟨_, rfl⟩
 rw [← hK]
 refine (abD (by omega)).2 ?_
 rw [Int.natAbs_pow]
 have h1 : z.natAbs ^ j ≤ 1000000000000 ^ j := Nat.pow_le_pow_left h j
 have h2 : 1000000000000 ^ j = 10 ^ (12 * j) := by rw [Nat.pow_mul]
 have h3 : 10 ^ (12 * j) < 10 ^ K := Nat.pow_lt_pow_right (by omega) (by omega)
 omega
theorem aI3 {u : Rat} {j : Nat} (h1 : u.num.natAbs ≤ 1000000000000) (h2 : u.den ≤ 1000000000000) (hj : j ≤ 40) : adE (u ^ j) := by
 refine ⟨?_, ?_⟩
 ·rw [Rat.num_pow]; exact aDJ h1 hj
 ·rw [Rat.den_pow, Int.natCast_pow]; exact aDJ (by omega) hj
theorem asP {u : Rat} (h1 : u.num.natAbs ≤ 1000000000000) (h2 : u.den ≤ 1000000000000) : ∀ (n j : Nat), j + n ≤ 40 → ac7 u n (u ^ j) = some (u ^ (j + n))
 | 0, _, _ => rfl
 | n + 1, j, h => by
  show (acG (u ^ j * u)).bind (ac7 u n) = _
  have e : u ^ j * u = u ^ (j + 1) := (Rat.pow_succ ..).symm
  rw [e]
  unfold acG
  rw [if_pos (aI3 h1 h2 (by omega))]
  show ac7 u n (u ^ (j + 1)) = _
  rw [asP h1 h2 n (j + 1) (by omega), show j + 1 + n = j + (n + 1) by omega]
theorem aFL {u : Rat} {j : Nat} {o : Int} (h1 : u.num.natAbs ≤ 1000000000000) (h2 : u.den ≤ 1000000000000) (hj : j ≤ 40) (ho : o.natAbs ≤ 100000000) : adE (u ^ j + mkRat o 1000000) := by
 have hd : u.den ^ j ≠ 0 := Nat.ne_of_gt (Nat.pow_pos u.den_pos)
 have e : u ^ j = mkRat (u.num ^ j) (u.den ^ j) := by
  rw [← Rat.num_pow, ← Rat.den_pow, Rat.mkRat_self]
 rw [e, Rat.mkRat_add_mkRat _ _ hd (by omega)]
 obtain ⟨E, hE⟩ : ∃ E : Nat, E = 480 := ⟨_, rfl⟩
 have b1 : u.num.natAbs ^ j ≤ 10 ^ E := Nat.le_trans (Nat.pow_le_pow_left h1 j) (by
  have : 1000000000000 ^ j = 10 ^ (12 * j) := by rw [Nat.pow_mul]
  rw [this]; exact Nat.pow_le_pow_right (by omega) (by omega))
 have b2 : u.den ^ j ≤ 10 ^ E := Nat.le_trans (Nat.pow_le_pow_left h2 j) (by
  have : 1000000000000 ^ j = 10 ^ (12 * j) := by rw [Nat.pow_mul]
  rw [this]; exact Nat.pow_le_pow_right (by omega) (by omega))
 obtain ⟨B, hB⟩ : ∃ B : Nat, B = 10 ^ E := ⟨_, rfl⟩
 rw [← hB] at b1 b2
 obtain ⟨K, hK⟩ : ∃ K : Nat, K = 600 := ⟨_, rfl⟩
 have hB2 : 10 ^ K = B * 10 ^ 120 := by
  have hKE : K = E + 120 := by omega
  rw [hB, ← Nat.pow_add, hKE]
 have hB3 : 1000000000 * B ≤ B * 10 ^ 120 := by
  rw [Nat.mul_comm]; exact Nat.mul_le_mul_left _ (by decide)
 have hBp : 0 < B := by rw [hB]; exact Nat.pow_pos (by omega)
 refine ad3 (Nat.mul_ne_zero hd (by omega)) ?_ ?_
 ·unfold Fit
  rw [← hK]
  refine (abD (by omega)).2 ?_
  rw [hB2]
  have a1 := Int.natAbs_add_le (u.num ^ j * ((1000000 : Nat) : Int)) (o * ((u.den ^ j : Nat) : Int))
  rw [Int.natAbs_mul, Int.natAbs_mul, Int.natAbs_pow] at a1
  have a2 : u.num.natAbs ^ j * 1000000 ≤ B * 1000000 := Nat.mul_le_mul_right _ b1
  have a3 : o.natAbs * u.den ^ j ≤ 100000000 * B := Nat.mul_le_mul ho b2
  simp only [Int.natAbs_natCast] at a1
  omega
 ·unfold Fit
  rw [← hK]
  refine (abD (by omega)).2 ?_
  rw [hB2, Int.natAbs_natCast]
  have a2 : u.den ^ j * 1000000 ≤ B * 1000000 := Nat.mul_le_mul_right _ b2
  omega
def aFx (m a N : Int) : Rat := mkRat (m * N + a * 1000) 1000000000
def atT (s : aeX) (N : Int) : Rat := ab7 (azH (aFx s.2.1 s.2.2.1 N) ^ s.2.2.2.1.toNat + mkRat s.2.2.2.2.2.1 1000000)
theorem azU (N : Int) : mkRat N 1000 = mkRat (N * 1000000000) 1000000000000 := by rw [Rat.mkRat_eq_iff (by omega) (by omega)]; omega
theorem anZ {s : aeX} (hs : ao2 s) {N : Int} (n1 : 0 ≤ N) (n2 : N ≤ 1000) : aDC s (mkRat N 1000) = some (atT s N) ∧ adE (atT s N) := by
 obtain ⟨c1, c2, c3, c4, c5, -⟩ := hs
 obtain ⟨t, m, a, k, e, o, u⟩ := s
 dsimp only at c1 c2 c3 c4 c5
 have hu : inU (N * 1000000000) := ⟨by omega, by omega⟩
 obtain ⟨l1, -⟩ := ag9 c1 c2 hu
 have hm : mkRat (aeM m a (N * 1000000000)) 1000000000000000000 = aFx m a N := by
  unfold aFx
  rw [Rat.mkRat_eq_iff (by omega) (by omega)]
  unfold aeM
  rw [← Int.mul_assoc]
  generalize m * N = P
  omega
 have x1 : m * N ≤ 100000000 * N := Int.mul_le_mul_of_nonneg_right c1.2 n1
 have x2 : -100000000 * N ≤ m * N := Int.mul_le_mul_of_nonneg_right c1.1 n1
 obtain ⟨y1, y2⟩ := c2
 obtain ⟨b1, b2⟩ := aQY (m * N + a * 1000) (d := 1000000000) (by omega)
 obtain ⟨p, hp⟩ : ∃ p, p = azH (aFx m a N) := ⟨_, rfl⟩
 have hp1 : p.num.natAbs ≤ 1000000000000 ∧ p.den ≤ 1000000000000 := by
  rw [hp]; unfold azH
  split
  ·exact ⟨by decide, by decide⟩
  ·unfold aFx; exact ⟨by omega, by omega⟩
 obtain ⟨K, hK⟩ : ∃ K : Nat, k = (K : Int) := Int.eq_ofNat_of_zero_le (by have := c4.1; omega)
 subst hK
 have k1 : 1 ≤ K := by have := c4.1; omega
 have k2 : K ≤ 36 := by have := c4.2; omega
 have fA : adE (p ^ K + mkRat o 1000000) := aFL hp1.1 hp1.2 (by omega) (by have := c3.1; have := c3.2; omega)
 refine ⟨?_, ?_⟩
 ·unfold aDC
  dsimp only
  rw [azU, l1, hm]
  simp only [Option.bind_some]
  rw [← hp, show ((K : Int) - 1).toNat = K - 1 by omega]
  have hpl := asP hp1.1 hp1.2 (K - 1) 1 (by omega)
  rw [Rat.pow_one] at hpl
  rw [hpl, show 1 + (K - 1) = K by omega]
  simp only [Option.bind_some]
  unfold acG
  rw [if_pos fA]
  show some (ab7 _) = some (atT _ N)
  unfold atT
  dsimp only
  rw [← hp, Int.toNat_natCast]
 ·unfold atT
  dsimp only
  rw [← hp, Int.toNat_natCast]
  exact aAg fA
theorem aGe {a b : Rat} (h : a ≤ b) : ab7 a ≤ ab7 b := by
 unfold ab7
 split <;> split <;> (try split) <;> grind
theorem aKS {a b : Rat} (h : a ≤ b) : azH a ≤ azH b := by
 unfold azH
 split <;> split <;> grind
theorem aFa (a : Rat) : 0 ≤ azH a := by
 unfold azH
 split <;> grind
theorem ao5 {a b : Int} {d : Nat} (hd : d ≠ 0) (h : a ≤ b) : mkRat a d ≤ mkRat b d := by
 have h2 : (0 : Rat) < (d : Rat) := by exact_mod_cast Nat.pos_of_ne_zero hd
 have h3 : (a : Rat) ≤ (b : Rat) := by exact_mod_cast h
 rw [Rat.mkRat_eq_div, Rat.mkRat_eq_div, Rat.div_def, Rat.div_def]
 exact Rat.mul_le_mul_of_nonneg_right h3 (Rat.le_of_lt (Rat.inv_pos.2 h2))
theorem aHe {s t : aeX} (hs : s.2.2.2 = t.2.2.2) {N M : Int} (h : aFx s.2.1 s.2.2.1 N ≤ aFx t.2.1 t.2.2.1 M) : atT s N ≤ atT t M := by
 unfold atT
 rw [hs]
 refine aGe ?_
 have := aKt (aFa _) (aKS h) t.2.2.2.1.toNat
 exact Rat.add_le_add_right.2 this
theorem aIV {s : aeX} (hm : 0 ≤ s.2.1) {N M : Int} (h : N ≤ M) : atT s N ≤ atT s M :=
 aHe rfl (ao5 (by omega) (by have := Int.mul_le_mul_of_nonneg_left h hm; omega))
theorem aIW {s : aeX} (hm : s.2.1 ≤ 0) {N M : Int} (h : N ≤ M) : atT s M ≤ atT s N :=
 aHe rfl (ao5 (by omega) (by have := Int.mul_le_mul_of_nonpos_left hm h; omega))
theorem asX {N : Int} (n2 : N ≤ 1000) : mkRat N 1000 ≤ 1 := (aDl (n := 1) (X := N) (d := 1000) (by omega)).2 (by omega)
theorem asW {N : Int} (n1 : 0 ≤ N) : 0 ≤ mkRat N 1000 := (avT (n := 0) (X := N) (d := 1000) (by omega)).2 (by omega)
theorem aD2 (z : Int) : ∃ N : Int, ab7 (mkRat z 1000) = mkRat N 1000 ∧ 0 ≤ N ∧ N ≤ 1000 ∧ N = max 0 (min z 1000) := by
 refine ⟨max 0 (min z 1000), ?_, by omega, by omega, rfl⟩
 rcases Int.lt_or_le z 0 with h | h
 ·have e : mkRat z 1000 < 0 := Rat.not_le.1 (fun hc => by have := (avT (n := 0) (X := z) (d := 1000) (by omega)).1 hc; omega)
  rw [show max 0 (min z 1000) = 0 by omega, Rat.zero_mkRat]
  unfold ab7; rw [if_pos e]
 ·rcases Int.lt_or_le 1000 z with g | g
  ·have e : ¬ mkRat z 1000 ≤ 1 := fun hc => by have := (aDl (n := 1) (X := z) (d := 1000) (by omega)).1 hc; omega
   have e2 : ¬ mkRat z 1000 < 0 := Rat.not_lt.2 (asW h)
   rw [show max 0 (min z 1000) = 1000 by omega]
   unfold ab7; rw [if_neg e2, if_pos (Rat.not_le.1 e)]; decide
  ·rw [show max 0 (min z 1000) = z by omega]
   exact aMH (asW h) (asX g)
theorem aA5 {l : List aeX} (h : ad0 l) {N : Int} (n2 : N ≤ 1000) : l.getD (ae2 (mkRat N 1000) l) (0, 0, 0, 0, 0, 0, ()) ∈ l := by
 have := aGV h (asX n2)
 rw [List.getD_eq_getElem?_getD, List.getElem?_eq_getElem this]
 exact List.getElem_mem _
theorem auS {l : List Int} (ht : ad9 l) {N : Int} (n1 : 0 ≤ N) (n2 : N ≤ 1000) : aNm l (mkRat N 1000) = some (mkRat (akW l (N * 1000000000)) 65535000000000000) ∧ adE (mkRat (akW l (N * 1000000000)) 65535000000000000) := by
 obtain ⟨h1, h2, -⟩ := adT ht (n := N * 1000000000) ⟨by omega, by omega⟩
 rw [← azU] at h1
 exact ⟨h1, h2⟩
theorem aHg {c : CvT} (hr : acD c) {N : Int} (n1 : 0 ≤ N) (n2 : N ≤ 1000) : (∃ v, an5 c (mkRat N 1000) = (fx v, 0, ()) ∧ adE v) ∨ (¬ atC c ∧ (an5 c (mkRat N 1000)).2.1 ≠ 0) := by
 have hr0 := hr
 unfold an5
 rcases hr with ⟨h1, h2, h3⟩ | ⟨h1, h2, h3⟩ | ⟨h1, h2, h3⟩
 ·left
  rw [if_pos h1]
  exact ⟨_, rfl, av5 (by omega) ⟨by omega, by omega⟩ (by omega)⟩
 ·left
  rw [if_neg (by omega), if_pos h1]
  obtain ⟨e1, e2⟩ := auS h2 n1 n2
  rw [e1]
  exact ⟨_, rfl, e2⟩
 ·rw [if_neg (by omega), if_neg (by omega)]
  unfold atU
  have hm := aA5 h3 n2
  by_cases hd : (c.2.2.1.getD (ae2 (mkRat N 1000) c.2.2.1) (0, 0, 0, 0, 0, 0, ())).2.2.2.2.1 = 1
  ·left
   rw [if_pos hd]
   obtain ⟨e1, e2⟩ := anZ (al7 c.2.2.1 0 (by omega) h3.2.2 _ hm).1 n1 n2
   rw [e1]
   exact ⟨_, rfl, e2⟩
  ·right
   rw [if_neg hd]
   exact ⟨fun hc => hd (hc.2 _ hm), by decide⟩
theorem aNA (c : CvT) : -1 ≤ aiR c ∧ aiR c ≤ 1 := by
 unfold aiR
 split
 ·split
  ·omega
  ·split <;> omega
 ·split
  ·omega
  ·split <;> omega
theorem aLt {l : List Int} (h : aI6 l = false) : ∀ k, k + 1 < l.length → l.getD k 0 ≤ l.getD (k + 1) 0 := by
 intro k hk
 unfold aI6 at h
 have := List.any_eq_false.1 h k (List.mem_range.2 (by omega))
 have := of_decide_eq_false (Bool.eq_false_iff.2 this)
 omega
theorem aLs {l : List Int} (h : aH2 l = false) : ∀ k, k + 1 < l.length → l.getD (k + 1) 0 ≤ l.getD k 0 := by
 intro k hk
 unfold aH2 at h
 have := List.any_eq_false.1 h k (List.mem_range.2 (by omega))
 have := of_decide_eq_false (Bool.eq_false_iff.2 this)
 omega
theorem aJf {c : CvT} (hr : acD c) {N M : Int} (n1 : 0 ≤ N) (m2 : M ≤ 1000) (h : N ≤ M) {v w : Rat} (e1 : an5 c (mkRat N 1000) = (fx v, 0, ())) (e2 : an5 c (mkRat M 1000) = (fx w, 0, ())) :
  (aiR c = 1 → v ≤ w) ∧ (aiR c = -1 → w ≤ v) := by
 have hr0 := hr
 unfold an5 at e1 e2
 unfold aiR
 rcases hr with ⟨h1, h2, h3⟩ | ⟨h1, h2, h3⟩ | ⟨h1, h2, h3⟩
 ·rw [if_pos h1] at e1 e2
  obtain rfl := ai1 (Prod.mk.inj e1).1
  obtain rfl := ai1 (Prod.mk.inj e2).1
  rw [if_neg (by omega), h2, if_pos (by decide)]
  exact ⟨fun _ => ao5 (by omega) h, fun hc => absurd hc (by decide)⟩
 ·rw [if_neg (by omega), if_pos h1] at e1 e2
  rw [(auS h2 n1 (by omega)).1] at e1
  rw [(auS h2 (by omega) m2).1] at e2
  obtain rfl := ai1 (Prod.mk.inj e1).1
  obtain rfl := ai1 (Prod.mk.inj e2).1
  rw [if_neg (by omega)]
  cases hf : aI6 c.2.1
  ·refine ⟨fun _ => ao5 (by omega) (aKj h2 (aLt hf) ⟨by omega, by omega⟩ ⟨by omega, by omega⟩ (by omega)), fun hc => absurd hc (by simp)⟩
  ·cases hg : aH2 c.2.1
   ·refine ⟨fun hc => absurd hc (by simp), fun _ => ao5 (by omega) (aKk h2 (aLs hg) ⟨by omega, by omega⟩ ⟨by omega, by omega⟩ (by omega))⟩
   ·exact ⟨fun hc => absurd hc (by simp), fun hc => absurd hc (by simp)⟩
 ·rw [if_neg (by omega), if_neg (by omega)] at e1 e2
  rw [if_pos h1]
  by_cases hl : c.2.2.1.length > 1
  ·rw [if_pos hl]; exact ⟨fun hc => absurd hc (by decide), fun hc => absurd hc (by decide)⟩
  rw [if_neg hl]
  obtain ⟨s, hs⟩ : ∃ s, c.2.2.1 = [s] := by
   have := h3.1
   cases hcl : c.2.2.1 with
   | nil => rw [hcl] at this; exact absurd this (by decide)
   | cons s r =>
    cases r with
    | nil => exact ⟨s, rfl⟩
    | cons t r => rw [hcl] at hl; exact absurd (by simp : (s :: t :: r).length > 1) hl
  have hm1 := aA5 h3 (N := N) (by omega)
  have hm2 := aA5 h3 m2
  unfold atU at e1 e2
  rw [hs] at e1 e2 hm1 hm2 h3 ⊢
  rw [List.mem_singleton.1 hm1] at e1
  rw [List.mem_singleton.1 hm2] at e2
  have hn := (al7 [s] 0 (by omega) h3.2.2 s (List.mem_singleton.2 rfl)).1
  by_cases hd : s.2.2.2.2.1 = 1
  ·rw [if_pos hd] at e1 e2
   rw [(anZ hn n1 (by omega)).1] at e1
   rw [(anZ hn (by omega) m2).1] at e2
   obtain rfl := ai1 (Prod.mk.inj e1).1
   obtain rfl := ai1 (Prod.mk.inj e2).1
   show ((if s.2.1 < 0 then (-1 : Int) else 1) = 1 → _) ∧ ((if s.2.1 < 0 then (-1 : Int) else 1) = -1 → _)
   by_cases hg : s.2.1 < 0
   ·rw [if_pos hg]; exact ⟨fun hc => absurd hc (by decide), fun _ => aIW (by omega) h⟩
   ·rw [if_neg hg]; exact ⟨fun _ => aIV (by omega) h, fun hc => absurd hc (by decide)⟩
  ·rw [if_neg hd] at e1
   have := congrArg (fun x : FxT × Int × Unit => x.2.1) e1
   exact absurd this (by show ¬ (5 : Int) = 0; decide)
theorem az7 {c : CvT} (hr : acD c) {z : Int} (hz : aa9 z) : ∃ N : Int, N = max 0 (min z 1000) ∧ 0 ≤ N ∧ N ≤ 1000 ∧ abZ (c, fx (mkRat z 1000), ()) = some (an5 c (mkRat N 1000)) := by
 obtain ⟨N, e, n1, n2, e2⟩ := aD2 z
 refine ⟨N, e2, n1, n2, ?_⟩
 unfold abZ
 dsimp only
 rw [if_pos hr, afJ (av5 (by omega) hz (by omega))]
 dsimp only
 rw [e]
theorem aQT {a b : Rat} (h : b ≤ a) : aoK a b ≥ 0 := by
 unfold aoK
 rw [if_neg (Rat.not_lt.2 h)]; split <;> decide
theorem aQS {a b : Rat} (h : a ≤ b) : aoK a b ≤ 0 := by
 unfold aoK
 split
 ·decide
 ·rw [if_pos (Rat.le_antisymm h (Rat.not_lt.1 ‹_›))]; decide
theorem aEt (c : CvT) : alZ (c, ()) = some (decide (atC c), ()) := rfl
theorem apA {k : IntKind} {x a b : Int} (h : k.min ≤ x ∧ x ≤ k.max) (ha : k.min = a := by rfl) (hb : k.max = b := by rfl) : inR x a b := by subst ha; subst hb; exact h
theorem aJ4 {x : DrT × List Int × Unit} (h : Wf (.pair (.pair (.int .u8) (.pair (.sl (.int .u16)) (.pair (.sl (.pair (.int .u8) (.pair (.int .i16) (.pair (.int .i16) (.pair (.int .i16) (.pair (.int .u8) (.pair (.int .u8) .unit))))))) (.pair .bool (.pair .bool .unit))))) (.pair (.arr 2 (.int .i16)) .unit)) x) :
  aRd x.1 ∧ x.2.1.length = 2 ∧ ∀ v ∈ x.2.1, inR v (-32768) 32767 := by
 obtain ⟨⟨h1, ⟨-, h2⟩, ⟨-, h3⟩, -⟩, ⟨h4, h5⟩, -⟩ := h
 refine ⟨⟨apA h1, fun v hv => apA (h2 v hv), fun s hs => ?_⟩, h4, fun v hv => apA (h5 v hv)⟩
 obtain ⟨a1, a2, a3, a4, a5, a6, -⟩ := h3 s hs
 exact ⟨apA a1, apA a2, apA a3, apA a4, apA a5, apA a6⟩
theorem ax2 (d : DrT) (at0 : List Int) (hp : aRd d ∧ at0.length = 2 ∧ ∀ v ∈ at0, inR v (-32768) 32767) (y) (h : akO (d, at0, ()) = some y) : (akP d at0).toO = some y := by
 injection h with h
 subst h
 obtain ⟨hd, hl, hb⟩ := hp
 obtain ⟨p, q, rfl⟩ : ∃ p q, at0 = [p, q] := by
  match at0, hl with
  | [p, q], _ => exact ⟨p, q, rfl⟩
 obtain ⟨p1, p2⟩ := hb p (by simp)
 obtain ⟨q1, q2⟩ := hb q (by simp)
 obtain ⟨c, hc, hr⟩ := aPb d hd
 have hT : agL (c, ()) = some (aiR c, 0, ()) := by
  unfold agL; dsimp only; rw [if_pos hr]
 obtain ⟨lo, hlo⟩ : ∃ lo, lo = (if q < p then q else p) := ⟨_, rfl⟩
 obtain ⟨hi, hhi⟩ : ∃ hi, hi = (if q > p then q else p) := ⟨_, rfl⟩
 have o1 : lo ≤ hi := by rw [hlo, hhi]; split <;> split <;> omega
 have o2 : -32768 ≤ lo := by rw [hlo]; split <;> omega
 have o3 : hi ≤ 32767 := by rw [hhi]; split <;> omega
 have w1 : w64 lo = lo := aaA (by omega)
 have w2 : w64 hi = hi := aaA (by omega)
 have i1 : aa9 lo := ⟨by omega, by omega⟩
 have i2 : aa9 hi := ⟨by omega, by omega⟩
 have oL : ab9 (w64 (if q < p then q else p), 1000, ()) = some (fx (mkRat lo 1000), ()) := by
  rw [← hlo, w1]; exact ahB (d := 1000) i1 (by omega) (by omega)
 have oH : ab9 (w64 (if q > p then q else p), 1000, ()) = some (fx (mkRat hi 1000), ()) := by
  rw [← hhi, w2]; exact ahB (d := 1000) i2 (by omega) (by omega)
 obtain ⟨N, eN, n1, n2, hN⟩ := az7 hr i1
 obtain ⟨M, eM, m1, m2, hM⟩ := az7 hr i2
 have hNM : N ≤ M := by omega
 obtain ⟨t1, t2⟩ := aNA c
 unfold akP
 refine uC (true, ()) rfl (uF rfl (uC _ hc (uC _ hT (uV (uV (uC _ oL (uC _ hN (uV (uV (uC _ oH (uC _ hM ?_)))))))))))
 refine uF rfl (uF (decide_eq_false (by dsimp only; omega)) (uF (decide_eq_false (by dsimp only; omega)) ?_))
 rcases aHg hr n1 n2 with ⟨v, e1, f1⟩ | ⟨x1, x2⟩
 ·rw [e1]
  refine uF rfl ?_
  rcases aHg hr m1 m2 with ⟨w, e2, f2⟩ | ⟨x1, x2⟩
  ·rw [e2]
   refine uF rfl ?_
   have hC : amV (fx w, fx v, ()) = some (aoK w v, 0, ()) := by
    unfold amV
    rw [if_pos ⟨aPi f2, aPi f1⟩, axZ f2 f1]
   refine uC _ hC (uT rfl ?_)
   obtain ⟨g1, g2⟩ := aJf hr n1 m2 hNM e1 e2
   rcases (show aiR c = 0 ∨ aiR c = 1 ∨ aiR c = -1 by omega) with ht | ht | ht
   ·rw [ht]; exact uT rfl rfl
   ·rw [ht]; exact uF rfl (uT rfl (uT (decide_eq_true (aQT (g1 ht))) rfl))
   ·rw [ht]
    refine uF rfl (uF rfl (uT rfl ?_))
    show some (decide (aoK w v ≤ 0), ()) = some (true, ())
    rw [decide_eq_true (aQS (g2 ht))]
  ·refine uT (bne_iff_ne.2 x2) (uC _ (aEt c) ?_)
   show some (!decide (atC c), ()) = some (true, ())
   rw [decide_eq_false x1]; rfl
 ·refine uT (bne_iff_ne.2 x2) (uC _ (aEt c) ?_)
  show some (!decide (atC c), ()) = some (true, ())
  rw [decide_eq_false x1]; rfl
end Go.Vs
