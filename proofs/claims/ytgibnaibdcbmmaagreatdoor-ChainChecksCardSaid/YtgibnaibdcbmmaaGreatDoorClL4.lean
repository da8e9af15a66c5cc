/-
  Trees of what the functions compute, and their laws. Own work; no condition.
-/
import Derived.Test.YtgibnaibdcbmmaaGreatDoorClL3
import Derived.Test.YtgibnaibdcbmmaaGreatDoorProg
set_option linter.unusedVariables false
set_option linter.unusedSimpArgs false
namespace Go.Vs
open Go Go.Vg
theorem aOy {x : ElT} (h : shE x) : ai3 (rE x, ()) = some (if abK x then (aEF x, 0, ()) else (0, 130, ())) := if_pos h
theorem aLj {x : ElT} (h : shE x) : ae9 (rE x, ()) = some (if abK x then (aiJ x, 0, ()) else (0, 130, ())) := if_pos h
theorem alG (l : List ElT) (k : Nat) : gE l (k : Int) = l.getD k e0 := aaI l k e0
theorem aa3 {α : Type} {l : List α} {k : Nat} (h : k < l.length) (d : α) : l.getD k d ∈ l := by
 rw [zX, zI h]; exact yi h
theorem aNj {α : Type} {l : List α} {k : Nat} (h : k < l.length) (d : α) : l.drop k = l.getD k d :: l.drop (k + 1) := by
 rw [yj h, zX, zI h]; rfl
def aFz (l : List ElT) (i : Int × Int × Int × Unit) : Int × Bool × Unit := match agQ i.2.1 (l.drop i.1.toNat) with | some n => (n, true, ()) | none => (0, false, ())
theorem aCl (l : ChT × Unit) (y) (h : agO (l, ()) = some y) : (as0 l).toO = some y := by
 unfold agO at h
 split at h
 case isFalse => cases h
 case isTrue hl =>
 obtain ⟨⟨n, xs, u⟩, u'⟩ := l
 obtain ⟨hs, he⟩ := hl
 injection h with h
 subst h
 dsimp only at hs he ⊢
 unfold as0
 by_cases c1 : n < 1
 ·refine uT (zl c1) ?_
  rw [show ae6 (n, xs, u) = none from if_neg (fun h => by have := h.1.1; dsimp only at this; omega)]; rfl
 refine uF (zk c1) ?_
 by_cases c2 : n > 4
 ·refine uT (zl c2) ?_
  rw [show ae6 (n, xs, u) = none from if_neg (fun h => by have := h.1.2; dsimp only at this; omega)]; rfl
 refine uF (zk c2) ?_
 by_cases c3 : xs.length > 8
 ·refine uT (zl (by rw [aaB]; dsimp only; omega)) ?_
  rw [show ae6 (n, xs, u) = none from if_neg (fun h => by have := h.2; dsimp only at this; omega)]; rfl
 refine uF (zk (by rw [aaB]; dsimp only; omega)) (uV (uV (uO (0, n, n, ()) rfl ?_)))
 rw [show ae6 (n, xs, u) = agQ n xs from if_pos ⟨⟨by omega, by omega⟩, by dsimp only; omega⟩]
 refine abA (fun i : Int × Int × Int × Unit => ∃ k : Nat, k ≤ xs.length ∧ i.1 = (k : Int) ∧ i.2.2.1 = i.2.1) (fun i => xs.length - i.1.toNat) (aFz xs) (fun i hi => ?_) _ ⟨0, zA _, rfl, rfl⟩
 obtain ⟨k, hk, e1, e2⟩ := hi
 obtain ⟨i, a, b, u⟩ := i
 dsimp only at e1 e2
 subst e1; subst e2
 by_cases c : k < xs.length
 ·have hx := he _ (aa3 c e0)
  have hd := aNj c e0
  have eI := aOy hx
  have eO := aLj hx
  simp only [aoV, alG, aFz, zz, hd, agQ]
  by_cases r : abK (xs.getD k e0)
  ·rw [if_pos r] at eI eO
   by_cases q : aEF (xs.getD k e0) = b
   ·refine Or.inl ⟨((k + 1 : Nat), aiJ (xs.getD k e0), aiJ (xs.getD k e0), ()), ?_, ⟨k + 1, c, rfl, rfl⟩, by dsimp only; omega, ?_⟩
    ·refine uT (zl (by rw [aaB]; omega)) (uN sd (uC _ eI (uF rfl (uF (by dsimp only; rw [q]; simp) (uC _ eO (uC _ eO (uF rfl ?_)))))))
     show some _ = some _
     rw [show w64 ((k : Int) + 1) = ((k + 1 : Nat) : Int) from (aaD ⟨by omega, by omega⟩).trans zc]
    ·rw [if_pos ⟨r, q⟩]; simp only [zz]
   ·refine Or.inr ?_
    rw [if_neg (fun h => q h.2)]
    exact uT (zl (by rw [aaB]; omega)) (uN sd (uC _ eI (uF rfl (uT (by dsimp only; simpa using q) rfl))))
  ·rw [if_neg r] at eI eO
   refine Or.inr ?_
   rw [if_neg (fun h => r h.1)]
   exact uT (zl (by rw [aaB]; omega)) (uN sd (uC _ eI (uT rfl rfl)))
 ·refine Or.inr ?_
  simp only [aoV, aFz, zz, yH (show xs.length ≤ k by omega), agQ]
  exact uF (zk (by rw [aaB]; omega)) rfl
theorem aIl {c : ChT} (h : ayF c) : agO (((c.1, c.2.1, ()), ()), ()) = some (match ae6 c with | some n => (n, true, ()) | none => (0, false, ())) := if_pos h
theorem aCn (c : ChT) (y) (h : aeA (c, ()) = some y) : (aAB c).toO = some y := by
 unfold aeA at h
 split at h
 case isFalse => cases h
 case isTrue hl =>
 injection h with h
 subst h
 refine uC _ (aIl hl) ?_
 cases ae6 c <;> rfl
theorem aIm {c : ChT} (h : ayF c) : aeA ((c.1, c.2.1, ()), ()) = some (match ae6 c with | some n => (n, 0, ()) | none => (0, 140, ())) := if_pos h
theorem aAD (c : ChT) (y) (h : ac4 (c, ()) = some y) : (avR c).toO = some y := by
 unfold ac4 at h
 split at h
 case isFalse => cases h
 case isTrue hl =>
 injection h with h
 subst h
 refine uC _ (aIm hl) ?_
 cases ae6 c <;> rfl
theorem aFj {c : ChT} (h : ayF c) : ac4 ((c.1, c.2.1, ()), ()) = some (match ae6 c with | some _ => (0, ()) | none => (140, ())) := if_pos h
theorem aLi {x y : ElT} (h : shE x) : agN (rE x, rE y, ()) = some (eqb x y, ()) := if_pos h
theorem aCm (a b : ChT) (y) (h : agP (a, b, ()) = some y) : (as1 a b).toO = some y := by
 unfold agP at h
 split at h
 case isFalse => cases h
 case isTrue hl =>
 obtain ⟨n, xs, u⟩ := a
 obtain ⟨m, ys, u'⟩ := b
 obtain ⟨hs, he⟩ := hl
 injection h with h
 subst h
 dsimp only at hs he ⊢
 have hs' : xs.length ≤ 1000000000000 := hs
 unfold as1
 by_cases c1 : n = m
 ·subst c1
  refine uT (beq_self_eq_true n) (uV (uV ?_))
  by_cases c2 : xs.length = ys.length
  ·refine uF (by rw [aaB, aaB, c2]; simp) (uO (0, ()) rfl ?_)
   refine (aa9 (n := xs.length) (bad := (false, ())) (good := (true, ())) (fun k => eqb (xs.getD k e0) (ys.getD k e0)) (fun k hk hp => ?_) (fun k hk hp => ?_) ?_).trans ?_
   ·simp only [aoW, alG]
    refine uT sd (uN sd (uN sd (uC _ (aLi (he _ (aa3 hk e0))) (uF (by dsimp only; rw [hp]; rfl) ?_))))
    show some _ = some _
    rw [amU hk hs']
   ·simp only [aoW, alG]
    exact uT sd (uN sd (uN sd (uC _ (aLi (he _ (aa3 hk e0))) (uT (by dsimp only; rw [hp]; rfl) rfl))))
   ·exact uF sd rfl
   ·rw [aiR e0 c2]
    rw [show eqb (n, xs, u) (n, ys, u') = eqb xs ys from asD ⟨fun h => by rw [eqb_iff.1 h], fun h => eqb_iff.2 (Prod.mk.inj (Prod.mk.inj h).2).1⟩]
    cases eqb xs ys <;> rfl
  ·refine uT (by rw [aaB, aaB]; simp; omega) ?_
   rw [aaJ (fun h => c2 (by rw [(Prod.mk.inj (Prod.mk.inj h).2).1]))]; rfl
 ·refine uF (beq_eq_false_iff_ne.2 c1) ?_
  rw [aaJ (fun h => c1 (Prod.mk.inj h).1)]; rfl
set_option maxRecDepth 100000
open Go Go.Vg Go.Proofs
noncomputable section
def aFV : LTab := []
def ay4 (d : Int × Int × List xX × Unit) : TT wu :=
 .triv (asT Int 3 ≠ 0) zd <| .ok ((w64 (1 + w64 (Int.tmod d.1 3)), ()))
def aD1 : LTab := []
def auY (d : Int × Int × List xX × Unit) : TT wu :=
 .triv (asT Int 3 ≠ 0) zd <| .ok ((w64 (1 + w64 (Int.tmod d.2.1 3)), ()))
def awV : LTab := [(147, 15, 4098, ⟨0, Bool × (List xX) × (Int) × Unit, .appN (.s 3) 4 126 wk <| .dat (.s 4) xW <| .nil, [1], [0], 1⟩), (147, 122, 5122, ⟨1, (Int) × (Int) × Bool × (List xX) × Unit, .dat (.s 5) xW <| .dat (.s 4) xW <| .appN (.s 3) 5 126 wk <| .nil, [1], [0], 1⟩), (147, 3913, 26626, ⟨2, (Int) × Unit, .dat (.c 25 0) xW <| .nil, [6, 3, 4, 5, 1], [25, 0], 0⟩), (147, 15655, 34817, ⟨3, (Int) × Unit, .dat (.c 25 1) xW <| .nil, [6, 3, 4, 5, 1], [25, 0], 0⟩), (147, 3913, 26625, ⟨4, (Int) × Unit, .dat (.c 25 0) xW <| .nil, [6, 3, 4, 5, 1], [25, 0], 0⟩), (147, 3913, 26624, ⟨5, (Int) × Unit, .dat (.c 25 0) xW <| .nil, [6, 3, 4, 5, 1], [25, 5, 0], 0⟩), (147, 15655, 34816, ⟨6, (Int) × Unit, .dat (.c 25 1) xW <| .nil, [6, 3, 4, 5, 1], [25, 5, 0], 0⟩), (147, 124, 5121, ⟨7, (Int) × Bool × (List xX) × Unit, .dat (.s 4) xW <| .appN (.s 3) 5 126 wk <| .nil, [1], [0], 1⟩), (147, 252, 10241, ⟨8, Bool × (List xX) × (Int) × Unit, .appN (.s 3) 10 126 wk <| .dat (.s 4) xW <| .nil, [1], [0], 1⟩), (147, 252, 10240, ⟨9, (List xX) × (Int) × Unit, .app (.s 3) 10 126 wk <| .dat (.s 4) xW <| .nil, [1], [0], 1⟩), (147, 124, 5120, ⟨10, (Int) × (List xX) × Unit, .dat (.s 4) xW <| .app (.s 3) 5 126 wk <| .nil, [1], [0], 1⟩)]
def at3 (d : Int × Int × List xX × Unit) (i : Int × Int × Bool × List xX × Unit) (j : Int × Unit) (j1 : (Int) × Unit) : TT we :=
 .need (1 * 16 ≤ 140737488355328) <| .call (ab1 (j.1, ())) Dz3 fun y3 =>
 .tt <| .lt (w64 (i.1 + 1) : Int) fun z5 => .lt (w64 (w64 (i.2.1 - y3.1) + 1) : Int) fun z6 => .lt ([(j.1, j1.1, ())] : List xX) fun z7 => .xC ((xT 5 0 1 true) ∧ (xO z6 z5 <| wb ∧ True)) <| .xC (xB (xR 126 z7) <| xB (xD 38 d.1 d.2.1 d.2.2.1) True) <| .ok (.inl ((z5, z6, false, z7, ())))
def at4 (d : Int × Int × List xX × Unit) (i : Int × Int × Bool × List xX × Unit) (j : (Int) × Unit) : TT we :=
 .need (inb i.1 (len d.2.2.1)) <| .join 3 (ι := (Int) × Unit) (.ite (j.1 == 1)
 (.call (ae8 ((d.1, d.2.1, d.2.2.1, ()), ())) Dz3 fun y2 =>
 .need (y2.1 ≠ 0) <| .tt <| .lt (Int.tmod (w64 (IntKind.wrap IntKind.u16 (w64 (gi d.2.2.1 i.1 (0, 0, ())).2.1))) y2.1 : Int) fun z2 => .xC (wz ∧ (True ∧ (xO i.2.1 i.1 <| wb ∧ True))) <| .xC (xB (xF 126 j.1 z2) <| xB (xD 38 d.1 d.2.1 d.2.2.1) True) <| .ok (.inl ((z2, ()))))
 (.ite (j.1 == 2)
 (.tt <| .lt (w64 (100 * w64 (gi d.2.2.1 i.1 (0, 0, ())).2.1) : Int) fun z3 => .xC (wz ∧ (True ∧ (xO i.2.1 i.1 <| wb ∧ True))) <| .xC (xB (xF 126 j.1 z3) <| xB (xD 38 d.1 d.2.1 d.2.2.1) True) <| .ok (.inl ((z3, ()))))
 (.ite (j.1 == 11)
 (.need (i.2.1 ≠ 0) <| .tt <| .lt (Int.tmod (w64 (IntKind.wrap IntKind.u16 (w64 (gi d.2.2.1 i.1 (0, 0, ())).2.1))) i.2.1 : Int) fun z4 => .xC (wz ∧ (True ∧ (xO i.2.1 i.1 <| wb ∧ True))) <| .xC (xB (xF 126 j.1 z4) <| xB (xD 38 d.1 d.2.1 d.2.2.1) True) <| .ok (.inl ((z4, ()))))
 (.tt <| .xC (wz ∧ (True ∧ (xO i.2.1 i.1 <| wb ∧ True))) <| .xC (xB (xF 126 j.1 (0 : Int)) <| xB (xD 38 d.1 d.2.1 d.2.2.1) True) <| .ok (.inl ((0, ()))))))) (at3 d i j)
def at1 (d : Int × Int × List xX × Unit) (i : Int × Int × Bool × List xX × Unit) (j2 : Int × Unit) (j3 : (Int) × Unit) : TT we :=
 .need ((List.length i.2.2.2.1 + 1) * 16 ≤ 140737488355328) <| .call (ab1 (j2.1, ())) Dz3 fun y7 =>
 .tt <| .lt (w64 (i.1 + 1) : Int) fun z15 => .lt (w64 (w64 (i.2.1 - y7.1) + 1) : Int) fun z16 => .lt (List.take (List.length i.2.2.2.1) i.2.2.2.1 ++ [(j2.1, j3.1, ())] : List xX) fun z17 => .need ((((5) = (5)) ∧ (((0) = (0)) ∧ ((List.length i.2.2.2.1 + 1 = List.length z17) ∧ ((true) = (true))))) ∧ ((z16 : Int) = z16) ∧ ((z15 : Int) = z15) ∧ (((0) = (0)) ∧ (((0) = (0)) ∧ ((true) = (true)))) ∧ True) <| .xC (xB (xR 126 z17) <| xB (xD 38 d.1 d.2.1 d.2.2.1) True) <| .ok (.inl ((z15, z16, false, z17, ())))
def at2 (d : Int × Int × List xX × Unit) (i : Int × Int × Bool × List xX × Unit) (j2 : (Int) × Unit) : TT we :=
 .need (inb i.1 (len d.2.2.1)) <| .join 6 (ι := (Int) × Unit) (.ite (j2.1 == 1)
 (.call (ae8 ((d.1, d.2.1, d.2.2.1, ()), ())) Dz3 fun y6 =>
 .need (y6.1 ≠ 0) <| .tt <| .lt (Int.tmod (w64 (IntKind.wrap IntKind.u16 (w64 (gi d.2.2.1 i.1 (0, 0, ())).2.1))) y6.1 : Int) fun z12 => .xC (wz ∧ ((xT 5 0 (List.length i.2.2.2.1) true) ∧ (xO i.2.1 i.1 <| wb ∧ True))) <| .xC (xB (xF 126 j2.1 z12) <| xB (xR 126 i.2.2.2.1) <| xB (xD 38 d.1 d.2.1 d.2.2.1) True) <| .ok (.inl ((z12, ()))))
 (.ite (j2.1 == 2)
 (.tt <| .lt (w64 (100 * w64 (gi d.2.2.1 i.1 (0, 0, ())).2.1) : Int) fun z13 => .xC (wz ∧ ((xT 5 0 (List.length i.2.2.2.1) true) ∧ (xO i.2.1 i.1 <| wb ∧ True))) <| .xC (xB (xF 126 j2.1 z13) <| xB (xR 126 i.2.2.2.1) <| xB (xD 38 d.1 d.2.1 d.2.2.1) True) <| .ok (.inl ((z13, ()))))
 (.ite (j2.1 == 11)
 (.need (i.2.1 ≠ 0) <| .tt <| .lt (Int.tmod (w64 (IntKind.wrap IntKind.u16 (w64 (gi d.2.2.1 i.1 (0, 0, ())).2.1))) i.2.1 : Int) fun z14 => .xC (wz ∧ ((xT 5 0 (List.length i.2.2.2.1) true) ∧ (xO i.2.1 i.1 <| wb ∧ True))) <| .xC (xB (xF 126 j2.1 z14) <| xB (xR 126 i.2.2.2.1) <| xB (xD 38 d.1 d.2.1 d.2.2.1) True) <| .ok (.inl ((z14, ()))))
 (.tt <| .xC (wz ∧ ((xT 5 0 (List.length i.2.2.2.1) true) ∧ (xO i.2.1 i.1 <| wb ∧ True))) <| .xC (xB (xF 126 j2.1 (0 : Int)) <| xB (xR 126 i.2.2.2.1) <| xB (xD 38 d.1 d.2.1 d.2.2.1) True) <| .ok (.inl ((0, ()))))))) (at1 d i j2)
def aeJ (i : (Int) × (Int) × Bool × (List xX) × Unit) (d : Int × Int × List xX × Unit) : TT (wy ⊕ we) :=
 .ite (decide (i.2.1 > 8))
 (.tt <| .xC (wz ∧ ((xT 5 0 (List.length i.2.2.2.1) true) ∧ (xO i.2.1 i.1 <| wb ∧ True))) <| .xC (xB (xF 126 (3 : Int) (0 : Int)) <| xB (xR 126 i.2.2.2.1) <| xB (xD 38 d.1 d.2.1 d.2.2.1) True) <| .ok (.inl ((3, ()))))
 (.tt <| .xC (wz ∧ ((xT 5 0 (List.length i.2.2.2.1) true) ∧ (xO i.2.1 i.1 <| wb ∧ True))) <| .xC (xB (xF 126 (1 : Int) (0 : Int)) <| xB (xR 126 i.2.2.2.1) <| xB (xD 38 d.1 d.2.1 d.2.2.1) True) <| .ok (.inl ((1, ()))))
def aeI (i : (Int) × (Int) × Bool × (List xX) × Unit) (d : Int × Int × List xX × Unit) : TT (wy ⊕ we) :=
 .ite (decide (i.2.1 > 8))
 (.tt <| .xC (wz ∧ (True ∧ (xO i.2.1 i.1 <| wb ∧ True))) <| .xC (xB (xF 126 (3 : Int) (0 : Int)) <| xB (xD 38 d.1 d.2.1 d.2.2.1) True) <| .ok (.inl ((3, ()))))
 (.tt <| .xC (wz ∧ (True ∧ (xO i.2.1 i.1 <| wb ∧ True))) <| .xC (xB (xF 126 (1 : Int) (0 : Int)) <| xB (xD 38 d.1 d.2.1 d.2.2.1) True) <| .ok (.inl ((1, ()))))
def ahR (d : Int × Int × List xX × Unit) (i : (Int) × (Int) × Bool × (List xX) × Unit) : TT (wy ⊕ we) :=
 .tt <| .lt (w64 (1 + w64 (Int.tmod (gi d.2.2.1 i.1 (0, 0, ())).1 12)) : Int) fun z10 => .xC (wz ∧ ((xT 5 0 (List.length i.2.2.2.1) true) ∧ (xO i.2.1 i.1 <| wb ∧ True))) <| .xC (xB (xF 126 z10 (0 : Int)) <| xB (xR 126 i.2.2.2.1) <| xB (xD 38 d.1 d.2.1 d.2.2.1) True) <| .ok (.inl ((z10, ())))
def ahQ (d : Int × Int × List xX × Unit) (i : (Int) × (Int) × Bool × (List xX) × Unit) : TT (wy ⊕ we) :=
 .tt <| .lt (w64 (1 + w64 (Int.tmod (gi d.2.2.1 i.1 (0, 0, ())).1 12)) : Int) fun z => .xC (wz ∧ (True ∧ (xO i.2.1 i.1 <| wb ∧ True))) <| .xC (xB (xF 126 z (0 : Int)) <| xB (xD 38 d.1 d.2.1 d.2.2.1) True) <| .ok (.inl ((z, ())))
def ahP (i : (Int) × (Int) × Bool × (List xX) × Unit) (d : Int × Int × List xX × Unit) : TT we :=
 .tt <| .lt (i.2.2.2.1 : List xX) fun z18 => .lt (i.2.1 : Int) fun z19 => .xC (xK z19 <| (xT 4 0 (List.length z18) true) ∧ wb ∧ True) <| .xC (xB (xR 126 z18) <| xB (xD 38 d.1 d.2.1 d.2.2.1) True) <| .ok (.inr (.inl ((false, z18, z19, ()))))
def at5 (d : Int × Int × List xX × Unit) (i : (Int) × (Int) × Bool × (List xX) × Unit) : TT we :=
 .ite (i.2.2.1)
 (.ite (decide (i.1 < len d.2.2.1))
  (.ite (decide (i.1 < 12))
   (.need (inb i.1 (len d.2.2.1)) <| .triv (asT Int 12 ≠ 0) zd <| .join 4 (ι := (Int) × Unit) (.call (ab1 (w64 (1 + w64 (Int.tmod (gi d.2.2.1 i.1 (0, 0, ())).1 12)), ())) Dz3 fun y =>
     .ite (decide (y.1 > i.2.1))
     (aeI i d)
     (.ite (i.2.1 == 0)
      (aeI i d)
      (.ite (decide (i.2.1 > 8))
       (.call (ab1 (w64 (1 + w64 (Int.tmod (gi d.2.2.1 i.1 (0, 0, ())).1 12)), ())) Dz3 fun y1 =>
        .ite (y1.1 == 0)
        (aeI i d)
        (ahQ d i))
       (ahQ d i)))) (at4 d i))
   (.tt <| .lt (i.2.1 : Int) fun z8 => .xC (xK z8 <| True ∧ wb ∧ True) <| .xC (xB (xD 38 d.1 d.2.1 d.2.2.1) True) <| .ok (.inr (.inl ((true, [], z8, ()))))))
  (.tt <| .lt (i.2.1 : Int) fun z9 => .xC (xK z9 <| True ∧ wb ∧ True) <| .xC (xB (xD 38 d.1 d.2.1 d.2.2.1) True) <| .ok (.inr (.inl ((true, [], z9, ()))))))
 (.ite (decide (i.1 < len d.2.2.1))
  (.ite (decide (i.1 < 12))
   (.need (inb i.1 (len d.2.2.1)) <| .triv (asT Int 12 ≠ 0) zd <| .join 5 (ι := (Int) × Unit) (.call (ab1 (w64 (1 + w64 (Int.tmod (gi d.2.2.1 i.1 (0, 0, ())).1 12)), ())) Dz3 fun y4 =>
     .ite (decide (y4.1 > i.2.1))
     (aeJ i d)
     (.ite (i.2.1 == 0)
      (aeJ i d)
      (.ite (decide (i.2.1 > 8))
       (.call (ab1 (w64 (1 + w64 (Int.tmod (gi d.2.2.1 i.1 (0, 0, ())).1 12)), ())) Dz3 fun y5 =>
        .ite (y5.1 == 0)
        (aeJ i d)
        (ahR d i))
       (ahR d i)))) (at2 d i))
   (ahP i d))
  (ahP i d))
def alD (d : Int × Int × List xX × Unit) (j4 : Bool × List xX × Int × Unit) (i1 : Int × Bool × List xX × Unit) (y8 : Int × Unit) (i2 : Bool × (List xX) × (Int) × Unit) : TT ((Bool × (List xX) × (Int) × Unit) ⊕ wI) :=
 .ite (i2.1)
 (.call (aaV ((d.1, d.2.1, d.2.2.1, ()), ())) Dz3 fun y10 =>
 .ite (decide (i2.2.2.1 > y10.1))
 (.triv (1 * 16 ≤ 140737488355328) zd <| .tt <| .lt ([(3, 0, ())] : List xX) fun z26 => .lt (w64 (i2.2.2.1 - 1) : Int) fun z27 => .xC (xK z27 <| (xT 10 0 1 true) ∧ wb ∧ True) <| .xC (xB (xR 126 z26) <| xB (xD 38 d.1 d.2.1 d.2.2.1) True) <| .ok (.inl ((false, z26, z27, ()))))
 (.ok (.inr (.inr (([], ()))))))
 (.call (aaV ((d.1, d.2.1, d.2.2.1, ()), ())) Dz3 fun y11 =>
 .ite (decide (i2.2.2.1 > y11.1))
 (.need ((List.length i2.2.1 + 1) * 16 ≤ 140737488355328) <| .tt <| .lt (List.take (List.length i2.2.1) i2.2.1 ++ [(3, 0, ())] : List xX) fun z28 => .lt (w64 (i2.2.2.1 - 1) : Int) fun z29 => .need (((z29 : Int) = z29) ∧ (((10) = (10)) ∧ (((0) = (0)) ∧ ((List.length i2.2.1 + 1 = List.length z28) ∧ ((true) = (true))))) ∧ (((0) = (0)) ∧ (((0) = (0)) ∧ ((true) = (true)))) ∧ True) <| .xC (xB (xR 126 z28) <| xB (xD 38 d.1 d.2.1 d.2.2.1) True) <| .ok (.inl ((false, z28, z29, ()))))
 (.ok (.inr (.inr ((List.take (List.length i2.2.1) i2.2.1, ()))))))
def alC (d : Int × Int × List xX × Unit) (j4 : Bool × List xX × Int × Unit) (i1 : Int × Bool × List xX × Unit) (y12 : Int × Unit) (i3 : (List xX) × (Int) × Unit) : TT (((List xX) × (Int) × Unit) ⊕ wI) :=
 .call (aaV ((d.1, d.2.1, d.2.2.1, ()), ())) Dz3 fun y14 =>
 .ite (decide (i3.2.1 > y14.1))
 (.need ((List.length i3.1 + 1) * 16 ≤ 140737488355328) <| .tt <| .lt (List.take (List.length i3.1) i3.1 ++ [(3, 0, ())] : List xX) fun z34 => .lt (w64 (i3.2.1 - 1) : Int) fun z35 => .need (((z35 : Int) = z35) ∧ (((10) = (10)) ∧ (((0) = (0)) ∧ ((List.length i3.1 + 1 = List.length z34) ∧ ((true) = (true))))) ∧ (((0) = (0)) ∧ (((0) = (0)) ∧ ((true) = (true)))) ∧ True) <| .xC (xB (xR 126 z34) <| xB (xD 38 d.1 d.2.1 d.2.2.1) True) <| .ok (.inl ((z34, z35, ()))))
 (.ok (.inr (.inr ((List.take (List.length i3.1) i3.1, ())))))
def alE (d : Int × Int × List xX × Unit) (j4 : Bool × List xX × Int × Unit) (i1 : (Int) × Bool × (List xX) × Unit) : TT wI :=
 .ite (i1.2.1)
 (.call (aaV ((d.1, d.2.1, d.2.2.1, ()), ())) Dz3 fun y8 =>
 .ite (decide (i1.1 < y8.1))
 (.call (ae8 ((d.1, d.2.1, d.2.2.1, ()), ())) Dz3 fun y9 =>
 .need (y9.1 ≠ 0) <| .need (1 * 16 ≤ 140737488355328) <| .tt <| .lt (w64 (i1.1 + 1) : Int) fun z23 => .lt ([(1, Int.tmod i1.1 y9.1, ())] : List xX) fun z24 => .xC ((xT 5 0 1 true) ∧ (xK z23 <| wb ∧ True)) <| .xC (xB (xR 126 z24) <| xB (xD 38 d.1 d.2.1 d.2.2.1) True) <| .ok (.inl ((z23, false, z24, ()))))
 (.loop 8 (.tt <| .lt (i1.1 : Int) fun z25 => .xC (xK z25 <| True ∧ wb ∧ True) <| .xC (xB (xD 38 d.1 d.2.1 d.2.2.1) True) <| .ok ((true, [], z25, ()))) (alD d j4 i1 y8)))
 (.call (aaV ((d.1, d.2.1, d.2.2.1, ()), ())) Dz3 fun y12 =>
 .ite (decide (i1.1 < y12.1))
 (.call (ae8 ((d.1, d.2.1, d.2.2.1, ()), ())) Dz3 fun y13 =>
 .need (y13.1 ≠ 0) <| .need ((List.length i1.2.2.1 + 1) * 16 ≤ 140737488355328) <| .tt <| .lt (w64 (i1.1 + 1) : Int) fun z30 => .lt (List.take (List.length i1.2.2.1) i1.2.2.1 ++ [(1, Int.tmod i1.1 y13.1, ())] : List xX) fun z31 => .need ((((5) = (5)) ∧ (((0) = (0)) ∧ ((List.length i1.2.2.1 + 1 = List.length z31) ∧ ((true) = (true))))) ∧ ((z30 : Int) = z30) ∧ (((0) = (0)) ∧ (((0) = (0)) ∧ ((true) = (true)))) ∧ True) <| .xC (xB (xR 126 z31) <| xB (xD 38 d.1 d.2.1 d.2.2.1) True) <| .ok (.inl ((z30, false, z31, ()))))
 (.loop 9 (.tt <| .lt (i1.2.2.1 : List xX) fun z32 => .lt (i1.1 : Int) fun z33 => .xC (xK z33 <| (xT 10 0 (List.length z32) true) ∧ wb ∧ True) <| .xC (xB (xR 126 z32) <| xB (xD 38 d.1 d.2.1 d.2.2.1) True) <| .ok ((z32, z33, ()))) (alC d j4 i1 y12)))
def ajT (d : Int × Int × List xX × Unit) (j4 : Bool × List xX × Int × Unit) (i4 : Int × List xX × Unit) (y15 : Int × Unit) (i5 : (List xX) × (Int) × Unit) : TT (((List xX) × (Int) × Unit) ⊕ wX) :=
 .call (aaV ((d.1, d.2.1, d.2.2.1, ()), ())) Dz3 fun y17 =>
 .ite (decide (i5.2.1 > y17.1))
 (.need ((List.length i5.1 + 1) * 16 ≤ 140737488355328) <| .tt <| .lt (List.take (List.length i5.1) i5.1 ++ [(3, 0, ())] : List xX) fun z42 => .lt (w64 (i5.2.1 - 1) : Int) fun z43 => .need (((z43 : Int) = z43) ∧ (((10) = (10)) ∧ (((0) = (0)) ∧ ((List.length i5.1 + 1 = List.length z42) ∧ ((true) = (true))))) ∧ (((0) = (0)) ∧ (((0) = (0)) ∧ ((true) = (true)))) ∧ True) <| .xC (xB (xR 126 z42) <| xB (xD 38 d.1 d.2.1 d.2.2.1) True) <| .ok (.inl ((z42, z43, ()))))
 (.ok (.inr (.inr ((List.take (List.length i5.1) i5.1, ())))))
def ajU (d : Int × Int × List xX × Unit) (j4 : Bool × List xX × Int × Unit) (i4 : (Int) × (List xX) × Unit) : TT wX :=
 .call (aaV ((d.1, d.2.1, d.2.2.1, ()), ())) Dz3 fun y15 =>
 .ite (decide (i4.1 < y15.1))
 (.call (ae8 ((d.1, d.2.1, d.2.2.1, ()), ())) Dz3 fun y16 =>
 .need (y16.1 ≠ 0) <| .need ((List.length i4.2.1 + 1) * 16 ≤ 140737488355328) <| .tt <| .lt (w64 (i4.1 + 1) : Int) fun z38 => .lt (List.take (List.length i4.2.1) i4.2.1 ++ [(1, Int.tmod i4.1 y16.1, ())] : List xX) fun z39 => .need ((((5) = (5)) ∧ (((0) = (0)) ∧ ((List.length i4.2.1 + 1 = List.length z39) ∧ ((true) = (true))))) ∧ ((z38 : Int) = z38) ∧ (((0) = (0)) ∧ (((0) = (0)) ∧ ((true) = (true)))) ∧ True) <| .xC (xB (xR 126 z39) <| xB (xD 38 d.1 d.2.1 d.2.2.1) True) <| .ok (.inl ((z38, z39, ()))))
 (.loop 9 (.tt <| .lt (i4.2.1 : List xX) fun z40 => .lt (i4.1 : Int) fun z41 => .xC (xK z41 <| (xT 10 0 (List.length z40) true) ∧ wb ∧ True) <| .xC (xB (xR 126 z40) <| xB (xD 38 d.1 d.2.1 d.2.2.1) True) <| .ok ((z40, z41, ()))) (ajT d j4 i4 y15))
def alF (d : Int × Int × List xX × Unit) (j4 : Bool × (List xX) × (Int) × Unit) : TT (List xX × Unit) :=
 .ite (j4.1)
 (.loop 7 (.tt <| .lt (j4.2.2.1 : Int) fun z22 => .xC (True ∧ (xK z22 <| wb ∧ True)) <| .xC (xB (xD 38 d.1 d.2.1 d.2.2.1) True) <| .ok ((z22, true, [], ()))) (alE d j4))
 (.loop 10 (.tt <| .lt (j4.2.2.1 : Int) fun z36 => .lt (j4.2.1 : List xX) fun z37 => .xC ((xT 5 0 (List.length z37) true) ∧ (xK z36 <| wb ∧ True)) <| .xC (xB (xR 126 z37) <| xB (xD 38 d.1 d.2.1 d.2.2.1) True) <| .ok ((z36, z37, ()))) (ajU d j4))
def ad3 (d : Int × Int × List xX × Unit) : TT (List xX × Unit) :=
 .join 0 (ι := Bool × (List xX) × (Int) × Unit) (.loop 1 (.tt <| .xC (True ∧ (xO (0 : Int) (0 : Int) <| wb ∧ True)) <| .xC (xB (xD 38 d.1 d.2.1 d.2.2.1) True) <| .ok ((0, 0, true, [], ()))) (at5 d)) (alF d)
end
def WP {α : Type} (t : TT α) (P : α → Prop) : Prop := ∃ y, t.toO = some y ∧ P y
section
variable {α β ι : Type} {P : α → Prop}
theorem aaP {a : α} (h : P a) : WP (.ok a) P := ⟨a, rfl, h⟩
theorem aaL {b : Bool} {x y : TT α} (h1 : b = true → WP x P) (h2 : b = false → WP y P) : WP (.ite b x y) P := by
 cases b
 ·obtain ⟨r, e, q⟩ := h2 rfl; exact ⟨r, uF rfl e, q⟩
 ·obtain ⟨r, e, q⟩ := h1 rfl; exact ⟨r, uT rfl e, q⟩
theorem aaF {p : Prop} {x : TT α} (hp : p) (h : WP x P) : WP (.need p x) P := by obtain ⟨r, e, q⟩ := h; exact ⟨r, uN hp e, q⟩
theorem aaA {p : Prop} {hp : p} {x : TT α} (h : WP x P) : WP (.triv p hp x) P := by obtain ⟨r, e, q⟩ := h; exact ⟨r, uV e, q⟩
theorem aaQ {b : β} {x : β → TT α} (h : WP (x b) P) : WP (.lt b x) P := by obtain ⟨r, e, q⟩ := h; exact ⟨r, uB e, q⟩
theorem aaN {o : Option β} {d : β} {x : β → TT α} (y : β) (ho : o = some y) (h : WP (x y) P) : WP (.call o d x) P := by obtain ⟨r, e, q⟩ := h; exact ⟨r, uC y ho e, q⟩
theorem anM {t : Nat} {H : TT (ι ⊕ α)} {R : ι → TT α} (Q : ι → Prop) (h : WP H fun s => match s with | .inl i => Q i | .inr a => P a) (hR : ∀ i, Q i → WP (R i) P) : WP (.join t H R) P := by
 obtain ⟨s, e, q⟩ := h
 cases s with
 | inl i => obtain ⟨r, e', q'⟩ := hR i q; exact ⟨r, uL i e e', q'⟩
 | inr a => exact ⟨a, uR a e, q⟩
theorem adY {t : Nat} {H : TT ι} {R : ι → TT (ι ⊕ α)} (I : ι → Prop) (μ : ι → Nat) (h : WP H I) (hR : ∀ i, I i → WP (R i) fun s => match s with | .inl j => I j ∧ μ j < μ i | .inr a => P a) : WP (.loop t H R) P := by
 obtain ⟨i, e, q⟩ := h
 obtain ⟨a, h1, h2⟩ := af6 (R := fun i => (R i).toO) I μ P (fun i hi => by
  obtain ⟨s, e, q⟩ := hR i hi
  cases s with
  | inl j => exact Or.inl ⟨j, e, q⟩
  | inr a => exact Or.inr ⟨a, e, q⟩) i q
 exact ⟨a, uO i e h1, h2⟩
theorem aLo {Q : α → Prop} {x : TT α} (h : WP x P) (hpq : ∀ a, P a → Q a) : WP x Q := by obtain ⟨r, e, q⟩ := h; exact ⟨r, e, hpq r q⟩
end
def PgOk (I : Int) (p : List OpT) (n : Int) : Prop := ∃ m, abI I p 0 0 = some (n, m) ∧ m ≤ 9
theorem auO {I : Int} : ∀ {p q : List OpT} {n m : Int}, abI I (p ++ q) n m = (abI I p n m).bind fun s => abI I q s.1 s.2
 | [], _, _, _ => rfl
 | o :: r, q, n, m => by
  show abI I (o :: (r ++ q)) n m = _
  simp only [abI]
  split
  ·exact auO
  ·rfl
theorem PgOk.nil (I : Int) : PgOk I [] 0 := ⟨0, rfl, by omega⟩
theorem PgOk.step {I : Int} {p : List OpT} {n : Int} (h : PgOk I p n) {c a k : Int} (hk : aaM c = k) (h0 : 0 ≤ k) (h1 : k ≤ n) (ha : acQ (c, a, ()) I n) (h9 : n - k + 1 ≤ 9) : PgOk I (p ++ [(c, a, ())]) (n - k + 1) := by
 obtain ⟨m, e, hm⟩ := h
 subst hk
 refine ⟨if n - aaM c + 1 > m then n - aaM c + 1 else m, ?_, by split <;> omega⟩
 rw [auO, e]
 show abI I [(c, a, ())] n m = _
 simp only [abI]
 rw [if_pos ⟨h0, h1, ha⟩]
theorem ax9 (c : Int) : -1 ≤ aaM c ∧ aaM c ≤ 3 := by unfold aaM; split <;> (try split) <;> (try split) <;> (try split) <;> omega
theorem amX {c : Int} (h1 : 1 ≤ c) (h2 : c ≤ 12) : 0 ≤ aaM c := by
 unfold aaM
 split
 ·omega
 ·split
  ·omega
  ·split
   ·omega
   ·rename_i a b c'
    have : ¬ (3 ≤ c ∧ c ≤ 7) := c'
    rw [if_pos zc]; omega
theorem ao5 (c : Int) : ab1 (c, ()) = some (aaM c, ()) := rfl
theorem adJ {a k : Int} (hk : 0 < k) (ha : 0 ≤ a) : 0 ≤ Int.tmod a k ∧ Int.tmod a k < k := by
 rw [zU ha]; exact ⟨yW _ zc, yJ _ hk⟩
theorem aFu {a : Int} (h : 0 ≤ a) (h' : a ≤ 255) : w64 (1 + w64 (Int.tmod a 3)) = 1 + Int.tmod a 3 ∧ 0 ≤ Int.tmod a 3 ∧ Int.tmod a 3 ≤ 2 := by
 have := adJ (a := a) (k := 3) zc h
 refine ⟨?_, this.1, by omega⟩
 rw [aaD (x := Int.tmod a 3) ⟨by omega, by omega⟩, aaD ⟨by omega, by omega⟩]
def shM {α : Type} (l : List α) : Prop := l.length ≤ 140737488355328
def wfP (d : PgT) : Prop := (0 ≤ d.1 ∧ d.1 ≤ 255) ∧ (0 ≤ d.2.1 ∧ d.2.1 ≤ 255) ∧ shM d.2.2.1 ∧ ∀ s ∈ d.2.2.1, (0 ≤ s.1 ∧ s.1 ≤ 255) ∧ -32768 ≤ s.2.1 ∧ s.2.1 ≤ 32767
def PgI (q : Int) (k : Nat) (p : List OpT) (n : Int) : Prop := 0 ≤ n ∧ n ≤ 9 ∧ p.length ≤ k ∧ (0 < k → True) ∧ ∀ I, q ≤ I → PgOk I p n
theorem aIE (a : Int) : 0 ≤ w64 (IntKind.wrap IntKind.u16 (w64 a)) := by
 have e : IntKind.wrap .u16 (w64 a) = w64 a % 65536 := rfl
 rw [e, aaD ⟨by omega, by omega⟩]; omega
def Sel (n c : Int) : Prop := 1 ≤ c ∧ c ≤ 12 ∧ aaM c ≤ n ∧ (8 < n → aaM c ≠ 0) ∧ (c = 11 → n ≠ 0)
def aFm (q n c a : Int) : Prop := ∀ I, q ≤ I → acQ (c, a, ()) I n
theorem aMg {n : Int} (h : 8 < n) : Sel n 3 := ⟨by omega, by omega, by rw [show aaM 3 = 2 from rfl]; omega, fun _ => by decide, fun h => by omega⟩
theorem aMh {n : Int} (h : 0 ≤ n) (h' : ¬ 8 < n) : Sel n 1 := ⟨by omega, by omega, by rw [show aaM 1 = 0 from rfl]; omega, fun h => absurd h h', fun h => by omega⟩
theorem at0 (d : PgT) (hw : wfP d) : WP (ad3 d) fun y => y.1.length ≤ 30 ∧ ∀ I, 1 + Int.tmod d.1 3 ≤ I → PgOk I y.1 (1 + Int.tmod d.2.1 3) := by
 obtain ⟨di, dO, ss, u⟩ := d
 obtain ⟨hi, ho, hl, hs⟩ := hw
 dsimp only at hi ho hl hs ⊢
 have hl' : ss.length ≤ 140737488355328 := hl
 obtain ⟨q1, q2, q3⟩ := aFu hi.1 hi.2
 obtain ⟨o1, o2, o3⟩ := aFu ho.1 ho.2
 have LI : ae8 ((di, dO, ss, ()), ()) = some (1 + Int.tmod di 3, ()) := by rw [← q1]; rfl
 have LO : aaV ((di, dO, ss, ()), ()) = some (1 + Int.tmod dO 3, ()) := by rw [← o1]; rfl
 generalize Int.tmod di 3 = q at *
 generalize Int.tmod dO 3 = o at *
 unfold ad3
 refine anM (fun j => PgI (1 + q) 12 j.2.1 j.2.2.1 ∧ (j.1 = true → j.2.1 = [] ∧ j.2.2.1 = 0)) ?_ ?_
 ·-- the draft's steps
  refine adY (fun i => ∃ k : Nat, i.1 = k ∧ k ≤ ss.length ∧ k ≤ 12 ∧ PgI (1 + q) k i.2.2.2.1 i.2.1 ∧ (i.2.2.1 = true → i.2.2.2.1 = [] ∧ i.2.1 = 0)) (fun i => ss.length - i.1.toNat) (aaA (aaA (aaA (aaP ⟨0, rfl, zA _, by omega, ⟨by dsimp only; omega, by dsimp only; omega, by simp, fun _ => trivial, fun I _ => PgOk.nil I⟩, fun _ => ⟨rfl, rfl⟩⟩)))) ?_
  intro i hi
  obtain ⟨i, n, f, p, v⟩ := i
  obtain ⟨k, e, hk, hk2, ⟨hn0, hn9, hpl, -, hp⟩, hf⟩ := hi
  dsimp only at e hn0 hn9 hpl hp hf
  subst e
  have hsk : k < ss.length → (0 ≤ (ss.getD k (0, 0, ())).1 ∧ (ss.getD k (0, 0, ())).1 ≤ 255) := fun h => (hs _ (aa3 h _)).1
  have hc : k < ss.length → ∃ c0, w64 (1 + w64 (Int.tmod (gi ss (k : Int) (0, 0, ())).1 12)) = c0 ∧ 1 ≤ c0 ∧ c0 ≤ 12 := by
   intro h
   have := adJ (a := (ss.getD k (0, 0, ())).1) (k := 12) zc (hsk h).1
   rw [aaI]
   exact ⟨_, rfl, by rw [aaD (x := Int.tmod _ _) ⟨by omega, by omega⟩, aaD ⟨by omega, by omega⟩]; omega, by rw [aaD (x := Int.tmod _ _) ⟨by omega, by omega⟩, aaD ⟨by omega, by omega⟩]; omega⟩
  have hwk : w64 ((k : Int) + 1) = ((k + 1 : Nat) : Int) := (aaD ⟨by omega, by omega⟩).trans zc
  cases f with
  | true =>
   obtain ⟨ep, en⟩ := hf rfl
   subst ep
   refine aaL (fun _ => ?_) (fun h => by cases h)
   refine aaL (fun h1 => ?_) (fun _ => ?_)
   ·have hkl : k < ss.length := by have := of_decide_eq_true h1; rw [aaB] at this; dsimp only at this; omega
    obtain ⟨c0, ec, c1, c2⟩ := hc hkl
    refine aaL (fun h2 => ?_) (fun _ => ?_)
    ·have hk12 : k < 12 := by have := of_decide_eq_true h2; omega
     refine aaF ⟨by omega, by rw [aaB]; dsimp only; omega⟩ (aaA (anM (fun j => Sel n j.1) ?_ ?_))
     ·rw [ec]
      have ht := amX c1 c2
      refine aaN _ (ao5 c0) (aaL (fun a => ?_) (fun a => aaL (fun b => ?_) (fun b => aaL (fun e => ?_) (fun e => ?_))))
      ·refine aaL (fun e => ?_) (fun e => ?_)
       ·exact aaA (aaA (aaA (aaP (aMg (of_decide_eq_true e)))))
       ·exact aaA (aaA (aaA (aaP (aMh hn0 (of_decide_eq_false e)))))
      ·refine aaL (fun e => ?_) (fun e => ?_)
       ·exact aaA (aaA (aaA (aaP (aMg (of_decide_eq_true e)))))
       ·exact aaA (aaA (aaA (aaP (aMh hn0 (of_decide_eq_false e)))))
      ·refine aaN _ (ao5 c0) (aaL (fun g => ?_) (fun g => ?_))
       ·refine aaL (fun e => ?_) (fun e => ?_)
        ·exact aaA (aaA (aaA (aaP (aMg (of_decide_eq_true e)))))
        ·exact aaA (aaA (aaA (aaP (aMh hn0 (of_decide_eq_false e)))))
       ·have a' := of_decide_eq_false a
        dsimp only at a' g
        exact aaA (aaQ (aaA (aaA (aaP (by first | exact (show Sel n c0 from ⟨c1, c2, by omega, fun _ => by simpa using g, fun _ => by simpa using b⟩) | (show Sel n (w64 (1 + w64 (Int.tmod (gi ss (k : Int) (0, 0, ())).1 12))); rw [ec]; exact (show Sel n c0 from ⟨c1, c2, by omega, fun _ => by simpa using g, fun _ => by simpa using b⟩)))))))
      ·have a' := of_decide_eq_false a
       have e' := of_decide_eq_false e
       dsimp only at a' e'
       exact aaA (aaQ (aaA (aaA (aaP (by first | exact (show Sel n c0 from ⟨c1, c2, by omega, fun h => absurd h e', fun _ => by simpa using b⟩) | (show Sel n (w64 (1 + w64 (Int.tmod (gi ss (k : Int) (0, 0, ())).1 12))); rw [ec]; exact (show Sel n c0 from ⟨c1, c2, by omega, fun h => absurd h e', fun _ => by simpa using b⟩)))))))
     ·intro j hj
      obtain ⟨c, w⟩ := j
      obtain ⟨s1, s2, s3, s4, s5⟩ := hj
      dsimp only at s1 s2 s3 s4 s5
      refine aaF ⟨by omega, by rw [aaB]; dsimp only; omega⟩ (anM (fun a => aFm (1 + q) n c a.1) ?_ ?_)
      ·refine aaL (fun a => ?_) (fun a => aaL (fun b => ?_) (fun b => aaL (fun e => ?_) (fun e => ?_)))
       ·refine aaN _ LI (aaF zg (aaA (aaQ (aaA (aaA (aaP (show aFm (1 + q) n c _ from fun I hI => ?_)))))))
        have ea : c = 1 := by simpa using a
        have := adJ (k := 1 + q) zc (aIE (gi ss (k : Int) (0, 0, ())).2.1)
        unfold acQ
        rw [if_pos ea]
        exact ⟨this.1, by dsimp only; omega⟩
       ·refine aaA (aaQ (aaA (aaA (aaP (show aFm (1 + q) n c _ from fun I hI => ?_)))))
        have ea : ¬ c = 1 := by simpa using a
        have eb : c = 2 := by simpa using b
        have := (hs _ (aa3 hkl (0, 0, ()))).2
        unfold acQ
        rw [if_neg ea, if_pos eb, aaI]
        dsimp only
        rw [aaD (x := (ss.getD k (0, 0, ())).2.1) ⟨by omega, by omega⟩, aaD ⟨by omega, by omega⟩]
        exact ⟨by omega, by omega⟩
       ·have ea : ¬ c = 1 := by simpa using a
        have eb : ¬ c = 2 := by simpa using b
        have ee : c = 11 := by simpa using e
        refine aaF (s5 ee) (aaA (aaQ (aaA (aaA (aaP (show aFm (1 + q) n c _ from fun I hI => ?_))))))
        have := adJ (k := n) (by have := s5 ee; omega) (aIE (gi ss (k : Int) (0, 0, ())).2.1)
        unfold acQ
        rw [if_neg ea, if_neg eb, if_pos ee]
        exact this
       ·have ea : ¬ c = 1 := by simpa using a
        have eb : ¬ c = 2 := by simpa using b
        have ee : ¬ c = 11 := by simpa using e
        refine aaA (aaA (aaA (aaP (show aFm (1 + q) n c _ from fun I hI => ?_))))
        unfold acQ
        rw [if_neg ea, if_neg eb, if_neg ee]
      ·intro a ha
       obtain ⟨a, w'⟩ := a
       have ha : aFm (1 + q) n c a := ha
       have ht := amX s1 s2
       have ht3 := (ax9 c).2
       have e2 : w64 (w64 (n - aaM c) + 1) = n - aaM c + 1 := by rw [aaD (x := n - aaM c) ⟨by omega, by omega⟩, aaD ⟨by omega, by omega⟩]
       have h9 : n - aaM c + 1 ≤ 9 := by
        by_cases g : 8 < n
        ·have := s4 g; omega
        ·omega
       refine aaF zc (aaN _ (ao5 c) (aaA (aaQ (aaQ (aaQ (aaA (aaA (aaP ?_))))))))
       refine ⟨⟨k + 1, hwk, by omega, by omega, ⟨?_, ?_, by simp, fun _ => trivial, fun I hI => ?_⟩, fun h => by cases h⟩, ?_⟩
       ·show 0 ≤ w64 (w64 (n - aaM c) + 1); rw [e2]; omega
       ·show w64 (w64 (n - aaM c) + 1) ≤ 9; rw [e2]; omega
       ·show PgOk I ([] ++ [(c, a, ())]) (w64 (w64 (n - aaM c) + 1)); rw [e2]; exact (hp I hI).step rfl ht s3 (ha I hI) h9
       ·show ss.length - (w64 ((k : Int) + 1)).toNat < ss.length - ((k : Int)).toNat; rw [hwk]; omega
    ·exact aaA (aaQ (aaA (aaA (aaP ⟨⟨hn0, hn9, by simp, fun _ => trivial, hp⟩, fun _ => ⟨rfl, en⟩⟩))))
   ·exact aaA (aaQ (aaA (aaA (aaP ⟨⟨hn0, hn9, by simp, fun _ => trivial, hp⟩, fun _ => ⟨rfl, en⟩⟩))))
  | false =>
   refine aaL (fun h => by cases h) (fun _ => ?_)
   refine aaL (fun h1 => ?_) (fun _ => ?_)
   ·have hkl : k < ss.length := by have := of_decide_eq_true h1; rw [aaB] at this; dsimp only at this; omega
    obtain ⟨c0, ec, c1, c2⟩ := hc hkl
    refine aaL (fun h2 => ?_) (fun _ => ?_)
    ·have hk12 : k < 12 := by have := of_decide_eq_true h2; omega
     refine aaF ⟨by omega, by rw [aaB]; dsimp only; omega⟩ (aaA (anM (fun j => Sel n j.1) ?_ ?_))
     ·rw [ec]
      have ht := amX c1 c2
      refine aaN _ (ao5 c0) (aaL (fun a => ?_) (fun a => aaL (fun b => ?_) (fun b => aaL (fun e => ?_) (fun e => ?_))))
      ·refine aaL (fun e => ?_) (fun e => ?_)
       ·exact aaA (aaA (aaA (aaP (aMg (of_decide_eq_true e)))))
       ·exact aaA (aaA (aaA (aaP (aMh hn0 (of_decide_eq_false e)))))
      ·refine aaL (fun e => ?_) (fun e => ?_)
       ·exact aaA (aaA (aaA (aaP (aMg (of_decide_eq_true e)))))
       ·exact aaA (aaA (aaA (aaP (aMh hn0 (of_decide_eq_false e)))))
      ·refine aaN _ (ao5 c0) (aaL (fun g => ?_) (fun g => ?_))
       ·refine aaL (fun e => ?_) (fun e => ?_)
        ·exact aaA (aaA (aaA (aaP (aMg (of_decide_eq_true e)))))
        ·exact aaA (aaA (aaA (aaP (aMh hn0 (of_decide_eq_false e)))))
       ·have a' := of_decide_eq_false a
        dsimp only at a' g
        exact aaA (aaQ (aaA (aaA (aaP (by first | exact (show Sel n c0 from ⟨c1, c2, by omega, fun _ => by simpa using g, fun _ => by simpa using b⟩) | (show Sel n (w64 (1 + w64 (Int.tmod (gi ss (k : Int) (0, 0, ())).1 12))); rw [ec]; exact (show Sel n c0 from ⟨c1, c2, by omega, fun _ => by simpa using g, fun _ => by simpa using b⟩)))))))
      ·have a' := of_decide_eq_false a
       have e' := of_decide_eq_false e
       dsimp only at a' e'
       exact aaA (aaQ (aaA (aaA (aaP (by first | exact (show Sel n c0 from ⟨c1, c2, by omega, fun h => absurd h e', fun _ => by simpa using b⟩) | (show Sel n (w64 (1 + w64 (Int.tmod (gi ss (k : Int) (0, 0, ())).1 12))); rw [ec]; exact (show Sel n c0 from ⟨c1, c2, by omega, fun h => absurd h e', fun _ => by simpa using b⟩)))))))
     ·intro j hj
      obtain ⟨c, w⟩ := j
      obtain ⟨s1, s2, s3, s4, s5⟩ := hj
      dsimp only at s1 s2 s3 s4 s5
      refine aaF ⟨by omega, by rw [aaB]; dsimp only; omega⟩ (anM (fun a => aFm (1 + q) n c a.1) ?_ ?_)
      ·refine aaL (fun a => ?_) (fun a => aaL (fun b => ?_) (fun b => aaL (fun e => ?_) (fun e => ?_)))
       ·refine aaN _ LI (aaF zg (aaA (aaQ (aaA (aaA (aaP (show aFm (1 + q) n c _ from fun I hI => ?_)))))))
        have ea : c = 1 := by simpa using a
        have := adJ (k := 1 + q) zc (aIE (gi ss (k : Int) (0, 0, ())).2.1)
        unfold acQ
        rw [if_pos ea]
        exact ⟨this.1, by dsimp only; omega⟩
       ·refine aaA (aaQ (aaA (aaA (aaP (show aFm (1 + q) n c _ from fun I hI => ?_)))))
        have ea : ¬ c = 1 := by simpa using a
        have eb : c = 2 := by simpa using b
        have := (hs _ (aa3 hkl (0, 0, ()))).2
        unfold acQ
        rw [if_neg ea, if_pos eb, aaI]
        dsimp only
        rw [aaD (x := (ss.getD k (0, 0, ())).2.1) ⟨by omega, by omega⟩, aaD ⟨by omega, by omega⟩]
        exact ⟨by omega, by omega⟩
       ·have ea : ¬ c = 1 := by simpa using a
        have eb : ¬ c = 2 := by simpa using b
        have ee : c = 11 := by simpa using e
        refine aaF (s5 ee) (aaA (aaQ (aaA (aaA (aaP (show aFm (1 + q) n c _ from fun I hI => ?_))))))
        have := adJ (k := n) (by have := s5 ee; omega) (aIE (gi ss (k : Int) (0, 0, ())).2.1)
        unfold acQ
        rw [if_neg ea, if_neg eb, if_pos ee]
        exact this
       ·have ea : ¬ c = 1 := by simpa using a
        have eb : ¬ c = 2 := by simpa using b
        have ee : ¬ c = 11 := by simpa using e
        refine aaA (aaA (aaA (aaP (show aFm (1 + q) n c _ from fun I hI => ?_))))
        unfold acQ
        rw [if_neg ea, if_neg eb, if_neg ee]
      ·intro a ha
       obtain ⟨a, w'⟩ := a
       have ha : aFm (1 + q) n c a := ha
       have ht := amX s1 s2
       have ht3 := (ax9 c).2
       have e2 : w64 (w64 (n - aaM c) + 1) = n - aaM c + 1 := by rw [aaD (x := n - aaM c) ⟨by omega, by omega⟩, aaD ⟨by omega, by omega⟩]
       have h9 : n - aaM c + 1 ≤ 9 := by
        by_cases g : 8 < n
        ·have := s4 g; omega
        ·omega
       have etk : List.take (List.length p) p = p := zB
       refine aaF (by show (p.length + 1) * 16 ≤ 140737488355328; omega) (aaN _ (ao5 c) (aaA (aaQ (aaQ (aaQ (aaF ⟨⟨rfl, rfl, by simp, rfl⟩, rfl, rfl, ⟨rfl, rfl, rfl⟩, trivial⟩ (aaA (aaP ?_))))))))
       refine ⟨⟨k + 1, hwk, by omega, by omega, ⟨?_, ?_, by show (List.take p.length p ++ [(c, a, ())]).length ≤ k + 1; rw [etk]; simp; omega, fun _ => trivial, fun I hI => ?_⟩, fun h => by cases h⟩, ?_⟩
       ·show 0 ≤ w64 (w64 (n - aaM c) + 1); rw [e2]; omega
       ·show w64 (w64 (n - aaM c) + 1) ≤ 9; rw [e2]; omega
       ·show PgOk I (List.take p.length p ++ [(c, a, ())]) (w64 (w64 (n - aaM c) + 1)); rw [e2, etk]; exact (hp I hI).step rfl ht s3 (ha I hI) h9
       ·show ss.length - (w64 ((k : Int) + 1)).toNat < ss.length - ((k : Int)).toNat; rw [hwk]; omega
    ·exact aaA (aaQ (aaQ (aaA (aaA (aaP ⟨⟨hn0, hn9, by dsimp only; omega, fun _ => trivial, hp⟩, fun h => by cases h⟩)))))
   ·exact aaA (aaQ (aaQ (aaA (aaA (aaP ⟨⟨hn0, hn9, by dsimp only; omega, fun _ => trivial, hp⟩, fun h => by cases h⟩)))))
 ·intro j hj
  obtain ⟨f, p, n, v⟩ := j
  obtain ⟨⟨hn0, hn9, hpl, -, hp⟩, hf⟩ := hj
  dsimp only at hn0 hn9 hpl hp hf
  have hpush : ∀ (p : List OpT) (n : Int), 0 ≤ n → n ≤ 2 → (∀ I, 1 + q ≤ I → PgOk I p n) → ∀ I, 1 + q ≤ I → PgOk I (p ++ [(1, Int.tmod n (1 + q), ())]) (n + 1) := by
   intro p n h0 h2 hp I hI
   have ht := adJ (a := n) (k := 1 + q) zc h0
   have := (hp I hI).step (c := 1) (a := Int.tmod n (1 + q)) (k := 0) rfl zc h0 (by unfold acQ; rw [if_pos rfl]; exact ⟨ht.1, by dsimp only; omega⟩) zc
   rwa [show n - 0 + 1 = n + 1 by omega] at this
  have hpop : ∀ (p : List OpT) (n : Int), 2 ≤ n → n ≤ 9 → (∀ I, 1 + q ≤ I → PgOk I p n) → ∀ I, 1 + q ≤ I → PgOk I (p ++ [(3, 0, ())]) (n - 1) := by
   intro p n h2 h9 hp I hI
   have := (hp I hI).step (c := 3) (a := 0) (k := 2) rfl zc h2 rfl zc
   rwa [show n - 2 + 1 = n - 1 by omega] at this
  unfold alF
  cases f with
  | true =>
   refine aaL (fun _ => ?_) (fun h => by cases h)
   refine adY (fun i : Int × Bool × List OpT × Unit => 0 ≤ i.1 ∧ i.1 ≤ 9 ∧ (i.2.2.1.length : Int) ≤ 12 + i.1 ∧ (∀ I, 1 + q ≤ I → PgOk I i.2.2.1 i.1) ∧ (i.2.1 = true → i.2.2.1 = [])) (fun i => (10 - i.1).toNat) (aaA (aaQ (aaA (aaA (aaP ⟨hn0, hn9, by simp; omega, by obtain ⟨rfl, rfl⟩ := hf rfl; exact hp, fun _ => rfl⟩))))) ?_
   intro i hi
   obtain ⟨n, f, p, w⟩ := i
   obtain ⟨hn0, hn9, hpl, hp, hf⟩ := hi
   dsimp only at hn0 hn9 hpl hp hf
   unfold alE
   cases f with
   | true =>
    have ep := hf rfl
    subst ep
    refine aaL (fun _ => ?_) (fun h => by cases h)
    refine aaN _ LO (aaL (fun a => ?_) (fun a => ?_))
    ·have a' : n < 1 + o := of_decide_eq_true a
     have en : w64 (n + 1) = n + 1 := aaD ⟨by omega, by omega⟩
     refine aaN _ LI (aaF zg (aaF zc (aaA (aaQ (aaQ (aaA (aaA (aaP ⟨⟨?_, ?_, ?_, ?_, fun h => by cases h⟩, ?_⟩))))))))
     ·show 0 ≤ w64 (n + 1); omega
     ·show w64 (n + 1) ≤ 9; omega
     ·show ((1 : Nat) : Int) ≤ 12 + w64 (n + 1); omega
     ·show ∀ I, 1 + q ≤ I → PgOk I ([] ++ [(1, Int.tmod n (1 + q), ())]) (w64 (n + 1)); rw [en]; exact hpush [] n hn0 zc hp
     ·show (10 - w64 (n + 1)).toNat < (10 - n).toNat; omega
    ·have a' : ¬ n < 1 + o := of_decide_eq_false a
     refine adY (fun i : Bool × List OpT × Int × Unit => (1 + o ≤ i.2.2.1 ∧ i.2.2.1 ≤ 9 ∧ (i.2.1.length : Int) + i.2.2.1 ≤ 30 ∧ ∀ I, 1 + q ≤ I → PgOk I i.2.1 i.2.2.1) ∧ (i.1 = true → i.2.1 = [])) (fun i => i.2.2.1.toNat) (aaA (aaQ (aaA (aaA (aaP ⟨⟨by dsimp only; omega, hn9, by simp; omega, hp⟩, fun _ => rfl⟩))))) ?_
     intro i hi
     obtain ⟨f, p, n, w⟩ := i
     obtain ⟨⟨h1, h9, hpl, hp⟩, hf⟩ := hi
     dsimp only at h1 h9 hpl hp hf
     unfold alD
     cases f with
     | true =>
      have ep := hf rfl
      subst ep
      refine aaL (fun _ => ?_) (fun h => by cases h)
      refine aaN _ LO (aaL (fun a => ?_) (fun a => ?_))
      ·have a' : n > 1 + o := of_decide_eq_true a
       have en : w64 (n - 1) = n - 1 := aaD ⟨by omega, by omega⟩
       refine aaA (aaA (aaQ (aaQ (aaA (aaA (aaP ⟨⟨?_, fun h => by cases h⟩, ?_⟩))))))
       ·show 1 + o ≤ w64 (n - 1) ∧ w64 (n - 1) ≤ 9 ∧ ((1 : Nat) : Int) + w64 (n - 1) ≤ 30 ∧ ∀ I, 1 + q ≤ I → PgOk I ([] ++ [(3, 0, ())]) (w64 (n - 1))
        rw [en]
        exact ⟨by omega, by omega, by omega, hpop [] n zc h9 hp⟩
       ·show (w64 (n - 1)).toNat < n.toNat
        rw [en]; omega
      ·have a' : ¬ n > 1 + o := of_decide_eq_false a
       have en : n = 1 + o := zc
       subst en
       exact aaP (show ([] : List OpT).length ≤ 30 ∧ ∀ I, 1 + q ≤ I → PgOk I [] (1 + o) from ⟨by simp, hp⟩)
     | false =>
      refine aaL (fun h => by cases h) (fun _ => ?_)
      have etk : List.take (List.length p) p = p := zB
      refine aaN _ LO (aaL (fun a => ?_) (fun a => ?_))
      ·have a' : n > 1 + o := of_decide_eq_true a
       have en : w64 (n - 1) = n - 1 := aaD ⟨by omega, by omega⟩
       refine aaF (by show (p.length + 1) * 16 ≤ 140737488355328; omega) (aaA (aaQ (aaQ (aaF ⟨rfl, ⟨rfl, rfl, by simp, rfl⟩, ⟨rfl, rfl, rfl⟩, trivial⟩ (aaA (aaP ⟨⟨?_, fun h => by cases h⟩, ?_⟩))))))
       ·show 1 + o ≤ w64 (n - 1) ∧ w64 (n - 1) ≤ 9 ∧ ((List.take p.length p ++ [(3, 0, ())] : List OpT).length : Int) + w64 (n - 1) ≤ 30 ∧ ∀ I, 1 + q ≤ I → PgOk I (List.take p.length p ++ [(3, 0, ())]) (w64 (n - 1))
        rw [en, etk]
        exact ⟨by omega, by omega, by rw [zu]; simp; omega, hpop p n zc h9 hp⟩
       ·show (w64 (n - 1)).toNat < n.toNat
        rw [en]; omega
      ·have a' : ¬ n > 1 + o := of_decide_eq_false a
       have en : n = 1 + o := zc
       subst en
       refine aaP ?_
       show (List.take p.length p).length ≤ 30 ∧ ∀ I, 1 + q ≤ I → PgOk I (List.take p.length p) (1 + o)
       rw [etk]
       exact ⟨by omega, hp⟩
   | false =>
    refine aaL (fun h => by cases h) (fun _ => ?_)
    have etk : List.take (List.length p) p = p := zB
    refine aaN _ LO (aaL (fun a => ?_) (fun a => ?_))
    ·have a' : n < 1 + o := of_decide_eq_true a
     have en : w64 (n + 1) = n + 1 := aaD ⟨by omega, by omega⟩
     refine aaN _ LI (aaF zg (aaF (by show (p.length + 1) * 16 ≤ 140737488355328; omega) (aaA (aaQ (aaQ (aaF ⟨⟨rfl, rfl, by simp, rfl⟩, rfl, ⟨rfl, rfl, rfl⟩, trivial⟩ (aaA (aaP ⟨⟨?_, ?_, ?_, ?_, fun h => by cases h⟩, ?_⟩))))))))
     ·show 0 ≤ w64 (n + 1); omega
     ·show w64 (n + 1) ≤ 9; omega
     ·show ((List.take p.length p ++ [(1, Int.tmod n (1 + q), ())] : List OpT).length : Int) ≤ 12 + w64 (n + 1); rw [etk, en, zu]; simp; omega
     ·show ∀ I, 1 + q ≤ I → PgOk I (List.take p.length p ++ [(1, Int.tmod n (1 + q), ())]) (w64 (n + 1)); rw [en, etk]; exact hpush p n hn0 zc hp
     ·show (10 - w64 (n + 1)).toNat < (10 - n).toNat; omega
    ·have a' : ¬ n < 1 + o := of_decide_eq_false a
     refine adY (fun i : List OpT × Int × Unit => 1 + o ≤ i.2.1 ∧ i.2.1 ≤ 9 ∧ (i.1.length : Int) + i.2.1 ≤ 30 ∧ ∀ I, 1 + q ≤ I → PgOk I i.1 i.2.1) (fun i => i.2.1.toNat) (aaA (aaQ (aaQ (aaA (aaA (aaP ⟨by dsimp only; omega, hn9, by dsimp only; omega, hp⟩)))))) ?_
     intro i hi
     obtain ⟨p, n, w⟩ := i
     obtain ⟨h1, h9, hpl, hp⟩ := hi
     dsimp only at h1 h9 hpl hp
     unfold alC
     have etk : List.take (List.length p) p = p := zB
     refine aaN _ LO (aaL (fun a => ?_) (fun a => ?_))
     ·have a' : n > 1 + o := of_decide_eq_true a
      have en : w64 (n - 1) = n - 1 := aaD ⟨by omega, by omega⟩
      refine aaF (by show (p.length + 1) * 16 ≤ 140737488355328; omega) (aaA (aaQ (aaQ (aaF ⟨rfl, ⟨rfl, rfl, by simp, rfl⟩, ⟨rfl, rfl, rfl⟩, trivial⟩ (aaA (aaP ⟨?_, ?_⟩))))))
      ·show 1 + o ≤ w64 (n - 1) ∧ w64 (n - 1) ≤ 9 ∧ ((List.take p.length p ++ [(3, 0, ())] : List OpT).length : Int) + w64 (n - 1) ≤ 30 ∧ ∀ I, 1 + q ≤ I → PgOk I (List.take p.length p ++ [(3, 0, ())]) (w64 (n - 1))
       rw [en, etk]
       exact ⟨by omega, by omega, by rw [zu]; simp; omega, hpop p n zc h9 hp⟩
      ·show (w64 (n - 1)).toNat < n.toNat
       rw [en]; omega
     ·have a' : ¬ n > 1 + o := of_decide_eq_false a
      have en : n = 1 + o := zc
      subst en
      refine aaP ?_
      show (List.take p.length p).length ≤ 30 ∧ ∀ I, 1 + q ≤ I → PgOk I (List.take p.length p) (1 + o)
      rw [etk]
      exact ⟨by omega, hp⟩
  | false =>
   refine aaL (fun h => by cases h) (fun _ => ?_)
   refine adY (fun i : Int × List OpT × Unit => 0 ≤ i.1 ∧ i.1 ≤ 9 ∧ (i.2.1.length : Int) ≤ 12 + i.1 ∧ ∀ I, 1 + q ≤ I → PgOk I i.2.1 i.1) (fun i => (10 - i.1).toNat) (aaA (aaQ (aaQ (aaA (aaA (aaP ⟨hn0, hn9, by dsimp only; omega, hp⟩)))))) ?_
   intro i hi
   obtain ⟨n, p, w⟩ := i
   obtain ⟨hn0, hn9, hpl, hp⟩ := hi
   dsimp only at hn0 hn9 hpl hp
   unfold ajU
   have etk : List.take (List.length p) p = p := zB
   refine aaN _ LO (aaL (fun a => ?_) (fun a => ?_))
   ·have a' : n < 1 + o := of_decide_eq_true a
    have en : w64 (n + 1) = n + 1 := aaD ⟨by omega, by omega⟩
    refine aaN _ LI (aaF zg (aaF (by show (p.length + 1) * 16 ≤ 140737488355328; omega) (aaA (aaQ (aaQ (aaF ⟨⟨rfl, rfl, by simp, rfl⟩, rfl, ⟨rfl, rfl, rfl⟩, trivial⟩ (aaA (aaP ⟨⟨?_, ?_, ?_, ?_⟩, ?_⟩))))))))
    ·show 0 ≤ w64 (n + 1); omega
    ·show w64 (n + 1) ≤ 9; omega
    ·show ((List.take p.length p ++ [(1, Int.tmod n (1 + q), ())] : List OpT).length : Int) ≤ 12 + w64 (n + 1); rw [etk, en, zu]; simp; omega
    ·show ∀ I, 1 + q ≤ I → PgOk I (List.take p.length p ++ [(1, Int.tmod n (1 + q), ())]) (w64 (n + 1)); rw [en, etk]; exact hpush p n hn0 zc hp
    ·show (10 - w64 (n + 1)).toNat < (10 - n).toNat; omega
   ·have a' : ¬ n < 1 + o := of_decide_eq_false a
    refine adY (fun i : List OpT × Int × Unit => 1 + o ≤ i.2.1 ∧ i.2.1 ≤ 9 ∧ (i.1.length : Int) + i.2.1 ≤ 30 ∧ ∀ I, 1 + q ≤ I → PgOk I i.1 i.2.1) (fun i => i.2.1.toNat) (aaA (aaQ (aaQ (aaA (aaA (aaP ⟨by dsimp only; omega, hn9, by dsimp only; omega, hp⟩)))))) ?_
    intro i hi
    obtain ⟨p, n, w⟩ := i
    obtain ⟨h1, h9, hpl, hp⟩ := hi
    dsimp only at h1 h9 hpl hp
    unfold ajT
    have etk : List.take (List.length p) p = p := zB
    refine aaN _ LO (aaL (fun a => ?_) (fun a => ?_))
    ·have a' : n > 1 + o := of_decide_eq_true a
     have en : w64 (n - 1) = n - 1 := aaD ⟨by omega, by omega⟩
     refine aaF (by show (p.length + 1) * 16 ≤ 140737488355328; omega) (aaA (aaQ (aaQ (aaF ⟨rfl, ⟨rfl, rfl, by simp, rfl⟩, ⟨rfl, rfl, rfl⟩, trivial⟩ (aaA (aaP ⟨?_, ?_⟩))))))
     ·show 1 + o ≤ w64 (n - 1) ∧ w64 (n - 1) ≤ 9 ∧ ((List.take p.length p ++ [(3, 0, ())] : List OpT).length : Int) + w64 (n - 1) ≤ 30 ∧ ∀ I, 1 + q ≤ I → PgOk I (List.take p.length p ++ [(3, 0, ())]) (w64 (n - 1))
      rw [en, etk]
      exact ⟨by omega, by omega, by rw [zu]; simp; omega, hpop p n zc h9 hp⟩
     ·show (w64 (n - 1)).toNat < n.toNat
      rw [en]; omega
    ·have a' : ¬ n > 1 + o := of_decide_eq_false a
     have en : n = 1 + o := zc
     subst en
     refine aaP ?_
     show (List.take p.length p).length ≤ 30 ∧ ∀ I, 1 + q ≤ I → PgOk I (List.take p.length p) (1 + o)
     rw [etk]
     exact ⟨by omega, hp⟩
set_option maxRecDepth 100000
open Go Go.Vg Go.Proofs
noncomputable section
def aBx : LTab := [(320, 58, 9217, ⟨0, (Int) × (Int) × (List Int) × Unit, .dat (.s 6) xW <| .dat (.s 1) xW <| .row 3 xW <| .nil, [5, 4, 0], [3], 0⟩)]
def apG (size : List Int) (n : Int) (i : (Int) × (Int) × (List Int) × Unit) : TT (wN ⊕ (List Int × Unit)) :=
 .ite (decide (i.1 ≥ 0))
 (.need (inb i.1 (len size)) <| .need (gi size i.1 0 ≠ 0) <| .need (inb i.1 (↑(Int.toNat (len size)) : Int)) <| .need (inb i.1 (len size)) <| .need (gi size i.1 0 ≠ 0) <| .tt <| .lt (w64 (i.1 - 1) : Int) fun z2 => .lt (w64 (Int.tdiv i.2.1 (gi size i.1 0)) : Int) fun z3 => .lt (List.set i.2.2.1 (0 + Int.toNat i.1) (Int.tmod i.2.1 (gi size i.1 0)) : List Int) fun z4 => .xC (xO z3 z2 <| (xT 3 0 (Int.toNat (len size)) true) ∧ True ∧ xQ size) <| .xC (xB (xR 3 z4) True) <| .ok (.inl ((z2, z3, z4, ()))))
 (.ok (.inr ((List.take (Int.toNat (len size)) i.2.2.1, ()))))
def af0 (size : List Int) (n : Int) : TT (List Int × Unit) :=
 .need (0 ≤ len size ∧ len size ≤ len size ∧ len size * (↑8 : Int) ≤ 140737488355328) <| .loop 0 (.tt <| .lt (w64 (len size - 1) : Int) fun z => .lt (List.replicate (Int.toNat (len size)) 0 : List Int) fun z1 => .xC (xO n z <| (xT 3 0 (Int.toNat (len size)) true) ∧ True ∧ xQ size) <| .xC (xB (xR 3 z1) True) <| .ok ((z, n, z1, ()))) (apG size n)
end
noncomputable def aaZ (x : PgT × Unit) : Option (List OpT × Unit) := (ad3 x.1).toO
noncomputable def aeV (x : List Int × Int × Unit) : Option (List Int × Unit) := (af0 x.1 x.2.1).toO
set_option maxRecDepth 100000
open Go Go.Vg Go.Proofs
noncomputable section
def aD2 : LTab := [(226, 58, 7171, ⟨0, (Int) × Bool × (List Int) × Unit, .dat (.s 8) xW <| .appN (.c 5 2) 7 3 xW <| .nil, [7, 6, 3, 1, 2], [5, 1, 0], 1⟩), (226, 7462, 16387, ⟨1, (Int) × Bool × (List Int) × Unit, .dat (.s 10) xW <| .appN (.c 5 2) 16 3 xW <| .nil, [9, 24, 23, 22, 19, 18, 17, 16, 8, 7, 6, 3, 1, 2], [5, 1, 0], 1⟩), (226, 7462, 17411, ⟨2, (Int) × Bool × (List Int) × Unit, .dat (.s 10) xW <| .appN (.c 5 2) 17 3 xW <| .nil, [9, 24, 23, 22, 19, 18, 17, 16, 8, 7, 6, 3, 1, 2], [5, 1, 0], 1⟩), (226, 7462, 17410, ⟨3, (Int) × (List Int) × Unit, .dat (.s 10) xW <| .app (.c 5 2) 17 3 xW <| .nil, [9, 24, 23, 22, 19, 18, 17, 16, 8, 7, 6, 3, 1, 2], [5, 1, 0], 1⟩)]
def arD (d : List Int × Int × List Int × Bool × Unit) (size : List Int) (out0 : Int) (i : Int × Bool × List Int × Unit) (y : Int × Unit) (y1 : List Int × Unit) (i1 : (Int) × Bool × (List Int) × Unit) : TT (wt ⊕ wT) :=
 .ite (i1.2.1)
 (.ite (decide (i1.1 < out0))
 (.ite (decide (len d.2.2.1 > 0))
 (.need (len d.2.2.1 ≠ 0) <| .need (inb (Int.tmod (w64 (w64 (i.1 * out0) + i1.1)) (len d.2.2.1)) (len d.2.2.1)) <| .ite (d.2.2.2.1)
 (.need (len size ≠ 0) <| .need (inb (Int.tmod i1.1 (len size)) (len y1.1)) <| .need (inb (Int.tmod i1.1 (len size)) (len size)) <| .need (w64 (gi size (Int.tmod i1.1 (len size)) 0 - 1) ≠ 0) <| .triv (asT Int 5000 ≠ 0) zd <| .need (1 * 8 ≤ 140737488355328) <| .tt <| .lt (w64 (i1.1 + 1) : Int) fun z => .lt ([w64 (w64 (Int.tdiv (w64 (60000 * gi y1.1 (Int.tmod i1.1 (len size)) 0)) (w64 (gi size (Int.tmod i1.1 (len size)) 0 - 1))) + Int.tmod (w64 (gi d.2.2.1 (Int.tmod (w64 (w64 (i.1 * out0) + i1.1)) (len d.2.2.1)) 0)) 5000)] : List Int) fun z1 => .xC (xM z y1.1 y1.1 i.1 size (decide (i.1 < y.1)) y.1 size <| xO i.1 i.1 <| wv ∧ wa ∧ wb ∧ xL size out0) <| .xC (xB (xR 3 z1) <| xB (xH 79 size out0 <| (xT 17 0 1 true) ∧ True) <| xB wj <| xB (xE 35 d.1 d.2.1 d.2.2.1 d.2.2.2.1) True) <| .ok (.inl ((z, false, z1, ()))))
 (.need (1 * 8 ≤ 140737488355328) <| .tt <| .lt (w64 (i1.1 + 1) : Int) fun z2 => .lt ([w64 (gi d.2.2.1 (Int.tmod (w64 (w64 (i.1 * out0) + i1.1)) (len d.2.2.1)) 0)] : List Int) fun z3 => .xC (xM z2 y1.1 y1.1 i.1 size (decide (i.1 < y.1)) y.1 size <| xO i.1 i.1 <| wv ∧ wa ∧ wb ∧ xL size out0) <| .xC (xB (xR 3 z3) <| xB (xH 79 size out0 <| (xT 17 0 1 true) ∧ True) <| xB wj <| xB (xE 35 d.1 d.2.1 d.2.2.1 d.2.2.2.1) True) <| .ok (.inl ((z2, false, z3, ())))))
 (.ite (d.2.2.2.1)
 (.need (len size ≠ 0) <| .need (inb (Int.tmod i1.1 (len size)) (len y1.1)) <| .need (inb (Int.tmod i1.1 (len size)) (len size)) <| .need (w64 (gi size (Int.tmod i1.1 (len size)) 0 - 1) ≠ 0) <| .triv (asT Int 5000 ≠ 0) zd <| .need (1 * 8 ≤ 140737488355328) <| .tt <| .lt (w64 (i1.1 + 1) : Int) fun z4 => .lt ([w64 (w64 (Int.tdiv (w64 (60000 * gi y1.1 (Int.tmod i1.1 (len size)) 0)) (w64 (gi size (Int.tmod i1.1 (len size)) 0 - 1))) + Int.tmod 0 5000)] : List Int) fun z5 => .xC (xM z4 y1.1 y1.1 i.1 size (decide (i.1 < y.1)) y.1 size <| xO i.1 i.1 <| wv ∧ wa ∧ wb ∧ xL size out0) <| .xC (xB (xR 3 z5) <| xB (xH 79 size out0 <| (xT 17 0 1 true) ∧ True) <| xB wj <| xB (xE 35 d.1 d.2.1 d.2.2.1 d.2.2.2.1) True) <| .ok (.inl ((z4, false, z5, ()))))
 (.triv (1 * 8 ≤ 140737488355328) zd <| .tt <| .lt (w64 (i1.1 + 1) : Int) fun z6 => .lt ([0] : List Int) fun z7 => .xC (xM z6 y1.1 y1.1 i.1 size (decide (i.1 < y.1)) y.1 size <| xO i.1 i.1 <| wv ∧ wa ∧ wb ∧ xL size out0) <| .xC (xB (xR 3 z7) <| xB (xH 79 size out0 <| (xT 17 0 1 true) ∧ True) <| xB wj <| xB (xE 35 d.1 d.2.1 d.2.2.1 d.2.2.2.1) True) <| .ok (.inl ((z6, false, z7, ()))))))
 (.tt <| .lt (w64 (i.1 + 1) : Int) fun z8 => .xC (xK z8 <| wv ∧ wa ∧ wb ∧ xL size out0) <| .xC (xB (xH 79 size out0 <| True ∧ True) <| xB wj <| xB (xE 35 d.1 d.2.1 d.2.2.1 d.2.2.2.1) True) <| .ok (.inr (.inl ((z8, true, [], ()))))))
 (.ite (decide (i1.1 < out0))
 (.ite (decide (len d.2.2.1 > 0))
 (.need (len d.2.2.1 ≠ 0) <| .need (inb (Int.tmod (w64 (w64 (i.1 * out0) + i1.1)) (len d.2.2.1)) (len d.2.2.1)) <| .ite (d.2.2.2.1)
 (.need (len size ≠ 0) <| .need (inb (Int.tmod i1.1 (len size)) (len y1.1)) <| .need (inb (Int.tmod i1.1 (len size)) (len size)) <| .need (w64 (gi size (Int.tmod i1.1 (len size)) 0 - 1) ≠ 0) <| .triv (asT Int 5000 ≠ 0) zd <| .need ((List.length i1.2.2.1 + 1) * 8 ≤ 140737488355328) <| .tt <| .lt (w64 (i1.1 + 1) : Int) fun z9 => .lt (List.take (List.length i1.2.2.1) i1.2.2.1 ++ [w64 (w64 (Int.tdiv (w64 (60000 * gi y1.1 (Int.tmod i1.1 (len size)) 0)) (w64 (gi size (Int.tmod i1.1 (len size)) 0 - 1))) + Int.tmod (w64 (gi d.2.2.1 (Int.tmod (w64 (w64 (i.1 * out0) + i1.1)) (len d.2.2.1)) 0)) 5000)] : List Int) fun z10 => .xC (xM z9 y1.1 y1.1 i.1 size (decide (i.1 < y.1)) y.1 size <| xO i.1 i.1 <| wv ∧ wa ∧ wb ∧ xL size out0) <| .need ((((3 : TypeId) = 3) ∧ ((z10 : List Int) = z10)) ∧ (true = true) ∧ (((79 : TypeId) = 79) ∧ (((size) = (size)) ∧ (((out0) = (out0)) ∧ ((((17) = (17)) ∧ (((0) = (0)) ∧ ((List.length i1.2.2.1 + 1 = List.length z10) ∧ ((true) = (true))))) ∧ True)))) ∧ (true = true) ∧ (((79 : TypeId) = 79) ∧ (True ∧ (((0 : Int) = 0) ∧ wo))) ∧ (true = true) ∧ (((35 : TypeId) = 35) ∧ (((d.1 : List Int) = d.1) ∧ (((d.2.1 : Int) = d.2.1) ∧ (((d.2.2.1 : List Int) = d.2.2.1) ∧ (((d.2.2.2.1) = (d.2.2.2.1)) ∧ True))))) ∧ (true = true) ∧ True) <| .ok (.inl ((z9, false, z10, ()))))
 (.need ((List.length i1.2.2.1 + 1) * 8 ≤ 140737488355328) <| .tt <| .lt (w64 (i1.1 + 1) : Int) fun z11 => .lt (List.take (List.length i1.2.2.1) i1.2.2.1 ++ [w64 (gi d.2.2.1 (Int.tmod (w64 (w64 (i.1 * out0) + i1.1)) (len d.2.2.1)) 0)] : List Int) fun z12 => .xC (xM z11 y1.1 y1.1 i.1 size (decide (i.1 < y.1)) y.1 size <| xO i.1 i.1 <| wv ∧ wa ∧ wb ∧ xL size out0) <| .need ((((3 : TypeId) = 3) ∧ ((z12 : List Int) = z12)) ∧ (true = true) ∧ (((79 : TypeId) = 79) ∧ (((size) = (size)) ∧ (((out0) = (out0)) ∧ ((((17) = (17)) ∧ (((0) = (0)) ∧ ((List.length i1.2.2.1 + 1 = List.length z12) ∧ ((true) = (true))))) ∧ True)))) ∧ (true = true) ∧ (((79 : TypeId) = 79) ∧ (True ∧ (((0 : Int) = 0) ∧ wo))) ∧ (true = true) ∧ (((35 : TypeId) = 35) ∧ (((d.1 : List Int) = d.1) ∧ (((d.2.1 : Int) = d.2.1) ∧ (((d.2.2.1 : List Int) = d.2.2.1) ∧ (((d.2.2.2.1) = (d.2.2.2.1)) ∧ True))))) ∧ (true = true) ∧ True) <| .ok (.inl ((z11, false, z12, ())))))
 (.ite (d.2.2.2.1)
 (.need (len size ≠ 0) <| .need (inb (Int.tmod i1.1 (len size)) (len y1.1)) <| .need (inb (Int.tmod i1.1 (len size)) (len size)) <| .need (w64 (gi size (Int.tmod i1.1 (len size)) 0 - 1) ≠ 0) <| .triv (asT Int 5000 ≠ 0) zd <| .need ((List.length i1.2.2.1 + 1) * 8 ≤ 140737488355328) <| .tt <| .lt (w64 (i1.1 + 1) : Int) fun z13 => .lt (List.take (List.length i1.2.2.1) i1.2.2.1 ++ [w64 (w64 (Int.tdiv (w64 (60000 * gi y1.1 (Int.tmod i1.1 (len size)) 0)) (w64 (gi size (Int.tmod i1.1 (len size)) 0 - 1))) + Int.tmod 0 5000)] : List Int) fun z14 => .xC (xM z13 y1.1 y1.1 i.1 size (decide (i.1 < y.1)) y.1 size <| xO i.1 i.1 <| wv ∧ wa ∧ wb ∧ xL size out0) <| .need ((((3 : TypeId) = 3) ∧ ((z14 : List Int) = z14)) ∧ (true = true) ∧ (((79 : TypeId) = 79) ∧ (((size) = (size)) ∧ (((out0) = (out0)) ∧ ((((17) = (17)) ∧ (((0) = (0)) ∧ ((List.length i1.2.2.1 + 1 = List.length z14) ∧ ((true) = (true))))) ∧ True)))) ∧ (true = true) ∧ (((79 : TypeId) = 79) ∧ (True ∧ (((0 : Int) = 0) ∧ wo))) ∧ (true = true) ∧ (((35 : TypeId) = 35) ∧ (((d.1 : List Int) = d.1) ∧ (((d.2.1 : Int) = d.2.1) ∧ (((d.2.2.1 : List Int) = d.2.2.1) ∧ (((d.2.2.2.1) = (d.2.2.2.1)) ∧ True))))) ∧ (true = true) ∧ True) <| .ok (.inl ((z13, false, z14, ()))))
 (.need ((List.length i1.2.2.1 + 1) * 8 ≤ 140737488355328) <| .tt <| .lt (w64 (i1.1 + 1) : Int) fun z15 => .lt (List.take (List.length i1.2.2.1) i1.2.2.1 ++ [0] : List Int) fun z16 => .xC (xM z15 y1.1 y1.1 i.1 size (decide (i.1 < y.1)) y.1 size <| xO i.1 i.1 <| wv ∧ wa ∧ wb ∧ xL size out0) <| .need ((((3 : TypeId) = 3) ∧ ((z16 : List Int) = z16)) ∧ (true = true) ∧ (((79 : TypeId) = 79) ∧ (((size) = (size)) ∧ (((out0) = (out0)) ∧ ((((17) = (17)) ∧ (((0) = (0)) ∧ ((List.length i1.2.2.1 + 1 = List.length z16) ∧ ((true) = (true))))) ∧ True)))) ∧ (true = true) ∧ (((79 : TypeId) = 79) ∧ (True ∧ (((0 : Int) = 0) ∧ wo))) ∧ (true = true) ∧ (((35 : TypeId) = 35) ∧ (((d.1 : List Int) = d.1) ∧ (((d.2.1 : Int) = d.2.1) ∧ (((d.2.2.1 : List Int) = d.2.2.1) ∧ (((d.2.2.2.1) = (d.2.2.2.1)) ∧ True))))) ∧ (true = true) ∧ True) <| .ok (.inl ((z15, false, z16, ()))))))
 (.tt <| .lt (w64 (i.1 + 1) : Int) fun z17 => .lt (i1.2.2.1 : List Int) fun z18 => .xC (xK z17 <| wv ∧ wa ∧ wb ∧ xL size out0) <| .xC (xB (xR 3 z18) <| xB (xH 79 size out0 <| (xT 7 0 (List.length z18) true) ∧ True) <| xB wj <| xB (xE 35 d.1 d.2.1 d.2.2.1 d.2.2.2.1) True) <| .ok (.inr (.inl ((z17, false, z18, ()))))))
def arC (d : List Int × Int × List Int × Bool × Unit) (size : List Int) (out0 : Int) (i : Int × Bool × List Int × Unit) (y2 : Int × Unit) (y3 : List Int × Unit) (i2 : (Int) × (List Int) × Unit) : TT (((Int) × (List Int) × Unit) ⊕ wT) :=
 .ite (decide (i2.1 < out0))
 (.ite (decide (len d.2.2.1 > 0))
 (.need (len d.2.2.1 ≠ 0) <| .need (inb (Int.tmod (w64 (w64 (i.1 * out0) + i2.1)) (len d.2.2.1)) (len d.2.2.1)) <| .ite (d.2.2.2.1)
 (.need (len size ≠ 0) <| .need (inb (Int.tmod i2.1 (len size)) (len y3.1)) <| .need (inb (Int.tmod i2.1 (len size)) (len size)) <| .need (w64 (gi size (Int.tmod i2.1 (len size)) 0 - 1) ≠ 0) <| .triv (asT Int 5000 ≠ 0) zd <| .need ((List.length i2.2.1 + 1) * 8 ≤ 140737488355328) <| .tt <| .lt (w64 (i2.1 + 1) : Int) fun z20 => .lt (List.take (List.length i2.2.1) i2.2.1 ++ [w64 (w64 (Int.tdiv (w64 (60000 * gi y3.1 (Int.tmod i2.1 (len size)) 0)) (w64 (gi size (Int.tmod i2.1 (len size)) 0 - 1))) + Int.tmod (w64 (gi d.2.2.1 (Int.tmod (w64 (w64 (i.1 * out0) + i2.1)) (len d.2.2.1)) 0)) 5000)] : List Int) fun z21 => .xC (xM z20 y3.1 y3.1 i.1 size (decide (i.1 < y2.1)) y2.1 size <| xO i.1 i.1 <| wv ∧ wa ∧ wb ∧ xL size out0) <| .need ((((3 : TypeId) = 3) ∧ ((z21 : List Int) = z21)) ∧ (true = true) ∧ (((79 : TypeId) = 79) ∧ (((size) = (size)) ∧ (((out0) = (out0)) ∧ ((((17) = (17)) ∧ (((0) = (0)) ∧ ((List.length i2.2.1 + 1 = List.length z21) ∧ ((true) = (true))))) ∧ True)))) ∧ (true = true) ∧ (((79 : TypeId) = 79) ∧ (True ∧ (((0 : Int) = 0) ∧ wo))) ∧ (true = true) ∧ (((35 : TypeId) = 35) ∧ (((d.1 : List Int) = d.1) ∧ (((d.2.1 : Int) = d.2.1) ∧ (((d.2.2.1 : List Int) = d.2.2.1) ∧ (((d.2.2.2.1) = (d.2.2.2.1)) ∧ True))))) ∧ (true = true) ∧ True) <| .ok (.inl ((z20, z21, ()))))
 (.need ((List.length i2.2.1 + 1) * 8 ≤ 140737488355328) <| .tt <| .lt (w64 (i2.1 + 1) : Int) fun z22 => .lt (List.take (List.length i2.2.1) i2.2.1 ++ [w64 (gi d.2.2.1 (Int.tmod (w64 (w64 (i.1 * out0) + i2.1)) (len d.2.2.1)) 0)] : List Int) fun z23 => .xC (xM z22 y3.1 y3.1 i.1 size (decide (i.1 < y2.1)) y2.1 size <| xO i.1 i.1 <| wv ∧ wa ∧ wb ∧ xL size out0) <| .need ((((3 : TypeId) = 3) ∧ ((z23 : List Int) = z23)) ∧ (true = true) ∧ (((79 : TypeId) = 79) ∧ (((size) = (size)) ∧ (((out0) = (out0)) ∧ ((((17) = (17)) ∧ (((0) = (0)) ∧ ((List.length i2.2.1 + 1 = List.length z23) ∧ ((true) = (true))))) ∧ True)))) ∧ (true = true) ∧ (((79 : TypeId) = 79) ∧ (True ∧ (((0 : Int) = 0) ∧ wo))) ∧ (true = true) ∧ (((35 : TypeId) = 35) ∧ (((d.1 : List Int) = d.1) ∧ (((d.2.1 : Int) = d.2.1) ∧ (((d.2.2.1 : List Int) = d.2.2.1) ∧ (((d.2.2.2.1) = (d.2.2.2.1)) ∧ True))))) ∧ (true = true) ∧ True) <| .ok (.inl ((z22, z23, ())))))
 (.ite (d.2.2.2.1)
 (.need (len size ≠ 0) <| .need (inb (Int.tmod i2.1 (len size)) (len y3.1)) <| .need (inb (Int.tmod i2.1 (len size)) (len size)) <| .need (w64 (gi size (Int.tmod i2.1 (len size)) 0 - 1) ≠ 0) <| .triv (asT Int 5000 ≠ 0) zd <| .need ((List.length i2.2.1 + 1) * 8 ≤ 140737488355328) <| .tt <| .lt (w64 (i2.1 + 1) : Int) fun z24 => .lt (List.take (List.length i2.2.1) i2.2.1 ++ [w64 (w64 (Int.tdiv (w64 (60000 * gi y3.1 (Int.tmod i2.1 (len size)) 0)) (w64 (gi size (Int.tmod i2.1 (len size)) 0 - 1))) + Int.tmod 0 5000)] : List Int) fun z25 => .xC (xM z24 y3.1 y3.1 i.1 size (decide (i.1 < y2.1)) y2.1 size <| xO i.1 i.1 <| wv ∧ wa ∧ wb ∧ xL size out0) <| .need ((((3 : TypeId) = 3) ∧ ((z25 : List Int) = z25)) ∧ (true = true) ∧ (((79 : TypeId) = 79) ∧ (((size) = (size)) ∧ (((out0) = (out0)) ∧ ((((17) = (17)) ∧ (((0) = (0)) ∧ ((List.length i2.2.1 + 1 = List.length z25) ∧ ((true) = (true))))) ∧ True)))) ∧ (true = true) ∧ (((79 : TypeId) = 79) ∧ (True ∧ (((0 : Int) = 0) ∧ wo))) ∧ (true = true) ∧ (((35 : TypeId) = 35) ∧ (((d.1 : List Int) = d.1) ∧ (((d.2.1 : Int) = d.2.1) ∧ (((d.2.2.1 : List Int) = d.2.2.1) ∧ (((d.2.2.2.1) = (d.2.2.2.1)) ∧ True))))) ∧ (true = true) ∧ True) <| .ok (.inl ((z24, z25, ()))))
 (.need ((List.length i2.2.1 + 1) * 8 ≤ 140737488355328) <| .tt <| .lt (w64 (i2.1 + 1) : Int) fun z26 => .lt (List.take (List.length i2.2.1) i2.2.1 ++ [0] : List Int) fun z27 => .xC (xM z26 y3.1 y3.1 i.1 size (decide (i.1 < y2.1)) y2.1 size <| xO i.1 i.1 <| wv ∧ wa ∧ wb ∧ xL size out0) <| .need ((((3 : TypeId) = 3) ∧ ((z27 : List Int) = z27)) ∧ (true = true) ∧ (((79 : TypeId) = 79) ∧ (((size) = (size)) ∧ (((out0) = (out0)) ∧ ((((17) = (17)) ∧ (((0) = (0)) ∧ ((List.length i2.2.1 + 1 = List.length z27) ∧ ((true) = (true))))) ∧ True)))) ∧ (true = true) ∧ (((79 : TypeId) = 79) ∧ (True ∧ (((0 : Int) = 0) ∧ wo))) ∧ (true = true) ∧ (((35 : TypeId) = 35) ∧ (((d.1 : List Int) = d.1) ∧ (((d.2.1 : Int) = d.2.1) ∧ (((d.2.2.1 : List Int) = d.2.2.1) ∧ (((d.2.2.2.1) = (d.2.2.2.1)) ∧ True))))) ∧ (true = true) ∧ True) <| .ok (.inl ((z26, z27, ()))))))
 (.tt <| .lt (w64 (i.1 + 1) : Int) fun z28 => .lt (i2.2.1 : List Int) fun z29 => .xC (xK z28 <| wv ∧ wa ∧ wb ∧ xL size out0) <| .xC (xB (xR 3 z29) <| xB (xH 79 size out0 <| (xT 7 0 (List.length z29) true) ∧ True) <| xB wj <| xB (xE 35 d.1 d.2.1 d.2.2.1 d.2.2.2.1) True) <| .ok (.inr (.inl ((z28, false, z29, ())))))
def arE (d : List Int × Int × List Int × Bool × Unit) (size : List Int) (out0 : Int) (i : (Int) × Bool × (List Int) × Unit) : TT wT :=
 .ite (i.2.1)
 (.call (ab7 (size, ())) Dz3 fun y =>
 .ite (decide (i.1 < y.1))
 (.call (aeV (size, i.1, ())) Dz5 fun y1 =>
 .loop 2 (.tt <| .xC (xM (0 : Int) y1.1 y1.1 i.1 size (decide (i.1 < y.1)) y.1 size <| xO i.1 i.1 <| wv ∧ wa ∧ wb ∧ xL size out0) <| .xC (xB (xH 79 size out0 <| True ∧ True) <| xB wj <| xB (xE 35 d.1 d.2.1 d.2.2.1 d.2.2.2.1) True) <| .ok ((0, true, [], ()))) (arD d size out0 i y y1))
 (.ok (.inr (((size, out0, [], ()), ())))))
 (.call (ab7 (size, ())) Dz3 fun y2 =>
 .ite (decide (i.1 < y2.1))
 (.call (aeV (size, i.1, ())) Dz5 fun y3 =>
 .loop 3 (.tt <| .lt (i.2.2.1 : List Int) fun z19 => .xC (xM (0 : Int) y3.1 y3.1 i.1 size (decide (i.1 < y2.1)) y2.1 size <| xO i.1 i.1 <| wv ∧ wa ∧ wb ∧ xL size out0) <| .xC (xB (xR 3 z19) <| xB (xH 79 size out0 <| (xT 17 0 (List.length z19) true) ∧ True) <| xB wj <| xB (xE 35 d.1 d.2.1 d.2.2.1 d.2.2.2.1) True) <| .ok ((0, z19, ()))) (arC d size out0 i y2 y3))
 (.ok (.inr (((size, out0, List.take (List.length i.2.2.1) i.2.2.1, ()), ())))))
def ahS (d : List Int × Int × List Int × Bool × Unit) (size : List Int) (out0 : Int) : TT (wg × Unit) :=
 .loop 0 (.tt <| .xC (xK (0 : Int) <| wv ∧ wa ∧ wb ∧ xL size out0) <| .xC (xB (xH 79 size out0 <| True ∧ True) <| xB wj <| xB (xE 35 d.1 d.2.1 d.2.2.1 d.2.2.2.1) True) <| .ok ((0, true, [], ()))) (arE d size out0)
end
def aNA (l : List Int) : Prop := (1 ≤ l.length ∧ l.length ≤ 4) ∧ ∀ n ∈ l, 2 ≤ n ∧ n ≤ 4
theorem aJL {α : Type} (l : List α) (i k : Nat) (a d : α) (h : i < l.length) : (l.set i a).getD k d = if k = i then a else l.getD k d := by
 rw [zX, zX, List.getElem?_set]
 by_cases e : i = k
 ·subst e; rw [if_pos rfl, if_pos rfl]; simp [h]
 ·rw [if_neg e, if_neg (fun h => e h.symm)]
theorem apF (size : List Int) (n : Int) (hs : aNA size) (hn : 0 ≤ n ∧ n ≤ 1000000000) : WP (af0 size n) fun y => y.1.length = size.length ∧ ∀ k, k < size.length → 0 ≤ y.1.getD k 0 ∧ y.1.getD k 0 < size.getD k 0 := by
 obtain ⟨⟨l1, l4⟩, hz⟩ := hs
 unfold af0
 refine aaF ⟨by rw [aaB]; omega, by omega, by rw [aaB]; omega⟩ ?_
 refine adY (fun i : Int × Int × List Int × Unit => ∃ k : Nat, i.1 = (k : Int) - 1 ∧ k ≤ size.length ∧ (0 ≤ i.2.1 ∧ i.2.1 ≤ 1000000000) ∧ i.2.2.1.length = size.length ∧ ∀ j, k ≤ j → j < size.length → 0 ≤ i.2.2.1.getD j 0 ∧ i.2.2.1.getD j 0 < size.getD j 0) (fun i => (i.1 + 1).toNat)
  (aaA (aaQ (aaQ (aaA (aaA (aaP ⟨size.length, ?_, zm _, hn, ?_, fun j h1 h2 => absurd h2 zc⟩)))))) ?_
 ·show w64 (len size - 1) = _
  rw [aaB, aaD ⟨by omega, by omega⟩]
 ·show (List.replicate (Int.toNat (len size)) (0 : Int)).length = _
  rw [aaB, zz, zM]
 intro i hi
 obtain ⟨i, n, l, v⟩ := i
 obtain ⟨k, e, hk, hn, hl, hj⟩ := hi
 dsimp only at e hn hl hj
 unfold apG
 refine aaL (fun a => ?_) (fun a => ?_)
 ·have a' : i ≥ 0 := of_decide_eq_true a
  obtain ⟨m, rfl⟩ : ∃ m, k = m + 1 := ⟨k - 1, by omega⟩
  have ei : i = (m : Int) := zc
  subst ei
  have hm := hz _ (aa3 (show m < size.length by omega) 0)
  have eg : gi size (m : Int) 0 = size.getD m 0 := aaI _ _ _
  have et := adJ (a := n) (k := size.getD m 0) zc hn.1
  have ed : 0 ≤ Int.tdiv n (size.getD m 0) ∧ Int.tdiv n (size.getD m 0) ≤ 1000000000 := by
   rw [yB hn.1]
   exact ⟨Int.ediv_nonneg hn.1 zc, Int.le_trans (Int.ediv_le_self _ hn.1) hn.2⟩
  dsimp only
  rw [eg]
  refine aaF ⟨by omega, by rw [aaB]; omega⟩ (aaF zc (aaF ⟨by omega, by rw [aaB, zz]; omega⟩ (aaF ⟨by omega, by rw [aaB]; omega⟩ (aaF zc (aaA (aaQ (aaQ (aaQ (aaA (aaA (aaP ?_)))))))))))
  refine ⟨⟨m, aaD ⟨by omega, by omega⟩, by omega, ?_, ?_, fun j h1 h2 => ?_⟩, ?_⟩
  ·show 0 ≤ w64 _ ∧ w64 _ ≤ 1000000000
   rw [aaD ⟨by omega, by omega⟩]; exact ed
  ·show (List.set l (0 + Int.toNat (m : Int)) _).length = _
   rw [yu]; exact hl
  ·show 0 ≤ (List.set l (0 + Int.toNat (m : Int)) _).getD j 0 ∧ (List.set l (0 + Int.toNat (m : Int)) _).getD j 0 < _
   rw [zw, zz, aJL _ _ _ _ _ zc]
   by_cases q : j = m
   ·rw [if_pos q, q]; exact et
   ·rw [if_neg q]; exact hj j zc h2
  ·show (w64 ((m : Int) - 1) + 1).toNat < ((m : Int) + 1).toNat
   rw [aaD ⟨by omega, by omega⟩]; omega
 ·have a' : ¬ i ≥ 0 := of_decide_eq_false a
  refine aaP ?_
  have e0 : List.take (Int.toNat (len size)) l = l := by rw [aaB, zz, ← hl, zB]
  show (List.take (Int.toNat (len size)) l).length = size.length ∧ ∀ k, k < size.length → 0 ≤ (List.take (Int.toNat (len size)) l).getD k 0 ∧ (List.take (Int.toNat (len size)) l).getD k 0 < size.getD k 0
  rw [e0]
  exact ⟨hl, fun j h => hj j zc h⟩
theorem aKd {l : List Int} (h : shL l) : ab7 (l, ()) = some (af1 l, ()) := if_pos h
theorem az9 : ∀ {l : List Int} {p : Int} {k : Nat}, (∀ n ∈ l, 2 ≤ n ∧ n ≤ 4) → l.length ≤ k → 1 ≤ p → p * 4 ^ k ≤ 1000 → 1 ≤ l.foldl (fun p n => w64 (p * n)) p ∧ l.foldl (fun p n => w64 (p * n)) p ≤ 1000
 | [], p, k, _, _, h1, h2 => ⟨h1, by
  show p ≤ 1000
  have : (1 : Int) ≤ 4 ^ k := by exact_mod_cast Nat.one_le_pow k 4 zc
  have := zL this (show 0 ≤ p by omega)
  omega⟩
 | n :: l, p, 0, _, h, _, _ => by simp at h
 | n :: l, p, k + 1, hl, h, h1, h2 => by
  have hn := hl n zy
  have hp : p * n ≤ p * 4 := zL hn.2 zc
  have hp2 : p * 2 ≤ p * n := zL hn.1 zc
  have hk : (1 : Int) ≤ 4 ^ k := by exact_mod_cast Nat.one_le_pow k 4 zc
  rw [Int.pow_succ] at h2
  have h3 : p * 4 * 4 ^ k ≤ 1000 := by rw [Int.mul_assoc, Int.mul_comm 4]; exact h2
  have h4 := zL hk (show 0 ≤ p * 4 by omega)
  have e : w64 (p * n) = p * n := aaD ⟨by omega, by omega⟩
  show 1 ≤ l.foldl (fun p n => w64 (p * n)) (w64 (p * n)) ∧ l.foldl (fun p n => w64 (p * n)) (w64 (p * n)) ≤ 1000
  rw [e]
  refine az9 (k := k) (fun m hm => hl m (zt _ hm)) (by simpa using h) zc ?_
  exact Int.le_trans (yX hp zc) h3
theorem aFY {l : List Int} (h : aNA l) : 1 ≤ af1 l ∧ af1 l ≤ 1000 := az9 (k := 4) h.2 h.1.2 zc zd
theorem akH {a b : Int} (h0 : 0 ≤ a) (h1 : a < b) (h2 : 2 ≤ b) (h4 : b ≤ 4) : w64 (b - 1) ≠ 0 ∧ 0 ≤ w64 (Int.tdiv (w64 (60000 * a)) (w64 (b - 1))) ∧ w64 (Int.tdiv (w64 (60000 * a)) (w64 (b - 1))) ≤ 60000 := by
 have e1 : w64 (b - 1) = b - 1 := aaD ⟨by omega, by omega⟩
 have e2 : w64 (60000 * a) = 60000 * a := aaD ⟨by omega, by omega⟩
 have e3 : Int.tdiv (60000 * a) (b - 1) = (60000 * a) / (b - 1) := yB zc
 have h5 : 0 ≤ (60000 * a) / (b - 1) := Int.ediv_nonneg zc zc
 have h6 : (60000 * a) / (b - 1) ≤ 60000 := Int.ediv_le_of_le_mul zc zc
 rw [e1, e2, e3, aaD ⟨by omega, by omega⟩]
 exact ⟨by omega, h5, h6⟩
def wfG (d : List Int × Int × List Int × Bool × Unit) : Prop := shM d.1 ∧ (0 ≤ d.2.1 ∧ d.2.1 ≤ 255) ∧ shM d.2.2.1 ∧ ∀ v ∈ d.2.2.1, 0 ≤ v ∧ v ≤ 65535
def valsI (n out k : Int) (l : List Int) : Prop := (l.length : Int) = n * out + k ∧ ∀ v ∈ l, 0 ≤ v ∧ v ≤ 65535
theorem valsI.app {n out k v : Int} {l : List Int} (h : valsI n out k l) (hv : 0 ≤ v ∧ v ≤ 65535) : valsI n out (k + 1) (l ++ [v]) :=
 ⟨by rw [zu]; have := h.1; simp; omega, fun w hw => by
  rcases zx.1 hw with h' | h'
  ·exact h.2 w h'
  ·rw [zG.1 h']; exact hv⟩
theorem aBu (d : List Int × Int × List Int × Bool × Unit) (hd : wfG d) (size : List Int) (hs : aNA size) (out : Int) (ho : 1 ≤ out ∧ out ≤ 3) : WP (ahS d size out) fun y => y.1.1 = size ∧ y.1.2.1 = out ∧ (y.1.2.2.1.length : Int) = af1 size * out ∧ ∀ v ∈ y.1.2.2.1, 0 ≤ v ∧ v ≤ 65535 := by
 obtain ⟨dz, dout, vals, sm, u⟩ := d
 obtain ⟨-, -, hv, hvr⟩ := hd
 dsimp only at hv hvr
 have hv' : vals.length ≤ 140737488355328 := hv
 obtain ⟨p1, p2⟩ := aFY hs
 have hlen := hs.1
 have LP : ab7 (size, ()) = some (af1 size, ()) := aKd (show size.length ≤ 1000000000000 by omega)
 generalize af1 size = pts at *
 unfold ahS
 refine adY (fun i : Int × Bool × List Int × Unit => 0 ≤ i.1 ∧ i.1 ≤ pts ∧ valsI i.1 out 0 i.2.2.1 ∧ (i.2.1 = true → i.2.2.1 = [])) (fun i => (pts - i.1).toNat) (aaA (aaA (aaA (aaP ⟨by dsimp only; omega, by dsimp only; omega, ⟨by simp, by simp⟩, fun _ => rfl⟩)))) ?_
 intro i hi
 obtain ⟨n, f, l, v⟩ := i
 obtain ⟨hn0, hnp, hl, hf⟩ := hi
 dsimp only at hn0 hnp hl hf
 have hno : 0 ≤ n * out ∧ n * out ≤ 3000 := by
  have h1 : n * out ≤ n * 3 := zL ho.2 hn0
  have h2 : n * 1 ≤ n * out := zL ho.1 hn0
  omega
 have ewn : w64 (n + 1) = n + 1 := aaD ⟨by omega, by omega⟩
 have hnext : ∀ {k : Int} {l : List Int}, ¬ k < out → k ≤ out → valsI n out k l → valsI (n + 1) out 0 l := by
  intro k l h1 h2 h
  have : k = out := zc
  subst this
  exact ⟨by rw [h.1, Int.add_mul, Int.one_mul, Int.add_zero], h.2⟩
 unfold arE
 cases f with
 | true =>
  have el := hf rfl
  subst el
  refine aaL (fun _ => ?_) (fun h => by cases h)
  refine aaN _ LP (aaL (fun a => ?_) (fun a => ?_))
  ·have a' : n < pts := of_decide_eq_true a
   obtain ⟨⟨ix, u'⟩, ex, hix, hx⟩ := apF size n hs ⟨hn0, by omega⟩
   have ex : aeV (size, n, ()) = some (ix, ()) := ex
   dsimp only at hix hx
   have hj : ∀ k : Int, 0 ≤ k → inb (Int.tmod k (len size)) (len size) ∧ 0 ≤ gi ix (Int.tmod k (len size)) 0 ∧ gi ix (Int.tmod k (len size)) 0 < gi size (Int.tmod k (len size)) 0 ∧ 2 ≤ gi size (Int.tmod k (len size)) 0 ∧ gi size (Int.tmod k (len size)) 0 ≤ 4 := by
    intro k hk
    have ht := adJ (a := k) (k := len size) (by rw [aaB]; omega) hk
    refine ⟨ht, ?_⟩
    rw [aaB] at ht ⊢
    obtain ⟨m, hm⟩ : ∃ m : Nat, Int.tmod k (size.length : Int) = m := ⟨(Int.tmod k (size.length : Int)).toNat, by omega⟩
    rw [hm] at ht ⊢
    rw [aaI, aaI]
    have := hx m zc
    have h2 := hs.2 _ (aa3 (show m < size.length by omega) 0)
    exact ⟨this.1, this.2, h2⟩
   have hval : ∀ k : Int, 0 ≤ k → k ≤ 3 → 0 < vals.length → inb (Int.tmod (w64 (w64 (n * out) + k)) (len vals)) (len vals) ∧ 0 ≤ gi vals (Int.tmod (w64 (w64 (n * out) + k)) (len vals)) 0 ∧ gi vals (Int.tmod (w64 (w64 (n * out) + k)) (len vals)) 0 ≤ 65535 := by
    intro k hk hk3 hpos
    have e : w64 (w64 (n * out) + k) = n * out + k := by rw [aaD (x := n * out) ⟨by omega, by omega⟩, aaD ⟨by omega, by omega⟩]
    rw [e]
    have ht := adJ (a := n * out + k) (k := len vals) (by rw [aaB]; omega) zc
    refine ⟨ht, ?_⟩
    rw [aaB] at ht ⊢
    obtain ⟨m, hm⟩ : ∃ m : Nat, Int.tmod (n * out + k) (vals.length : Int) = m := ⟨(Int.tmod (n * out + k) (vals.length : Int)).toNat, by omega⟩
    rw [hm] at ht ⊢
    rw [aaI]
    exact hvr _ (aa3 zc 0)
   have hix' : ∀ k : Int, 0 ≤ k → inb (Int.tmod k (len size)) (len ix) := by
    intro k hk
    have := (hj k hk).1
    unfold inb at this ⊢
    rw [aaB ix, hix]; rw [aaB] at this ⊢; exact this
   refine aaN _ ex (adY (fun i : Int × Bool × List Int × Unit => 0 ≤ i.1 ∧ i.1 ≤ out ∧ valsI n out i.1 i.2.2.1 ∧ (i.2.1 = true → i.2.2.1 = [])) (fun i => (out - i.1).toNat) (aaA (aaA (aaA (aaP ⟨by dsimp only; omega, by dsimp only; omega, hl, fun _ => rfl⟩)))) ?_)
   intro i hi
   obtain ⟨k, f, l, w⟩ := i
   obtain ⟨hk0, hko, hl, hf⟩ := hi
   dsimp only at hk0 hko hl hf
   have ewk : w64 (k + 1) = k + 1 := aaD ⟨by omega, by omega⟩
   unfold arD
   cases f with
   | true =>
    have el := hf rfl
    subst el
    refine aaL (fun _ => ?_) (fun h => by cases h)
    refine aaL (fun b => ?_) (fun b => ?_)
    ·have b' : k < out := of_decide_eq_true b
     have fin : ∀ v : Int, 0 ≤ v ∧ v ≤ 65535 → (0 ≤ w64 (k + 1) ∧ w64 (k + 1) ≤ out ∧ valsI n out (w64 (k + 1)) [v] ∧ (false = true → [v] = [])) ∧ (out - w64 (k + 1)).toNat < (out - k).toNat := by
      intro v hv
      rw [ewk]
      exact ⟨⟨by omega, by omega, hl.app hv, fun h => by cases h⟩, by omega⟩
     refine aaL (fun c => ?_) (fun c => ?_)
     ·have c' : len vals > 0 := of_decide_eq_true c
      rw [aaB] at c'
      obtain ⟨v1, v2, v3⟩ := hval k hk0 zc zc
      obtain ⟨j1, j2, j3, j4, j5⟩ := hj k hk0
      obtain ⟨s1, s2, s3⟩ := akH j2 j3 j4 j5
      refine aaF (by rw [aaB]; dsimp only; omega) (aaF v1 (aaL (fun g => ?_) (fun g => ?_)))
      ·have t5 := adJ (a := w64 (gi vals (Int.tmod (w64 (w64 (n * out) + k)) (len vals)) 0)) (k := 5000) zc (by rw [aaD ⟨by omega, by omega⟩]; omega)
       refine aaF (by rw [aaB]; omega) (aaF (hix' k hk0) (aaF j1 (aaF s1 (aaA (aaF zc (aaA (aaQ (aaQ (aaA (aaA (aaP (fin _ ⟨?_, ?_⟩))))))))))))
       ·dsimp only; rw [aaD ⟨by omega, by omega⟩]; omega
       ·dsimp only; rw [aaD ⟨by omega, by omega⟩]; omega
      ·refine aaF zc (aaA (aaQ (aaQ (aaA (aaA (aaP (fin _ ⟨?_, ?_⟩)))))))
       ·dsimp only; rw [aaD ⟨by omega, by omega⟩]; omega
       ·dsimp only; rw [aaD ⟨by omega, by omega⟩]; omega
     ·obtain ⟨j1, j2, j3, j4, j5⟩ := hj k hk0
      obtain ⟨s1, s2, s3⟩ := akH j2 j3 j4 j5
      have t5 : Int.tmod 0 5000 = 0 := rfl
      refine aaL (fun g => ?_) (fun g => ?_)
      ·refine aaF (by rw [aaB]; omega) (aaF (hix' k hk0) (aaF j1 (aaF s1 (aaA (aaF zc (aaA (aaQ (aaQ (aaA (aaA (aaP (fin _ ⟨?_, ?_⟩))))))))))))
       ·dsimp only; try rw [t5]
        rw [aaD ⟨by omega, by omega⟩]; omega
       ·dsimp only; try rw [t5]
        rw [aaD ⟨by omega, by omega⟩]; omega
      ·exact aaA (aaA (aaQ (aaQ (aaA (aaA (aaP (fin _ ⟨by omega, by omega⟩)))))))
    ·have b' : ¬ k < out := of_decide_eq_false b
     refine aaA (aaQ (aaA (aaA (aaP ⟨⟨?_, ?_, ?_, fun _ => rfl⟩, ?_⟩))))
     ·show 0 ≤ w64 (n + 1); omega
     ·show w64 (n + 1) ≤ pts; omega
     ·show valsI (w64 (n + 1)) out 0 []; rw [ewn]; exact hnext b' hko hl
     ·show (pts - w64 (n + 1)).toNat < (pts - n).toNat; omega
   | false =>
    refine aaL (fun h => by cases h) (fun _ => ?_)
    have etk : List.take (List.length l) l = l := zB
    have hll : (l.length : Int) ≤ 4000 := by have := hl.1; omega
    refine aaL (fun b => ?_) (fun b => ?_)
    ·have b' : k < out := of_decide_eq_true b
     have fin : ∀ v : Int, 0 ≤ v ∧ v ≤ 65535 → (0 ≤ w64 (k + 1) ∧ w64 (k + 1) ≤ out ∧ valsI n out (w64 (k + 1)) (List.take (List.length l) l ++ [v]) ∧ (false = true → (List.take (List.length l) l ++ [v]) = [])) ∧ (out - w64 (k + 1)).toNat < (out - k).toNat := by
      intro v hv
      rw [ewk, etk]
      exact ⟨⟨by omega, by omega, hl.app hv, fun h => by cases h⟩, by omega⟩
     refine aaL (fun c => ?_) (fun c => ?_)
     ·have c' : len vals > 0 := of_decide_eq_true c
      rw [aaB] at c'
      obtain ⟨v1, v2, v3⟩ := hval k hk0 zc zc
      obtain ⟨j1, j2, j3, j4, j5⟩ := hj k hk0
      obtain ⟨s1, s2, s3⟩ := akH j2 j3 j4 j5
      refine aaF (by rw [aaB]; dsimp only; omega) (aaF v1 (aaL (fun g => ?_) (fun g => ?_)))
      ·have t5 := adJ (a := w64 (gi vals (Int.tmod (w64 (w64 (n * out) + k)) (len vals)) 0)) (k := 5000) zc (by rw [aaD ⟨by omega, by omega⟩]; omega)
       refine aaF (by rw [aaB]; omega) (aaF (hix' k hk0) (aaF j1 (aaF s1 (aaA (aaF (by show (l.length + 1) * 8 ≤ 140737488355328; omega) (aaA (aaQ (aaQ (aaA (aaF zf (aaP (fin _ ⟨?_, ?_⟩))))))))))))
       ·dsimp only; rw [aaD ⟨by omega, by omega⟩]; omega
       ·dsimp only; rw [aaD ⟨by omega, by omega⟩]; omega
      ·refine aaF (by show (l.length + 1) * 8 ≤ 140737488355328; omega) (aaA (aaQ (aaQ (aaA (aaF zf (aaP (fin _ ⟨?_, ?_⟩)))))))
       ·dsimp only; rw [aaD ⟨by omega, by omega⟩]; omega
       ·dsimp only; rw [aaD ⟨by omega, by omega⟩]; omega
     ·obtain ⟨j1, j2, j3, j4, j5⟩ := hj k hk0
      obtain ⟨s1, s2, s3⟩ := akH j2 j3 j4 j5
      have t5 : Int.tmod 0 5000 = 0 := rfl
      refine aaL (fun g => ?_) (fun g => ?_)
      ·refine aaF (by rw [aaB]; omega) (aaF (hix' k hk0) (aaF j1 (aaF s1 (aaA (aaF (by show (l.length + 1) * 8 ≤ 140737488355328; omega) (aaA (aaQ (aaQ (aaA (aaF zf (aaP (fin _ ⟨?_, ?_⟩))))))))))))
       ·dsimp only; try rw [t5]
        rw [aaD ⟨by omega, by omega⟩]; omega
       ·dsimp only; try rw [t5]
        rw [aaD ⟨by omega, by omega⟩]; omega
      ·exact aaF (by show (l.length + 1) * 8 ≤ 140737488355328; omega) (aaA (aaQ (aaQ (aaA (aaF zf (aaP (fin _ ⟨by omega, by omega⟩)))))))
    ·have b' : ¬ k < out := of_decide_eq_false b
     refine aaA (aaQ (aaQ (aaA (aaA (aaP ⟨⟨?_, ?_, ?_, fun h => by cases h⟩, ?_⟩)))))
     ·show 0 ≤ w64 (n + 1); omega
     ·show w64 (n + 1) ≤ pts; omega
     ·show valsI (w64 (n + 1)) out 0 l; rw [ewn]; exact hnext b' hko hl
     ·show (pts - w64 (n + 1)).toNat < (pts - n).toNat; omega
  ·have a' : ¬ n < pts := of_decide_eq_false a
   have en : n = pts := zc
   subst en
   exact aaP ⟨rfl, rfl, by have := hl.1; show ((0 : Nat) : Int) = _; simpa using this, fun v hv => by cases hv⟩
 | false =>
  refine aaL (fun h => by cases h) (fun _ => ?_)
  refine aaN _ LP (aaL (fun a => ?_) (fun a => ?_))
  ·have a' : n < pts := of_decide_eq_true a
   obtain ⟨⟨ix, u'⟩, ex, hix, hx⟩ := apF size n hs ⟨hn0, by omega⟩
   have ex : aeV (size, n, ()) = some (ix, ()) := ex
   dsimp only at hix hx
   have hj : ∀ k : Int, 0 ≤ k → inb (Int.tmod k (len size)) (len size) ∧ 0 ≤ gi ix (Int.tmod k (len size)) 0 ∧ gi ix (Int.tmod k (len size)) 0 < gi size (Int.tmod k (len size)) 0 ∧ 2 ≤ gi size (Int.tmod k (len size)) 0 ∧ gi size (Int.tmod k (len size)) 0 ≤ 4 := by
    intro k hk
    have ht := adJ (a := k) (k := len size) (by rw [aaB]; omega) hk
    refine ⟨ht, ?_⟩
    rw [aaB] at ht ⊢
    obtain ⟨m, hm⟩ : ∃ m : Nat, Int.tmod k (size.length : Int) = m := ⟨(Int.tmod k (size.length : Int)).toNat, by omega⟩
    rw [hm] at ht ⊢
    rw [aaI, aaI]
    have := hx m zc
    have h2 := hs.2 _ (aa3 (show m < size.length by omega) 0)
    exact ⟨this.1, this.2, h2⟩
   have hval : ∀ k : Int, 0 ≤ k → k ≤ 3 → 0 < vals.length → inb (Int.tmod (w64 (w64 (n * out) + k)) (len vals)) (len vals) ∧ 0 ≤ gi vals (Int.tmod (w64 (w64 (n * out) + k)) (len vals)) 0 ∧ gi vals (Int.tmod (w64 (w64 (n * out) + k)) (len vals)) 0 ≤ 65535 := by
    intro k hk hk3 hpos
    have e : w64 (w64 (n * out) + k) = n * out + k := by rw [aaD (x := n * out) ⟨by omega, by omega⟩, aaD ⟨by omega, by omega⟩]
    rw [e]
    have ht := adJ (a := n * out + k) (k := len vals) (by rw [aaB]; omega) zc
    refine ⟨ht, ?_⟩
    rw [aaB] at ht ⊢
    obtain ⟨m, hm⟩ : ∃ m : Nat, Int.tmod (n * out + k) (vals.length : Int) = m := ⟨(Int.tmod (n * out + k) (vals.length : Int)).toNat, by omega⟩
    rw [hm] at ht ⊢
    rw [aaI]
    exact hvr _ (aa3 zc 0)
   have hix' : ∀ k : Int, 0 ≤ k → inb (Int.tmod k (len size)) (len ix) := by
    intro k hk
    have := (hj k hk).1
    unfold inb at this ⊢
    rw [aaB ix, hix]; rw [aaB] at this ⊢; exact this
   refine aaN _ ex (adY (fun i : Int × List Int × Unit => 0 ≤ i.1 ∧ i.1 ≤ out ∧ valsI n out i.1 i.2.1) (fun i => (out - i.1).toNat) (aaA (aaQ (aaA (aaA (aaP ⟨by dsimp only; omega, by dsimp only; omega, hl⟩))))) ?_)
   intro i hi
   obtain ⟨k, l, w⟩ := i
   obtain ⟨hk0, hko, hl⟩ := hi
   dsimp only at hk0 hko hl
   have ewk : w64 (k + 1) = k + 1 := aaD ⟨by omega, by omega⟩
   unfold arC
   have etk : List.take (List.length l) l = l := zB
   have hll : (l.length : Int) ≤ 4000 := by have := hl.1; omega
   refine aaL (fun b => ?_) (fun b => ?_)
   ·have b' : k < out := of_decide_eq_true b
    have fin : ∀ v : Int, 0 ≤ v ∧ v ≤ 65535 → (0 ≤ w64 (k + 1) ∧ w64 (k + 1) ≤ out ∧ valsI n out (w64 (k + 1)) (List.take (List.length l) l ++ [v])) ∧ (out - w64 (k + 1)).toNat < (out - k).toNat := by
     intro v hv
     rw [ewk, etk]
     exact ⟨⟨by omega, by omega, hl.app hv⟩, by omega⟩
    refine aaL (fun c => ?_) (fun c => ?_)
    ·have c' : len vals > 0 := of_decide_eq_true c
     rw [aaB] at c'
     obtain ⟨v1, v2, v3⟩ := hval k hk0 zc zc
     obtain ⟨j1, j2, j3, j4, j5⟩ := hj k hk0
     obtain ⟨s1, s2, s3⟩ := akH j2 j3 j4 j5
     refine aaF (by rw [aaB]; dsimp only; omega) (aaF v1 (aaL (fun g => ?_) (fun g => ?_)))
     ·have t5 := adJ (a := w64 (gi vals (Int.tmod (w64 (w64 (n * out) + k)) (len vals)) 0)) (k := 5000) zc (by rw [aaD ⟨by omega, by omega⟩]; omega)
      refine aaF (by rw [aaB]; omega) (aaF (hix' k hk0) (aaF j1 (aaF s1 (aaA (aaF (by show (l.length + 1) * 8 ≤ 140737488355328; omega) (aaA (aaQ (aaQ (aaA (aaF zf (aaP (fin _ ⟨?_, ?_⟩))))))))))))
      ·dsimp only; rw [aaD ⟨by omega, by omega⟩]; omega
      ·dsimp only; rw [aaD ⟨by omega, by omega⟩]; omega
     ·refine aaF (by show (l.length + 1) * 8 ≤ 140737488355328; omega) (aaA (aaQ (aaQ (aaA (aaF zf (aaP (fin _ ⟨?_, ?_⟩)))))))
      ·dsimp only; rw [aaD ⟨by omega, by omega⟩]; omega
      ·dsimp only; rw [aaD ⟨by omega, by omega⟩]; omega
    ·obtain ⟨j1, j2, j3, j4, j5⟩ := hj k hk0
     obtain ⟨s1, s2, s3⟩ := akH j2 j3 j4 j5
     have t5 : Int.tmod 0 5000 = 0 := rfl
     refine aaL (fun g => ?_) (fun g => ?_)
     ·refine aaF (by rw [aaB]; omega) (aaF (hix' k hk0) (aaF j1 (aaF s1 (aaA (aaF (by show (l.length + 1) * 8 ≤ 140737488355328; omega) (aaA (aaQ (aaQ (aaA (aaF zf (aaP (fin _ ⟨?_, ?_⟩))))))))))))
      ·dsimp only; try rw [t5]
       rw [aaD ⟨by omega, by omega⟩]; omega
      ·dsimp only; try rw [t5]
       rw [aaD ⟨by omega, by omega⟩]; omega
     ·exact aaF (by show (l.length + 1) * 8 ≤ 140737488355328; omega) (aaA (aaQ (aaQ (aaA (aaF zf (aaP (fin _ ⟨by omega, by omega⟩)))))))
   ·have b' : ¬ k < out := of_decide_eq_false b
    refine aaA (aaQ (aaQ (aaA (aaA (aaP ⟨⟨?_, ?_, ?_, fun h => by cases h⟩, ?_⟩)))))
    ·show 0 ≤ w64 (n + 1); omega
    ·show w64 (n + 1) ≤ pts; omega
    ·show valsI (w64 (n + 1)) out 0 l; rw [ewn]; exact hnext b' hko hl
    ·show (pts - w64 (n + 1)).toNat < (pts - n).toNat; omega
  ·have a' : ¬ n < pts := of_decide_eq_false a
   have en : n = pts := zc
   subst en
   have etk : List.take (List.length l) l = l := zB
   refine aaP ?_
   show size = size ∧ out = out ∧ ((List.take (List.length l) l).length : Int) = n * out ∧ ∀ v ∈ List.take (List.length l) l, 0 ≤ v ∧ v ≤ 65535
   rw [etk]
   exact ⟨rfl, rfl, by have := hl.1; omega, hl.2⟩
noncomputable def adU (x : (List Int × Int × List Int × Bool × Unit) × List Int × Int × Unit) : Option (GrT × Unit) := (ahS x.1 x.2.1 x.2.2.1).toO
end Go.Vs
