/-
  Trees of what the functions compute, and their laws. Own work; no condition.
-/
import Derived.Test.YtgibnaibdcbmmaaGreatDoorClL4
import Derived.Test.YtgibnaibdcbmmaaGreatDoorProg
set_option linter.unusedVariables false
set_option linter.unusedSimpArgs false
set_option maxRecDepth 100000
namespace Go.Vs
open Go Go.Vg Go.Proofs
noncomputable section
def aD4 : LTab := [(146, 58, 4099, ⟨0, (Int) × Bool × (List Int) × Unit, .dat (.s 8) xW <| .appN (.s 7) 4 3 xW <| .nil, [6, 3, 1, 2], [1, 0], 1⟩)]
def arF (d : List Int × Int × List Int × Bool × Unit) (points : List Int) (out0 : Int) (i : (Int) × Bool × (List Int) × Unit) : TT wT :=
 .ite (i.2.1)
 (.ite (decide (i.1 < len points))
 (.ite (decide (i.1 < 4))
 (.need (inb i.1 (len points)) <| .triv (asT Int 3 ≠ 0) zd <| .need (1 * 8 ≤ 140737488355328) <| .tt <| .lt (w64 (i.1 + 1) : Int) fun z => .lt ([w64 (2 + w64 (Int.tmod (gi points i.1 0) 3))] : List Int) fun z1 => .xC ((xT 4 0 1 true) ∧ (xK z <| wa ∧ wb ∧ xL points out0)) <| .xC (xB (xR 3 z1) <| xB wj <| xB (xE 35 d.1 d.2.1 d.2.2.1 d.2.2.2.1) True) <| .ok (.inl ((z, false, z1, ()))))
 (.call (adU ((d.1, d.2.1, d.2.2.1, d.2.2.2.1, ()), [], out0, ())) Dz6 fun y =>
 .ok (.inr (((y.1.1, y.1.2.1, y.1.2.2.1, ()), ())))))
 (.call (adU ((d.1, d.2.1, d.2.2.1, d.2.2.2.1, ()), [], out0, ())) Dz6 fun y1 =>
 .ok (.inr (((y1.1.1, y1.1.2.1, y1.1.2.2.1, ()), ())))))
 (.ite (decide (i.1 < len points))
 (.ite (decide (i.1 < 4))
 (.need (inb i.1 (len points)) <| .triv (asT Int 3 ≠ 0) zd <| .need ((List.length i.2.2.1 + 1) * 8 ≤ 140737488355328) <| .tt <| .lt (w64 (i.1 + 1) : Int) fun z2 => .lt (List.take (List.length i.2.2.1) i.2.2.1 ++ [w64 (2 + w64 (Int.tmod (gi points i.1 0) 3))] : List Int) fun z3 => .need ((((4) = (4)) ∧ (((0) = (0)) ∧ ((List.length i.2.2.1 + 1 = List.length z3) ∧ ((true) = (true))))) ∧ ((z2 : Int) = z2) ∧ (((1) = (1)) ∧ (((0) = (0)) ∧ ((true) = (true)))) ∧ (((0) = (0)) ∧ (((0) = (0)) ∧ ((true) = (true)))) ∧ ((points) = (points)) ∧ ((out0) = (out0)) ∧ True) <| .xC (xB (xR 3 z3) <| xB wj <| xB (xE 35 d.1 d.2.1 d.2.2.1 d.2.2.2.1) True) <| .ok (.inl ((z2, false, z3, ()))))
 (.call (adU ((d.1, d.2.1, d.2.2.1, d.2.2.2.1, ()), List.take (List.length i.2.2.1) i.2.2.1, out0, ())) Dz6 fun y2 =>
 .ok (.inr (((y2.1.1, y2.1.2.1, y2.1.2.2.1, ()), ())))))
 (.call (adU ((d.1, d.2.1, d.2.2.1, d.2.2.2.1, ()), List.take (List.length i.2.2.1) i.2.2.1, out0, ())) Dz6 fun y3 =>
 .ok (.inr (((y3.1.1, y3.1.2.1, y3.1.2.2.1, ()), ())))))
def ahT (d : List Int × Int × List Int × Bool × Unit) (points : List Int) (out0 : Int) : TT (wg × Unit) :=
 .loop 0 (.tt <| .xC (True ∧ (xK (0 : Int) <| wa ∧ wb ∧ xL points out0)) <| .xC (xB wj <| xB (xE 35 d.1 d.2.1 d.2.2.1 d.2.2.2.1) True) <| .ok ((0, true, [], ()))) (arF d points out0)
end
open Go Go.Vg
theorem aBw (d : List Int × Int × List Int × Bool × Unit) (hd : wfG d) (pts : List Int) (hp : (1 ≤ pts.length ∧ pts.length ≤ 4) ∧ ∀ n ∈ pts, 0 ≤ n ∧ n ≤ 255) (out : Int) (ho : 1 ≤ out ∧ out ≤ 3) : WP (ahT d pts out) fun y => afY y.1 ∧ y.1.1.length = pts.length ∧ y.1.2.1 = out := by
 obtain ⟨⟨p1, p4⟩, hp⟩ := hp
 unfold ahT
 refine adY (fun i : Int × Bool × List Int × Unit => ∃ k : Nat, i.1 = (k : Int) ∧ k ≤ pts.length ∧ i.2.2.1.length = k ∧ (∀ n ∈ i.2.2.1, 2 ≤ n ∧ n ≤ 4) ∧ (i.2.1 = true → k = 0)) (fun i => (4 - i.1).toNat) (aaA (aaA (aaA (aaP ⟨0, rfl, zA _, rfl, by simp, fun _ => rfl⟩)))) ?_
 intro i hi
 obtain ⟨i, f, l, u⟩ := i
 obtain ⟨k, e, hk, hl, hz, hf⟩ := hi
 dsimp only at e hl hz hf
 subst e
 have ewk : w64 ((k : Int) + 1) = ((k + 1 : Nat) : Int) := (aaD ⟨by omega, by omega⟩).trans zc
 have hv : k < pts.length → 2 ≤ w64 (2 + w64 (Int.tmod (gi pts (k : Int) 0) 3)) ∧ w64 (2 + w64 (Int.tmod (gi pts (k : Int) 0) 3)) ≤ 4 := by
  intro h
  have h0 := hp _ (aa3 h 0)
  have ht := adJ (a := pts.getD k 0) (k := 3) zc h0.1
  rw [aaI, aaD (x := Int.tmod _ _) ⟨by omega, by omega⟩, aaD ⟨by omega, by omega⟩]
  omega
 unfold arF
 cases f with
 | true =>
  have k0 := hf rfl
  subst k0
  refine aaL (fun _ => ?_) (fun h => by cases h)
  refine aaL (fun a => ?_) (fun a => absurd (of_decide_eq_false a) (by rw [aaB]; dsimp only; omega))
  refine aaL (fun b => ?_) (fun b => absurd (of_decide_eq_false b) zg)
  have hv := hv zc
  refine aaF ⟨by dsimp only; omega, by rw [aaB]; dsimp only; omega⟩ (aaA (aaF zc (aaA (aaQ (aaQ (aaA (aaA (aaP ⟨⟨1, ewk, by omega, rfl, ?_, fun h => by cases h⟩, ?_⟩))))))))
  ·intro n hn
   rw [zG.1 hn]; exact hv
  ·show (4 - w64 (((0 : Nat) : Int) + 1)).toNat < (4 - ((0 : Nat) : Int)).toNat
   rw [ewk]; omega
 | false =>
  refine aaL (fun h => by cases h) (fun _ => ?_)
  have etk : List.take (List.length l) l = l := zB
  have hfin : k = pts.length → WP (.call (adU ((d.1, d.2.1, d.2.2.1, d.2.2.2.1, ()), List.take (List.length l) l, out, ())) Dz6 fun y3 => (.ok (.inr ((y3.1.1, y3.1.2.1, y3.1.2.2.1, ()), ())) : TT (wt ⊕ (GrT × Unit)))) fun s => match s with
    | .inl j => (∃ k : Nat, j.1 = (k : Int) ∧ k ≤ pts.length ∧ j.2.2.1.length = k ∧ (∀ n ∈ j.2.2.1, 2 ≤ n ∧ n ≤ 4) ∧ (j.2.1 = true → k = 0)) ∧ (4 - j.1).toNat < (4 - (k : Int)).toNat
    | .inr y => afY y.1 ∧ y.1.1.length = pts.length ∧ y.1.2.1 = out := by
   intro hk
   rw [etk]
   have hs : aNA l := ⟨by omega, hz⟩
   obtain ⟨⟨g, v⟩, eg, g1, g2, g3, g4⟩ := aBu d hd l hs out ho
   have eg : adU ((d.1, d.2.1, d.2.2.1, d.2.2.2.1, ()), l, out, ()) = some (g, v) := eg
   dsimp only at g1 g2 g3 g4
   refine aaN _ eg (aaP ?_)
   obtain ⟨gz, go, gd, w⟩ := g
   dsimp only at g1 g2 g3 g4
   subst g1; subst g2
   have hpr := aFY hs
   have h3 : af1 gz * go ≤ af1 gz * 3 := zL ho.2 zc
   have h1 : af1 gz * 1 ≤ af1 gz * go := zL ho.1 zc
   refine ⟨⟨⟨by dsimp only; omega, by dsimp only; omega⟩, ⟨by dsimp only; omega, by dsimp only; omega⟩, fun n hn => ⟨by have := hz n hn; omega, by have := hz n hn; omega⟩, by dsimp only; omega, ?_, fun v hv => g4 v hv⟩, by dsimp only; omega, rfl⟩
   show (gd.length : Int) = w64 (af1 gz * go)
   rw [aaD ⟨by omega, by omega⟩]; exact g3
  refine aaL (fun a => ?_) (fun a => ?_)
  ·have a' : (k : Int) < len pts := of_decide_eq_true a
   rw [aaB] at a'
   refine aaL (fun b => ?_) (fun b => absurd (of_decide_eq_false b) zg)
   have hv := hv zc
   refine aaF ⟨by dsimp only; omega, by rw [aaB]; dsimp only; omega⟩ (aaA (aaF (by show (l.length + 1) * 8 ≤ 140737488355328; omega) (aaA (aaQ (aaQ (aaF zf (aaA (aaP ⟨⟨k + 1, ewk, by omega, ?_, ?_, fun h => by cases h⟩, ?_⟩))))))))
   ·show (List.take l.length l ++ [_]).length = k + 1
    rw [etk, zu]; simp; omega
   ·intro n hn
    rcases zx.1 hn with h | h
    ·rw [etk] at h; exact hz n h
    ·rw [zG.1 h]; exact hv
   ·show (4 - w64 ((k : Int) + 1)).toNat < (4 - (k : Int)).toNat
    rw [ewk]; omega
  ·have a' : ¬ (k : Int) < len pts := of_decide_eq_false a
   rw [aaB] at a'
   exact aLo (hfin zc) fun s hs => by cases s <;> exact hs
noncomputable def aaG (x : (List Int × Int × List Int × Bool × Unit) × List Int × Int × Unit) : Option (GrT × Unit) := (ahT x.1 x.2.1 x.2.2.1).toO
set_option maxRecDepth 100000
set_option maxHeartbeats 0
open Go Go.Vg Go.Proofs
noncomputable section
def awR : LTab := [(98, 7, 9228, ⟨0, Int × Int × Unit, .alt (.s 1) [1, 2, 3, 4] <| .alt (.s 6) [1, 2, 3] <| .nil, [5, 4, 2], [8, 1, 0], 0⟩), (98, 1962, 888888888, uS), (98, 7866, 888888888, uS), (98, 2013770, 888888888, uS), (98, 251866, 888888888, uS)]
def acG (d : DeT) : TT (ElT × Unit) :=
 .triv ((2 + 1) * 1 ≤ 140737488355328) zd <| .ite (decide (w64 (w64 (w64 (0 + 1) + 1) + 1) < len d.2.2.2.2.2.1.1))
 (.triv ((3 + 1) * 1 ≤ 140737488355328) zd <| .call (aaG ((grD d), List.take 4 (List.take 3 (List.take 2 ([0] ++ [0]) ++ [0]) ++ [0]), 1, ())) Dz6 fun y82 =>
 .ok ((xG d y82.1, ())))
 (.triv ((3 + 1) * 1 ≤ 140737488355328) zd <| .call (aaG ((grD d), List.take 4 (List.take 3 (List.take 2 ([0] ++ [0]) ++ [0]) ++ [0]), 1, ())) Dz6 fun y83 =>
 .ok ((xG d y83.1, ())))
def acF (d : DeT) : TT (ElT × Unit) :=
 .triv ((2 + 1) * 1 ≤ 140737488355328) zd <| .ite (decide (w64 (w64 (w64 (0 + 1) + 1) + 1) < len d.2.2.2.2.2.1.1))
 (.triv ((3 + 1) * 1 ≤ 140737488355328) zd <| .call (aaG ((grD d), List.take 4 (List.take 3 (List.take 2 ([0] ++ [0]) ++ [0]) ++ [0]), 2, ())) Dz6 fun y104 =>
 .ok ((xG d y104.1, ())))
 (.triv ((3 + 1) * 1 ≤ 140737488355328) zd <| .call (aaG ((grD d), List.take 4 (List.take 3 (List.take 2 ([0] ++ [0]) ++ [0]) ++ [0]), 2, ())) Dz6 fun y105 =>
 .ok ((xG d y105.1, ())))
def acE (d : DeT) : TT (ElT × Unit) :=
 .triv ((2 + 1) * 1 ≤ 140737488355328) zd <| .ite (decide (w64 (w64 (w64 (0 + 1) + 1) + 1) < len d.2.2.2.2.2.1.1))
 (.triv ((3 + 1) * 1 ≤ 140737488355328) zd <| .call (aaG ((grD d), List.take 4 (List.take 3 (List.take 2 ([0] ++ [0]) ++ [0]) ++ [0]), 3, ())) Dz6 fun y126 =>
 .ok ((xG d y126.1, ())))
 (.triv ((3 + 1) * 1 ≤ 140737488355328) zd <| .call (aaG ((grD d), List.take 4 (List.take 3 (List.take 2 ([0] ++ [0]) ++ [0]) ++ [0]), 3, ())) Dz6 fun y127 =>
 .ok ((xG d y127.1, ())))
def aeH (d : DeT) : TT (ElT × Unit) :=
 .triv (1 * 1 ≤ 140737488355328) zd <| .ite (decide (w64 (0 + 1) < len d.2.2.2.2.2.1.1))
 (.triv ((1 + 1) * 1 ≤ 140737488355328) zd <| .ite (decide (w64 (w64 (0 + 1) + 1) < len d.2.2.2.2.2.1.1))
 (acG d)
 (acG d))
 (.triv ((1 + 1) * 1 ≤ 140737488355328) zd <| .ite (decide (w64 (w64 (0 + 1) + 1) < len d.2.2.2.2.2.1.1))
 (acG d)
 (acG d))
def aeG (d : DeT) : TT (ElT × Unit) :=
 .triv (1 * 1 ≤ 140737488355328) zd <| .ite (decide (w64 (0 + 1) < len d.2.2.2.2.2.1.1))
 (.triv ((1 + 1) * 1 ≤ 140737488355328) zd <| .ite (decide (w64 (w64 (0 + 1) + 1) < len d.2.2.2.2.2.1.1))
 (acF d)
 (acF d))
 (.triv ((1 + 1) * 1 ≤ 140737488355328) zd <| .ite (decide (w64 (w64 (0 + 1) + 1) < len d.2.2.2.2.2.1.1))
 (acF d)
 (acF d))
def aeF (d : DeT) : TT (ElT × Unit) :=
 .triv (1 * 1 ≤ 140737488355328) zd <| .ite (decide (w64 (0 + 1) < len d.2.2.2.2.2.1.1))
 (.triv ((1 + 1) * 1 ≤ 140737488355328) zd <| .ite (decide (w64 (w64 (0 + 1) + 1) < len d.2.2.2.2.2.1.1))
 (acE d)
 (acE d))
 (.triv ((1 + 1) * 1 ≤ 140737488355328) zd <| .ite (decide (w64 (w64 (0 + 1) + 1) < len d.2.2.2.2.2.1.1))
 (acE d)
 (acE d))
def alB (d : DeT) (ins : Int) (j : Int × Int × Unit) : TT (ElT × Unit) :=
 .ite (j.1 == 1)
 (.ite (j.2.1 == 1)
  (.ite (kD d == 1)
   (.t4 <| .call (aaK ((cD (List.headD d.2.2.1 c0D)), ())) Dz7 fun y =>
    .need (1 * 56 ≤ 140737488355328) <| .ok (((kD d, [rV y.1], [], [], ([], 0, [], ()), [], 0, 0, ()), ())))
   (.ite (kD d == 2)
    (.t4 <| .t4 <| .need (1 * 8 ≤ 140737488355328) <| .need (1 * 24 ≤ 140737488355328) <| .t4 <| .need (1 * 8 ≤ 140737488355328) <| .ok (((kD d, [], [[mD (abT d.2.2.2.1)]], [oD d.2.2.2.2.1], ([], 0, [], ()), [], 0, 0, ()), ())))
    (.ite (kD d == 3)
     (.ite (decide (0 < len d.2.2.2.2.2.1.1))
      (.need (asT Int 0 ≤ 0 ∧ 0 < len d.2.2.2.2.2.1.1) <| .need (1 * 1 ≤ 140737488355328) <| .call (aaG ((grD d), [gi d.2.2.2.2.2.1.1 0 0], 1, ())) Dz6 fun y1 =>
       .ok ((xG d y1.1, ())))
      (.triv (1 * 1 ≤ 140737488355328) zd <| .call (aaG ((grD d), [0], 1, ())) Dz6 fun y2 =>
       .ok ((xG d y2.1, ()))))
     (.call (aaZ ((pgD 1 d), ())) Dz8 fun y3 =>
      .call (aaV ((pgD 1 d), ())) Dz3 fun y4 =>
      .ok ((xP d y3.1 1 y4.1, ()))))))
  (.ite (j.2.1 == 2)
   (.ite (kD d == 1)
    (.t4 <| .call (aaK ((cD (List.headD d.2.2.1 c0D)), ())) Dz7 fun y5 =>
     .need (1 * 56 ≤ 140737488355328) <| .ok (((kD d, [rV y5.1], [], [], ([], 0, [], ()), [], 0, 0, ()), ())))
    (.ite (kD d == 2)
     (.t4 <| .t4 <| .need (1 * 8 ≤ 140737488355328) <| .need (1 * 24 ≤ 140737488355328) <| .t4 <| .need (1 * 8 ≤ 140737488355328) <| .triv (inb (w64 (0 + 1)) (↑4 : Int)) zd <| .t4 <| .need (1 * 8 ≤ 140737488355328) <| .need ((1 + 1) * 24 ≤ 140737488355328) <| .triv (inb (w64 (0 + 1)) (↑4 : Int)) zd <| .need ((1 + 1) * 8 ≤ 140737488355328) <| .ok (((kD d, [], List.take 2 ([[mD (abT d.2.2.2.1)]] ++ [[mD (abT (List.tail d.2.2.2.1))]]), List.take 2 ([oD d.2.2.2.2.1] ++ [oD (List.tail d.2.2.2.2.1)]), ([], 0, [], ()), [], 0, 0, ()), ())))
     (.ite (kD d == 3)
      (.ite (decide (0 < len d.2.2.2.2.2.1.1))
       (.need (asT Int 0 ≤ 0 ∧ 0 < len d.2.2.2.2.2.1.1) <| .need (1 * 1 ≤ 140737488355328) <| .call (aaG ((grD d), [gi d.2.2.2.2.2.1.1 0 0], 2, ())) Dz6 fun y6 =>
        .ok ((xG d y6.1, ())))
       (.triv (1 * 1 ≤ 140737488355328) zd <| .call (aaG ((grD d), [0], 2, ())) Dz6 fun y7 =>
        .ok ((xG d y7.1, ()))))
      (.call (aaZ ((pgD 1 d), ())) Dz8 fun y8 =>
       .call (aaV ((pgD 1 d), ())) Dz3 fun y9 =>
       .ok ((xP d y8.1 1 y9.1, ()))))))
   (.ite (j.2.1 == 3)
    (.ite (kD d == 1)
     (.t4 <| .call (aaK ((cD (List.headD d.2.2.1 c0D)), ())) Dz7 fun y10 =>
      .need (1 * 56 ≤ 140737488355328) <| .ok (((kD d, [rV y10.1], [], [], ([], 0, [], ()), [], 0, 0, ()), ())))
     (.ite (kD d == 2)
      (.t4 <| .t4 <| .need (1 * 8 ≤ 140737488355328) <| .need (1 * 24 ≤ 140737488355328) <| .t4 <| .need (1 * 8 ≤ 140737488355328) <| .triv (inb (w64 (0 + 1)) (↑4 : Int)) zd <| .t4 <| .need (1 * 8 ≤ 140737488355328) <| .need ((1 + 1) * 24 ≤ 140737488355328) <| .triv (inb (w64 (0 + 1)) (↑4 : Int)) zd <| .need ((1 + 1) * 8 ≤ 140737488355328) <| .triv (inb (w64 (w64 (0 + 1) + 1)) (↑4 : Int)) zd <| .t4 <| .need (1 * 8 ≤ 140737488355328) <| .need ((2 + 1) * 24 ≤ 140737488355328) <| .triv (inb (w64 (w64 (0 + 1) + 1)) (↑4 : Int)) zd <| .need ((2 + 1) * 8 ≤ 140737488355328) <| .ok (((kD d, [], List.take 3 (List.take 2 ([[mD (abT d.2.2.2.1)]] ++ [[mD (abT (List.tail d.2.2.2.1))]]) ++ [[mD (abT (List.tail (List.tail d.2.2.2.1)))]]), List.take 3 (List.take 2 ([oD d.2.2.2.2.1] ++ [oD (List.tail d.2.2.2.2.1)]) ++ [oD (List.tail (List.tail d.2.2.2.2.1))]), ([], 0, [], ()), [], 0, 0, ()), ())))
      (.ite (kD d == 3)
       (.ite (decide (0 < len d.2.2.2.2.2.1.1))
        (.need (asT Int 0 ≤ 0 ∧ 0 < len d.2.2.2.2.2.1.1) <| .need (1 * 1 ≤ 140737488355328) <| .call (aaG ((grD d), [gi d.2.2.2.2.2.1.1 0 0], 3, ())) Dz6 fun y11 =>
         .ok ((xG d y11.1, ())))
        (.triv (1 * 1 ≤ 140737488355328) zd <| .call (aaG ((grD d), [0], 3, ())) Dz6 fun y12 =>
         .ok ((xG d y12.1, ()))))
       (.call (aaZ ((pgD 1 d), ())) Dz8 fun y13 =>
        .call (aaV ((pgD 1 d), ())) Dz3 fun y14 =>
        .ok ((xP d y13.1 1 y14.1, ()))))))
    (.bad))))
 (.ite (j.1 == 2)
  (.ite (j.2.1 == 1)
   (.ite (kD d == 1)
    (.t4 <| .call (aaK ((cD (List.headD d.2.2.1 c0D)), ())) Dz7 fun y15 =>
     .need (1 * 56 ≤ 140737488355328) <| .triv (inb (w64 (0 + 1)) (↑4 : Int)) zd <| .call (aaK ((cD (List.headD (List.tail d.2.2.1) c0D)), ())) Dz7 fun y16 =>
     .need ((1 + 1) * 56 ≤ 140737488355328) <| .ok (((kD d, List.take 2 ([rV y15.1] ++ [rV y16.1]), [], [], ([], 0, [], ()), [], 0, 0, ()), ())))
    (.ite (kD d == 2)
     (.t4 <| .t4 <| .need (1 * 8 ≤ 140737488355328) <| .t4 <| .triv (inb (w64 (0 + 1)) (↑4 : Int)) zd <| .need ((1 + 1) * 8 ≤ 140737488355328) <| .need (1 * 24 ≤ 140737488355328) <| .t4 <| .need (1 * 8 ≤ 140737488355328) <| .ok (((kD d, [], [List.take 2 ([mD (abT d.2.2.2.1)] ++ [mD (List.tail (abT d.2.2.2.1))])], [oD d.2.2.2.2.1], ([], 0, [], ()), [], 0, 0, ()), ())))
     (.ite (kD d == 3)
      (.ite (decide (0 < len d.2.2.2.2.2.1.1))
       (.need (asT Int 0 ≤ 0 ∧ 0 < len d.2.2.2.2.2.1.1) <| .need (1 * 1 ≤ 140737488355328) <| .ite (decide (w64 (0 + 1) < len d.2.2.2.2.2.1.1))
        (.need (inb (w64 (0 + 1)) (len d.2.2.2.2.2.1.1)) <| .need ((1 + 1) * 1 ≤ 140737488355328) <| .call (aaG ((grD d), List.take 2 ([gi d.2.2.2.2.2.1.1 0 0] ++ [gi d.2.2.2.2.2.1.1 (w64 (0 + 1)) 0]), 1, ())) Dz6 fun y17 =>
         .ok ((xG d y17.1, ())))
        (.triv ((1 + 1) * 1 ≤ 140737488355328) zd <| .call (aaG ((grD d), List.take 2 ([gi d.2.2.2.2.2.1.1 0 0] ++ [0]), 1, ())) Dz6 fun y18 =>
         .ok ((xG d y18.1, ()))))
       (.triv (1 * 1 ≤ 140737488355328) zd <| .ite (decide (w64 (0 + 1) < len d.2.2.2.2.2.1.1))
        (.need (inb (w64 (0 + 1)) (len d.2.2.2.2.2.1.1)) <| .need ((1 + 1) * 1 ≤ 140737488355328) <| .call (aaG ((grD d), List.take 2 ([0] ++ [gi d.2.2.2.2.2.1.1 (w64 (0 + 1)) 0]), 1, ())) Dz6 fun y19 =>
         .ok ((xG d y19.1, ())))
        (.triv ((1 + 1) * 1 ≤ 140737488355328) zd <| .call (aaG ((grD d), List.take 2 ([0] ++ [0]), 1, ())) Dz6 fun y20 =>
         .ok ((xG d y20.1, ())))))
      (.call (aaZ ((pgD 2 d), ())) Dz8 fun y21 =>
       .call (aaV ((pgD 2 d), ())) Dz3 fun y22 =>
       .ok ((xP d y21.1 2 y22.1, ()))))))
   (.ite (j.2.1 == 2)
    (.ite (kD d == 1)
     (.t4 <| .call (aaK ((cD (List.headD d.2.2.1 c0D)), ())) Dz7 fun y23 =>
      .need (1 * 56 ≤ 140737488355328) <| .triv (inb (w64 (0 + 1)) (↑4 : Int)) zd <| .call (aaK ((cD (List.headD (List.tail d.2.2.1) c0D)), ())) Dz7 fun y24 =>
      .need ((1 + 1) * 56 ≤ 140737488355328) <| .ok (((kD d, List.take 2 ([rV y23.1] ++ [rV y24.1]), [], [], ([], 0, [], ()), [], 0, 0, ()), ())))
     (.ite (kD d == 2)
      (.t4 <| .t4 <| .need (1 * 8 ≤ 140737488355328) <| .t4 <| .triv (inb (w64 (0 + 1)) (↑4 : Int)) zd <| .need ((1 + 1) * 8 ≤ 140737488355328) <| .need (1 * 24 ≤ 140737488355328) <| .t4 <| .need (1 * 8 ≤ 140737488355328) <| .triv (inb (w64 (0 + 1)) (↑4 : Int)) zd <| .t4 <| .need (1 * 8 ≤ 140737488355328) <| .triv (inb (w64 (0 + 1)) (↑4 : Int)) zd <| .triv (inb (w64 (0 + 1)) (↑4 : Int)) zd <| .need ((1 + 1) * 8 ≤ 140737488355328) <| .need ((1 + 1) * 24 ≤ 140737488355328) <| .triv (inb (w64 (0 + 1)) (↑4 : Int)) zd <| .need ((1 + 1) * 8 ≤ 140737488355328) <| .ok (((kD d, [], List.take 2 ([List.take 2 ([mD (abT d.2.2.2.1)] ++ [mD (List.tail (abT d.2.2.2.1))])] ++ [List.take 2 ([mD (abT (List.tail d.2.2.2.1))] ++ [mD (List.tail (abT (List.tail d.2.2.2.1)))])]), List.take 2 ([oD d.2.2.2.2.1] ++ [oD (List.tail d.2.2.2.2.1)]), ([], 0, [], ()), [], 0, 0, ()), ())))
      (.ite (kD d == 3)
       (.ite (decide (0 < len d.2.2.2.2.2.1.1))
        (.need (asT Int 0 ≤ 0 ∧ 0 < len d.2.2.2.2.2.1.1) <| .need (1 * 1 ≤ 140737488355328) <| .ite (decide (w64 (0 + 1) < len d.2.2.2.2.2.1.1))
         (.need (inb (w64 (0 + 1)) (len d.2.2.2.2.2.1.1)) <| .need ((1 + 1) * 1 ≤ 140737488355328) <| .call (aaG ((grD d), List.take 2 ([gi d.2.2.2.2.2.1.1 0 0] ++ [gi d.2.2.2.2.2.1.1 (w64 (0 + 1)) 0]), 2, ())) Dz6 fun y25 =>
          .ok ((xG d y25.1, ())))
         (.triv ((1 + 1) * 1 ≤ 140737488355328) zd <| .call (aaG ((grD d), List.take 2 ([gi d.2.2.2.2.2.1.1 0 0] ++ [0]), 2, ())) Dz6 fun y26 =>
          .ok ((xG d y26.1, ()))))
        (.triv (1 * 1 ≤ 140737488355328) zd <| .ite (decide (w64 (0 + 1) < len d.2.2.2.2.2.1.1))
         (.need (inb (w64 (0 + 1)) (len d.2.2.2.2.2.1.1)) <| .need ((1 + 1) * 1 ≤ 140737488355328) <| .call (aaG ((grD d), List.take 2 ([0] ++ [gi d.2.2.2.2.2.1.1 (w64 (0 + 1)) 0]), 2, ())) Dz6 fun y27 =>
          .ok ((xG d y27.1, ())))
         (.triv ((1 + 1) * 1 ≤ 140737488355328) zd <| .call (aaG ((grD d), List.take 2 ([0] ++ [0]), 2, ())) Dz6 fun y28 =>
          .ok ((xG d y28.1, ())))))
       (.call (aaZ ((pgD 2 d), ())) Dz8 fun y29 =>
        .call (aaV ((pgD 2 d), ())) Dz3 fun y30 =>
        .ok ((xP d y29.1 2 y30.1, ()))))))
    (.ite (j.2.1 == 3)
     (.ite (kD d == 1)
      (.t4 <| .call (aaK ((cD (List.headD d.2.2.1 c0D)), ())) Dz7 fun y31 =>
       .need (1 * 56 ≤ 140737488355328) <| .triv (inb (w64 (0 + 1)) (↑4 : Int)) zd <| .call (aaK ((cD (List.headD (List.tail d.2.2.1) c0D)), ())) Dz7 fun y32 =>
       .need ((1 + 1) * 56 ≤ 140737488355328) <| .ok (((kD d, List.take 2 ([rV y31.1] ++ [rV y32.1]), [], [], ([], 0, [], ()), [], 0, 0, ()), ())))
      (.ite (kD d == 2)
       (.t4 <| .t4 <| .need (1 * 8 ≤ 140737488355328) <| .t4 <| .triv (inb (w64 (0 + 1)) (↑4 : Int)) zd <| .need ((1 + 1) * 8 ≤ 140737488355328) <| .need (1 * 24 ≤ 140737488355328) <| .t4 <| .need (1 * 8 ≤ 140737488355328) <| .triv (inb (w64 (0 + 1)) (↑4 : Int)) zd <| .t4 <| .need (1 * 8 ≤ 140737488355328) <| .triv (inb (w64 (0 + 1)) (↑4 : Int)) zd <| .triv (inb (w64 (0 + 1)) (↑4 : Int)) zd <| .need ((1 + 1) * 8 ≤ 140737488355328) <| .need ((1 + 1) * 24 ≤ 140737488355328) <| .triv (inb (w64 (0 + 1)) (↑4 : Int)) zd <| .need ((1 + 1) * 8 ≤ 140737488355328) <| .triv (inb (w64 (w64 (0 + 1) + 1)) (↑4 : Int)) zd <| .t4 <| .need (1 * 8 ≤ 140737488355328) <| .triv (inb (w64 (w64 (0 + 1) + 1)) (↑4 : Int)) zd <| .triv (inb (w64 (0 + 1)) (↑4 : Int)) zd <| .need ((1 + 1) * 8 ≤ 140737488355328) <| .need ((2 + 1) * 24 ≤ 140737488355328) <| .triv (inb (w64 (w64 (0 + 1) + 1)) (↑4 : Int)) zd <| .need ((2 + 1) * 8 ≤ 140737488355328) <| .ok (((kD d, [], List.take 3 (List.take 2 ([List.take 2 ([mD (abT d.2.2.2.1)] ++ [mD (List.tail (abT d.2.2.2.1))])] ++ [List.take 2 ([mD (abT (List.tail d.2.2.2.1))] ++ [mD (List.tail (abT (List.tail d.2.2.2.1)))])]) ++ [List.take 2 ([mD (abT (List.tail (List.tail d.2.2.2.1)))] ++ [mD (List.tail (abT (List.tail (List.tail d.2.2.2.1))))])]), List.take 3 (List.take 2 ([oD d.2.2.2.2.1] ++ [oD (List.tail d.2.2.2.2.1)]) ++ [oD (List.tail (List.tail d.2.2.2.2.1))]), ([], 0, [], ()), [], 0, 0, ()), ())))
       (.ite (kD d == 3)
        (.ite (decide (0 < len d.2.2.2.2.2.1.1))
         (.need (asT Int 0 ≤ 0 ∧ 0 < len d.2.2.2.2.2.1.1) <| .need (1 * 1 ≤ 140737488355328) <| .ite (decide (w64 (0 + 1) < len d.2.2.2.2.2.1.1))
          (.need (inb (w64 (0 + 1)) (len d.2.2.2.2.2.1.1)) <| .need ((1 + 1) * 1 ≤ 140737488355328) <| .call (aaG ((grD d), List.take 2 ([gi d.2.2.2.2.2.1.1 0 0] ++ [gi d.2.2.2.2.2.1.1 (w64 (0 + 1)) 0]), 3, ())) Dz6 fun y33 =>
           .ok ((xG d y33.1, ())))
          (.triv ((1 + 1) * 1 ≤ 140737488355328) zd <| .call (aaG ((grD d), List.take 2 ([gi d.2.2.2.2.2.1.1 0 0] ++ [0]), 3, ())) Dz6 fun y34 =>
           .ok ((xG d y34.1, ()))))
         (.triv (1 * 1 ≤ 140737488355328) zd <| .ite (decide (w64 (0 + 1) < len d.2.2.2.2.2.1.1))
          (.need (inb (w64 (0 + 1)) (len d.2.2.2.2.2.1.1)) <| .need ((1 + 1) * 1 ≤ 140737488355328) <| .call (aaG ((grD d), List.take 2 ([0] ++ [gi d.2.2.2.2.2.1.1 (w64 (0 + 1)) 0]), 3, ())) Dz6 fun y35 =>
           .ok ((xG d y35.1, ())))
          (.triv ((1 + 1) * 1 ≤ 140737488355328) zd <| .call (aaG ((grD d), List.take 2 ([0] ++ [0]), 3, ())) Dz6 fun y36 =>
           .ok ((xG d y36.1, ())))))
        (.call (aaZ ((pgD 2 d), ())) Dz8 fun y37 =>
         .call (aaV ((pgD 2 d), ())) Dz3 fun y38 =>
         .ok ((xP d y37.1 2 y38.1, ()))))))
     (.bad))))
  (.ite (j.1 == 3)
   (.ite (j.2.1 == 1)
    (.ite (kD d == 1)
     (.t4 <| .call (aaK ((cD (List.headD d.2.2.1 c0D)), ())) Dz7 fun y39 =>
      .need (1 * 56 ≤ 140737488355328) <| .triv (inb (w64 (0 + 1)) (↑4 : Int)) zd <| .call (aaK ((cD (List.headD (List.tail d.2.2.1) c0D)), ())) Dz7 fun y40 =>
      .need ((1 + 1) * 56 ≤ 140737488355328) <| .triv (inb (w64 (w64 (0 + 1) + 1)) (↑4 : Int)) zd <| .call (aaK ((cD (List.headD (List.tail (List.tail d.2.2.1)) c0D)), ())) Dz7 fun y41 =>
      .need ((2 + 1) * 56 ≤ 140737488355328) <| .ok (((kD d, List.take 3 (List.take 2 ([rV y39.1] ++ [rV y40.1]) ++ [rV y41.1]), [], [], ([], 0, [], ()), [], 0, 0, ()), ())))
     (.ite (kD d == 2)
      (.t4 <| .t4 <| .need (1 * 8 ≤ 140737488355328) <| .t4 <| .triv (inb (w64 (0 + 1)) (↑4 : Int)) zd <| .need ((1 + 1) * 8 ≤ 140737488355328) <| .t4 <| .triv (inb (w64 (w64 (0 + 1) + 1)) (↑4 : Int)) zd <| .need ((2 + 1) * 8 ≤ 140737488355328) <| .need (1 * 24 ≤ 140737488355328) <| .t4 <| .need (1 * 8 ≤ 140737488355328) <| .ok (((kD d, [], [List.take 3 (List.take 2 ([mD (abT d.2.2.2.1)] ++ [mD (List.tail (abT d.2.2.2.1))]) ++ [mD (List.tail (List.tail (abT d.2.2.2.1)))])], [oD d.2.2.2.2.1], ([], 0, [], ()), [], 0, 0, ()), ())))
      (.ite (kD d == 3)
       (.ite (decide (0 < len d.2.2.2.2.2.1.1))
        (.need (asT Int 0 ≤ 0 ∧ 0 < len d.2.2.2.2.2.1.1) <| .need (1 * 1 ≤ 140737488355328) <| .ite (decide (w64 (0 + 1) < len d.2.2.2.2.2.1.1))
         (.need (inb (w64 (0 + 1)) (len d.2.2.2.2.2.1.1)) <| .need ((1 + 1) * 1 ≤ 140737488355328) <| .ite (decide (w64 (w64 (0 + 1) + 1) < len d.2.2.2.2.2.1.1))
          (.need (inb (w64 (w64 (0 + 1) + 1)) (len d.2.2.2.2.2.1.1)) <| .need ((2 + 1) * 1 ≤ 140737488355328) <| .call (aaG ((grD d), List.take 3 (List.take 2 ([gi d.2.2.2.2.2.1.1 0 0] ++ [gi d.2.2.2.2.2.1.1 (w64 (0 + 1)) 0]) ++ [gi d.2.2.2.2.2.1.1 (w64 (w64 (0 + 1) + 1)) 0]), 1, ())) Dz6 fun y42 =>
           .ok ((xG d y42.1, ())))
          (.triv ((2 + 1) * 1 ≤ 140737488355328) zd <| .call (aaG ((grD d), List.take 3 (List.take 2 ([gi d.2.2.2.2.2.1.1 0 0] ++ [gi d.2.2.2.2.2.1.1 (w64 (0 + 1)) 0]) ++ [0]), 1, ())) Dz6 fun y43 =>
           .ok ((xG d y43.1, ()))))
         (.triv ((1 + 1) * 1 ≤ 140737488355328) zd <| .ite (decide (w64 (w64 (0 + 1) + 1) < len d.2.2.2.2.2.1.1))
          (.need (inb (w64 (w64 (0 + 1) + 1)) (len d.2.2.2.2.2.1.1)) <| .need ((2 + 1) * 1 ≤ 140737488355328) <| .call (aaG ((grD d), List.take 3 (List.take 2 ([gi d.2.2.2.2.2.1.1 0 0] ++ [0]) ++ [gi d.2.2.2.2.2.1.1 (w64 (w64 (0 + 1) + 1)) 0]), 1, ())) Dz6 fun y44 =>
           .ok ((xG d y44.1, ())))
          (.triv ((2 + 1) * 1 ≤ 140737488355328) zd <| .call (aaG ((grD d), List.take 3 (List.take 2 ([gi d.2.2.2.2.2.1.1 0 0] ++ [0]) ++ [0]), 1, ())) Dz6 fun y45 =>
           .ok ((xG d y45.1, ())))))
        (.triv (1 * 1 ≤ 140737488355328) zd <| .ite (decide (w64 (0 + 1) < len d.2.2.2.2.2.1.1))
         (.need (inb (w64 (0 + 1)) (len d.2.2.2.2.2.1.1)) <| .need ((1 + 1) * 1 ≤ 140737488355328) <| .ite (decide (w64 (w64 (0 + 1) + 1) < len d.2.2.2.2.2.1.1))
          (.need (inb (w64 (w64 (0 + 1) + 1)) (len d.2.2.2.2.2.1.1)) <| .need ((2 + 1) * 1 ≤ 140737488355328) <| .call (aaG ((grD d), List.take 3 (List.take 2 ([0] ++ [gi d.2.2.2.2.2.1.1 (w64 (0 + 1)) 0]) ++ [gi d.2.2.2.2.2.1.1 (w64 (w64 (0 + 1) + 1)) 0]), 1, ())) Dz6 fun y46 =>
           .ok ((xG d y46.1, ())))
          (.triv ((2 + 1) * 1 ≤ 140737488355328) zd <| .call (aaG ((grD d), List.take 3 (List.take 2 ([0] ++ [gi d.2.2.2.2.2.1.1 (w64 (0 + 1)) 0]) ++ [0]), 1, ())) Dz6 fun y47 =>
           .ok ((xG d y47.1, ()))))
         (.triv ((1 + 1) * 1 ≤ 140737488355328) zd <| .ite (decide (w64 (w64 (0 + 1) + 1) < len d.2.2.2.2.2.1.1))
          (.need (inb (w64 (w64 (0 + 1) + 1)) (len d.2.2.2.2.2.1.1)) <| .need ((2 + 1) * 1 ≤ 140737488355328) <| .call (aaG ((grD d), List.take 3 (List.take 2 ([0] ++ [0]) ++ [gi d.2.2.2.2.2.1.1 (w64 (w64 (0 + 1) + 1)) 0]), 1, ())) Dz6 fun y48 =>
           .ok ((xG d y48.1, ())))
          (.triv ((2 + 1) * 1 ≤ 140737488355328) zd <| .call (aaG ((grD d), List.take 3 (List.take 2 ([0] ++ [0]) ++ [0]), 1, ())) Dz6 fun y49 =>
           .ok ((xG d y49.1, ()))))))
       (.call (aaZ ((pgD 3 d), ())) Dz8 fun y50 =>
        .call (aaV ((pgD 3 d), ())) Dz3 fun y51 =>
        .ok ((xP d y50.1 3 y51.1, ()))))))
    (.ite (j.2.1 == 2)
     (.ite (kD d == 1)
      (.t4 <| .call (aaK ((cD (List.headD d.2.2.1 c0D)), ())) Dz7 fun y52 =>
       .need (1 * 56 ≤ 140737488355328) <| .triv (inb (w64 (0 + 1)) (↑4 : Int)) zd <| .call (aaK ((cD (List.headD (List.tail d.2.2.1) c0D)), ())) Dz7 fun y53 =>
       .need ((1 + 1) * 56 ≤ 140737488355328) <| .triv (inb (w64 (w64 (0 + 1) + 1)) (↑4 : Int)) zd <| .call (aaK ((cD (List.headD (List.tail (List.tail d.2.2.1)) c0D)), ())) Dz7 fun y54 =>
       .need ((2 + 1) * 56 ≤ 140737488355328) <| .ok (((kD d, List.take 3 (List.take 2 ([rV y52.1] ++ [rV y53.1]) ++ [rV y54.1]), [], [], ([], 0, [], ()), [], 0, 0, ()), ())))
      (.ite (kD d == 2)
       (.t4 <| .t4 <| .need (1 * 8 ≤ 140737488355328) <| .t4 <| .triv (inb (w64 (0 + 1)) (↑4 : Int)) zd <| .need ((1 + 1) * 8 ≤ 140737488355328) <| .t4 <| .triv (inb (w64 (w64 (0 + 1) + 1)) (↑4 : Int)) zd <| .need ((2 + 1) * 8 ≤ 140737488355328) <| .need (1 * 24 ≤ 140737488355328) <| .t4 <| .need (1 * 8 ≤ 140737488355328) <| .triv (inb (w64 (0 + 1)) (↑4 : Int)) zd <| .t4 <| .need (1 * 8 ≤ 140737488355328) <| .triv (inb (w64 (0 + 1)) (↑4 : Int)) zd <| .triv (inb (w64 (0 + 1)) (↑4 : Int)) zd <| .need ((1 + 1) * 8 ≤ 140737488355328) <| .triv (inb (w64 (0 + 1)) (↑4 : Int)) zd <| .triv (inb (w64 (w64 (0 + 1) + 1)) (↑4 : Int)) zd <| .need ((2 + 1) * 8 ≤ 140737488355328) <| .need ((1 + 1) * 24 ≤ 140737488355328) <| .triv (inb (w64 (0 + 1)) (↑4 : Int)) zd <| .need ((1 + 1) * 8 ≤ 140737488355328) <| .ok (((kD d, [], List.take 2 ([List.take 3 (List.take 2 ([mD (abT d.2.2.2.1)] ++ [mD (List.tail (abT d.2.2.2.1))]) ++ [mD (List.tail (List.tail (abT d.2.2.2.1)))])] ++ [List.take 3 (List.take 2 ([mD (abT (List.tail d.2.2.2.1))] ++ [mD (List.tail (abT (List.tail d.2.2.2.1)))]) ++ [mD (List.tail (List.tail (abT (List.tail d.2.2.2.1))))])]), List.take 2 ([oD d.2.2.2.2.1] ++ [oD (List.tail d.2.2.2.2.1)]), ([], 0, [], ()), [], 0, 0, ()), ())))
       (.ite (kD d == 3)
        (.ite (decide (0 < len d.2.2.2.2.2.1.1))
         (.need (asT Int 0 ≤ 0 ∧ 0 < len d.2.2.2.2.2.1.1) <| .need (1 * 1 ≤ 140737488355328) <| .ite (decide (w64 (0 + 1) < len d.2.2.2.2.2.1.1))
          (.need (inb (w64 (0 + 1)) (len d.2.2.2.2.2.1.1)) <| .need ((1 + 1) * 1 ≤ 140737488355328) <| .ite (decide (w64 (w64 (0 + 1) + 1) < len d.2.2.2.2.2.1.1))
           (.need (inb (w64 (w64 (0 + 1) + 1)) (len d.2.2.2.2.2.1.1)) <| .need ((2 + 1) * 1 ≤ 140737488355328) <| .call (aaG ((grD d), List.take 3 (List.take 2 ([gi d.2.2.2.2.2.1.1 0 0] ++ [gi d.2.2.2.2.2.1.1 (w64 (0 + 1)) 0]) ++ [gi d.2.2.2.2.2.1.1 (w64 (w64 (0 + 1) + 1)) 0]), 2, ())) Dz6 fun y55 =>
            .ok ((xG d y55.1, ())))
           (.triv ((2 + 1) * 1 ≤ 140737488355328) zd <| .call (aaG ((grD d), List.take 3 (List.take 2 ([gi d.2.2.2.2.2.1.1 0 0] ++ [gi d.2.2.2.2.2.1.1 (w64 (0 + 1)) 0]) ++ [0]), 2, ())) Dz6 fun y56 =>
            .ok ((xG d y56.1, ()))))
          (.triv ((1 + 1) * 1 ≤ 140737488355328) zd <| .ite (decide (w64 (w64 (0 + 1) + 1) < len d.2.2.2.2.2.1.1))
           (.need (inb (w64 (w64 (0 + 1) + 1)) (len d.2.2.2.2.2.1.1)) <| .need ((2 + 1) * 1 ≤ 140737488355328) <| .call (aaG ((grD d), List.take 3 (List.take 2 ([gi d.2.2.2.2.2.1.1 0 0] ++ [0]) ++ [gi d.2.2.2.2.2.1.1 (w64 (w64 (0 + 1) + 1)) 0]), 2, ())) Dz6 fun y57 =>
            .ok ((xG d y57.1, ())))
           (.triv ((2 + 1) * 1 ≤ 140737488355328) zd <| .call (aaG ((grD d), List.take 3 (List.take 2 ([gi d.2.2.2.2.2.1.1 0 0] ++ [0]) ++ [0]), 2, ())) Dz6 fun y58 =>
            .ok ((xG d y58.1, ())))))
         (.triv (1 * 1 ≤ 140737488355328) zd <| .ite (decide (w64 (0 + 1) < len d.2.2.2.2.2.1.1))
          (.need (inb (w64 (0 + 1)) (len d.2.2.2.2.2.1.1)) <| .need ((1 + 1) * 1 ≤ 140737488355328) <| .ite (decide (w64 (w64 (0 + 1) + 1) < len d.2.2.2.2.2.1.1))
           (.need (inb (w64 (w64 (0 + 1) + 1)) (len d.2.2.2.2.2.1.1)) <| .need ((2 + 1) * 1 ≤ 140737488355328) <| .call (aaG ((grD d), List.take 3 (List.take 2 ([0] ++ [gi d.2.2.2.2.2.1.1 (w64 (0 + 1)) 0]) ++ [gi d.2.2.2.2.2.1.1 (w64 (w64 (0 + 1) + 1)) 0]), 2, ())) Dz6 fun y59 =>
            .ok ((xG d y59.1, ())))
           (.triv ((2 + 1) * 1 ≤ 140737488355328) zd <| .call (aaG ((grD d), List.take 3 (List.take 2 ([0] ++ [gi d.2.2.2.2.2.1.1 (w64 (0 + 1)) 0]) ++ [0]), 2, ())) Dz6 fun y60 =>
            .ok ((xG d y60.1, ()))))
          (.triv ((1 + 1) * 1 ≤ 140737488355328) zd <| .ite (decide (w64 (w64 (0 + 1) + 1) < len d.2.2.2.2.2.1.1))
           (.need (inb (w64 (w64 (0 + 1) + 1)) (len d.2.2.2.2.2.1.1)) <| .need ((2 + 1) * 1 ≤ 140737488355328) <| .call (aaG ((grD d), List.take 3 (List.take 2 ([0] ++ [0]) ++ [gi d.2.2.2.2.2.1.1 (w64 (w64 (0 + 1) + 1)) 0]), 2, ())) Dz6 fun y61 =>
            .ok ((xG d y61.1, ())))
           (.triv ((2 + 1) * 1 ≤ 140737488355328) zd <| .call (aaG ((grD d), List.take 3 (List.take 2 ([0] ++ [0]) ++ [0]), 2, ())) Dz6 fun y62 =>
            .ok ((xG d y62.1, ()))))))
        (.call (aaZ ((pgD 3 d), ())) Dz8 fun y63 =>
         .call (aaV ((pgD 3 d), ())) Dz3 fun y64 =>
         .ok ((xP d y63.1 3 y64.1, ()))))))
     (.ite (j.2.1 == 3)
      (.ite (kD d == 1)
       (.t4 <| .call (aaK ((cD (List.headD d.2.2.1 c0D)), ())) Dz7 fun y65 =>
        .need (1 * 56 ≤ 140737488355328) <| .triv (inb (w64 (0 + 1)) (↑4 : Int)) zd <| .call (aaK ((cD (List.headD (List.tail d.2.2.1) c0D)), ())) Dz7 fun y66 =>
        .need ((1 + 1) * 56 ≤ 140737488355328) <| .triv (inb (w64 (w64 (0 + 1) + 1)) (↑4 : Int)) zd <| .call (aaK ((cD (List.headD (List.tail (List.tail d.2.2.1)) c0D)), ())) Dz7 fun y67 =>
        .need ((2 + 1) * 56 ≤ 140737488355328) <| .ok (((kD d, List.take 3 (List.take 2 ([rV y65.1] ++ [rV y66.1]) ++ [rV y67.1]), [], [], ([], 0, [], ()), [], 0, 0, ()), ())))
       (.ite (kD d == 2)
        (.t4 <| .t4 <| .need (1 * 8 ≤ 140737488355328) <| .t4 <| .triv (inb (w64 (0 + 1)) (↑4 : Int)) zd <| .need ((1 + 1) * 8 ≤ 140737488355328) <| .t4 <| .triv (inb (w64 (w64 (0 + 1) + 1)) (↑4 : Int)) zd <| .need ((2 + 1) * 8 ≤ 140737488355328) <| .need (1 * 24 ≤ 140737488355328) <| .t4 <| .need (1 * 8 ≤ 140737488355328) <| .triv (inb (w64 (0 + 1)) (↑4 : Int)) zd <| .t4 <| .need (1 * 8 ≤ 140737488355328) <| .triv (inb (w64 (0 + 1)) (↑4 : Int)) zd <| .triv (inb (w64 (0 + 1)) (↑4 : Int)) zd <| .need ((1 + 1) * 8 ≤ 140737488355328) <| .triv (inb (w64 (0 + 1)) (↑4 : Int)) zd <| .triv (inb (w64 (w64 (0 + 1) + 1)) (↑4 : Int)) zd <| .need ((2 + 1) * 8 ≤ 140737488355328) <| .need ((1 + 1) * 24 ≤ 140737488355328) <| .triv (inb (w64 (0 + 1)) (↑4 : Int)) zd <| .need ((1 + 1) * 8 ≤ 140737488355328) <| .triv (inb (w64 (w64 (0 + 1) + 1)) (↑4 : Int)) zd <| .t4 <| .need (1 * 8 ≤ 140737488355328) <| .triv (inb (w64 (w64 (0 + 1) + 1)) (↑4 : Int)) zd <| .triv (inb (w64 (0 + 1)) (↑4 : Int)) zd <| .need ((1 + 1) * 8 ≤ 140737488355328) <| .triv (inb (w64 (w64 (0 + 1) + 1)) (↑4 : Int)) zd <| .triv (inb (w64 (w64 (0 + 1) + 1)) (↑4 : Int)) zd <| .need ((2 + 1) * 8 ≤ 140737488355328) <| .need ((2 + 1) * 24 ≤ 140737488355328) <| .triv (inb (w64 (w64 (0 + 1) + 1)) (↑4 : Int)) zd <| .need ((2 + 1) * 8 ≤ 140737488355328) <| .ok (((kD d, [], List.take 3 (List.take 2 ([List.take 3 (List.take 2 ([mD (abT d.2.2.2.1)] ++ [mD (List.tail (abT d.2.2.2.1))]) ++ [mD (List.tail (List.tail (abT d.2.2.2.1)))])] ++ [List.take 3 (List.take 2 ([mD (abT (List.tail d.2.2.2.1))] ++ [mD (List.tail (abT (List.tail d.2.2.2.1)))]) ++ [mD (List.tail (List.tail (abT (List.tail d.2.2.2.1))))])]) ++ [List.take 3 (List.take 2 ([mD (abT (List.tail (List.tail d.2.2.2.1)))] ++ [mD (List.tail (abT (List.tail (List.tail d.2.2.2.1))))]) ++ [mD (List.tail (List.tail (abT (List.tail (List.tail d.2.2.2.1)))))])]), List.take 3 (List.take 2 ([oD d.2.2.2.2.1] ++ [oD (List.tail d.2.2.2.2.1)]) ++ [oD (List.tail (List.tail d.2.2.2.2.1))]), ([], 0, [], ()), [], 0, 0, ()), ())))
        (.ite (kD d == 3)
         (.ite (decide (0 < len d.2.2.2.2.2.1.1))
          (.need (asT Int 0 ≤ 0 ∧ 0 < len d.2.2.2.2.2.1.1) <| .need (1 * 1 ≤ 140737488355328) <| .ite (decide (w64 (0 + 1) < len d.2.2.2.2.2.1.1))
           (.need (inb (w64 (0 + 1)) (len d.2.2.2.2.2.1.1)) <| .need ((1 + 1) * 1 ≤ 140737488355328) <| .ite (decide (w64 (w64 (0 + 1) + 1) < len d.2.2.2.2.2.1.1))
            (.need (inb (w64 (w64 (0 + 1) + 1)) (len d.2.2.2.2.2.1.1)) <| .need ((2 + 1) * 1 ≤ 140737488355328) <| .call (aaG ((grD d), List.take 3 (List.take 2 ([gi d.2.2.2.2.2.1.1 0 0] ++ [gi d.2.2.2.2.2.1.1 (w64 (0 + 1)) 0]) ++ [gi d.2.2.2.2.2.1.1 (w64 (w64 (0 + 1) + 1)) 0]), 3, ())) Dz6 fun y68 =>
             .ok ((xG d y68.1, ())))
            (.triv ((2 + 1) * 1 ≤ 140737488355328) zd <| .call (aaG ((grD d), List.take 3 (List.take 2 ([gi d.2.2.2.2.2.1.1 0 0] ++ [gi d.2.2.2.2.2.1.1 (w64 (0 + 1)) 0]) ++ [0]), 3, ())) Dz6 fun y69 =>
             .ok ((xG d y69.1, ()))))
           (.triv ((1 + 1) * 1 ≤ 140737488355328) zd <| .ite (decide (w64 (w64 (0 + 1) + 1) < len d.2.2.2.2.2.1.1))
            (.need (inb (w64 (w64 (0 + 1) + 1)) (len d.2.2.2.2.2.1.1)) <| .need ((2 + 1) * 1 ≤ 140737488355328) <| .call (aaG ((grD d), List.take 3 (List.take 2 ([gi d.2.2.2.2.2.1.1 0 0] ++ [0]) ++ [gi d.2.2.2.2.2.1.1 (w64 (w64 (0 + 1) + 1)) 0]), 3, ())) Dz6 fun y70 =>
             .ok ((xG d y70.1, ())))
            (.triv ((2 + 1) * 1 ≤ 140737488355328) zd <| .call (aaG ((grD d), List.take 3 (List.take 2 ([gi d.2.2.2.2.2.1.1 0 0] ++ [0]) ++ [0]), 3, ())) Dz6 fun y71 =>
             .ok ((xG d y71.1, ())))))
          (.triv (1 * 1 ≤ 140737488355328) zd <| .ite (decide (w64 (0 + 1) < len d.2.2.2.2.2.1.1))
           (.need (inb (w64 (0 + 1)) (len d.2.2.2.2.2.1.1)) <| .need ((1 + 1) * 1 ≤ 140737488355328) <| .ite (decide (w64 (w64 (0 + 1) + 1) < len d.2.2.2.2.2.1.1))
            (.need (inb (w64 (w64 (0 + 1) + 1)) (len d.2.2.2.2.2.1.1)) <| .need ((2 + 1) * 1 ≤ 140737488355328) <| .call (aaG ((grD d), List.take 3 (List.take 2 ([0] ++ [gi d.2.2.2.2.2.1.1 (w64 (0 + 1)) 0]) ++ [gi d.2.2.2.2.2.1.1 (w64 (w64 (0 + 1) + 1)) 0]), 3, ())) Dz6 fun y72 =>
             .ok ((xG d y72.1, ())))
            (.triv ((2 + 1) * 1 ≤ 140737488355328) zd <| .call (aaG ((grD d), List.take 3 (List.take 2 ([0] ++ [gi d.2.2.2.2.2.1.1 (w64 (0 + 1)) 0]) ++ [0]), 3, ())) Dz6 fun y73 =>
             .ok ((xG d y73.1, ()))))
           (.triv ((1 + 1) * 1 ≤ 140737488355328) zd <| .ite (decide (w64 (w64 (0 + 1) + 1) < len d.2.2.2.2.2.1.1))
            (.need (inb (w64 (w64 (0 + 1) + 1)) (len d.2.2.2.2.2.1.1)) <| .need ((2 + 1) * 1 ≤ 140737488355328) <| .call (aaG ((grD d), List.take 3 (List.take 2 ([0] ++ [0]) ++ [gi d.2.2.2.2.2.1.1 (w64 (w64 (0 + 1) + 1)) 0]), 3, ())) Dz6 fun y74 =>
             .ok ((xG d y74.1, ())))
            (.triv ((2 + 1) * 1 ≤ 140737488355328) zd <| .call (aaG ((grD d), List.take 3 (List.take 2 ([0] ++ [0]) ++ [0]), 3, ())) Dz6 fun y75 =>
             .ok ((xG d y75.1, ()))))))
         (.call (aaZ ((pgD 3 d), ())) Dz8 fun y76 =>
          .call (aaV ((pgD 3 d), ())) Dz3 fun y77 =>
          .ok ((xP d y76.1 3 y77.1, ()))))))
      (.bad))))
   (.ite (j.1 == 4)
    (.ite (j.2.1 == 1)
     (.ite (kD d == 1)
      (.t4 <| .call (aaK ((cD (List.headD d.2.2.1 c0D)), ())) Dz7 fun y78 =>
       .need (1 * 56 ≤ 140737488355328) <| .triv (inb (w64 (0 + 1)) (↑4 : Int)) zd <| .call (aaK ((cD (List.headD (List.tail d.2.2.1) c0D)), ())) Dz7 fun y79 =>
       .need ((1 + 1) * 56 ≤ 140737488355328) <| .triv (inb (w64 (w64 (0 + 1) + 1)) (↑4 : Int)) zd <| .call (aaK ((cD (List.headD (List.tail (List.tail d.2.2.1)) c0D)), ())) Dz7 fun y80 =>
       .need ((2 + 1) * 56 ≤ 140737488355328) <| .triv (inb (w64 (w64 (w64 (0 + 1) + 1) + 1)) (↑4 : Int)) zd <| .call (aaK ((cD (List.headD (List.tail (List.tail (List.tail d.2.2.1))) c0D)), ())) Dz7 fun y81 =>
       .need ((3 + 1) * 56 ≤ 140737488355328) <| .ok (((kD d, List.take 4 (List.take 3 (List.take 2 ([rV y78.1] ++ [rV y79.1]) ++ [rV y80.1]) ++ [rV y81.1]), [], [], ([], 0, [], ()), [], 0, 0, ()), ())))
      (.ite (kD d == 2)
       (.t4 <| .t4 <| .need (1 * 8 ≤ 140737488355328) <| .t4 <| .triv (inb (w64 (0 + 1)) (↑4 : Int)) zd <| .need ((1 + 1) * 8 ≤ 140737488355328) <| .t4 <| .triv (inb (w64 (w64 (0 + 1) + 1)) (↑4 : Int)) zd <| .need ((2 + 1) * 8 ≤ 140737488355328) <| .t4 <| .triv (inb (w64 (w64 (w64 (0 + 1) + 1) + 1)) (↑4 : Int)) zd <| .need ((3 + 1) * 8 ≤ 140737488355328) <| .need (1 * 24 ≤ 140737488355328) <| .t4 <| .need (1 * 8 ≤ 140737488355328) <| .ok (((kD d, [], [List.take 4 (List.take 3 (List.take 2 ([mD (abT d.2.2.2.1)] ++ [mD (List.tail (abT d.2.2.2.1))]) ++ [mD (List.tail (List.tail (abT d.2.2.2.1)))]) ++ [mD (List.tail (List.tail (List.tail (abT d.2.2.2.1))))])], [oD d.2.2.2.2.1], ([], 0, [], ()), [], 0, 0, ()), ())))
       (.ite (kD d == 3)
        (.ite (decide (0 < len d.2.2.2.2.2.1.1))
         (aeH d)
         (aeH d))
        (.call (aaZ ((pgD 4 d), ())) Dz8 fun y98 =>
         .call (aaV ((pgD 4 d), ())) Dz3 fun y99 =>
         .ok ((xP d y98.1 4 y99.1, ()))))))
     (.ite (j.2.1 == 2)
      (.ite (kD d == 1)
       (.t4 <| .call (aaK ((cD (List.headD d.2.2.1 c0D)), ())) Dz7 fun y100 =>
        .need (1 * 56 ≤ 140737488355328) <| .triv (inb (w64 (0 + 1)) (↑4 : Int)) zd <| .call (aaK ((cD (List.headD (List.tail d.2.2.1) c0D)), ())) Dz7 fun y101 =>
        .need ((1 + 1) * 56 ≤ 140737488355328) <| .triv (inb (w64 (w64 (0 + 1) + 1)) (↑4 : Int)) zd <| .call (aaK ((cD (List.headD (List.tail (List.tail d.2.2.1)) c0D)), ())) Dz7 fun y102 =>
        .need ((2 + 1) * 56 ≤ 140737488355328) <| .triv (inb (w64 (w64 (w64 (0 + 1) + 1) + 1)) (↑4 : Int)) zd <| .call (aaK ((cD (List.headD (List.tail (List.tail (List.tail d.2.2.1))) c0D)), ())) Dz7 fun y103 =>
        .need ((3 + 1) * 56 ≤ 140737488355328) <| .ok (((kD d, List.take 4 (List.take 3 (List.take 2 ([rV y100.1] ++ [rV y101.1]) ++ [rV y102.1]) ++ [rV y103.1]), [], [], ([], 0, [], ()), [], 0, 0, ()), ())))
       (.ite (kD d == 2)
        (.t4 <| .t4 <| .need (1 * 8 ≤ 140737488355328) <| .t4 <| .triv (inb (w64 (0 + 1)) (↑4 : Int)) zd <| .need ((1 + 1) * 8 ≤ 140737488355328) <| .t4 <| .triv (inb (w64 (w64 (0 + 1) + 1)) (↑4 : Int)) zd <| .need ((2 + 1) * 8 ≤ 140737488355328) <| .t4 <| .triv (inb (w64 (w64 (w64 (0 + 1) + 1) + 1)) (↑4 : Int)) zd <| .need ((3 + 1) * 8 ≤ 140737488355328) <| .need (1 * 24 ≤ 140737488355328) <| .t4 <| .need (1 * 8 ≤ 140737488355328) <| .triv (inb (w64 (0 + 1)) (↑4 : Int)) zd <| .t4 <| .need (1 * 8 ≤ 140737488355328) <| .triv (inb (w64 (0 + 1)) (↑4 : Int)) zd <| .triv (inb (w64 (0 + 1)) (↑4 : Int)) zd <| .need ((1 + 1) * 8 ≤ 140737488355328) <| .triv (inb (w64 (0 + 1)) (↑4 : Int)) zd <| .triv (inb (w64 (w64 (0 + 1) + 1)) (↑4 : Int)) zd <| .need ((2 + 1) * 8 ≤ 140737488355328) <| .triv (inb (w64 (0 + 1)) (↑4 : Int)) zd <| .triv (inb (w64 (w64 (w64 (0 + 1) + 1) + 1)) (↑4 : Int)) zd <| .need ((3 + 1) * 8 ≤ 140737488355328) <| .need ((1 + 1) * 24 ≤ 140737488355328) <| .triv (inb (w64 (0 + 1)) (↑4 : Int)) zd <| .need ((1 + 1) * 8 ≤ 140737488355328) <| .ok (((kD d, [], List.take 2 ([List.take 4 (List.take 3 (List.take 2 ([mD (abT d.2.2.2.1)] ++ [mD (List.tail (abT d.2.2.2.1))]) ++ [mD (List.tail (List.tail (abT d.2.2.2.1)))]) ++ [mD (List.tail (List.tail (List.tail (abT d.2.2.2.1))))])] ++ [List.take 4 (List.take 3 (List.take 2 ([mD (abT (List.tail d.2.2.2.1))] ++ [mD (List.tail (abT (List.tail d.2.2.2.1)))]) ++ [mD (List.tail (List.tail (abT (List.tail d.2.2.2.1))))]) ++ [mD (List.tail (List.tail (List.tail (abT (List.tail d.2.2.2.1)))))])]), List.take 2 ([oD d.2.2.2.2.1] ++ [oD (List.tail d.2.2.2.2.1)]), ([], 0, [], ()), [], 0, 0, ()), ())))
        (.ite (kD d == 3)
         (.ite (decide (0 < len d.2.2.2.2.2.1.1))
          (aeG d)
          (aeG d))
         (.call (aaZ ((pgD 4 d), ())) Dz8 fun y120 =>
          .call (aaV ((pgD 4 d), ())) Dz3 fun y121 =>
          .ok ((xP d y120.1 4 y121.1, ()))))))
      (.ite (j.2.1 == 3)
       (.ite (kD d == 1)
        (.t4 <| .call (aaK ((cD (List.headD d.2.2.1 c0D)), ())) Dz7 fun y122 =>
         .need (1 * 56 ≤ 140737488355328) <| .triv (inb (w64 (0 + 1)) (↑4 : Int)) zd <| .call (aaK ((cD (List.headD (List.tail d.2.2.1) c0D)), ())) Dz7 fun y123 =>
         .need ((1 + 1) * 56 ≤ 140737488355328) <| .triv (inb (w64 (w64 (0 + 1) + 1)) (↑4 : Int)) zd <| .call (aaK ((cD (List.headD (List.tail (List.tail d.2.2.1)) c0D)), ())) Dz7 fun y124 =>
         .need ((2 + 1) * 56 ≤ 140737488355328) <| .triv (inb (w64 (w64 (w64 (0 + 1) + 1) + 1)) (↑4 : Int)) zd <| .call (aaK ((cD (List.headD (List.tail (List.tail (List.tail d.2.2.1))) c0D)), ())) Dz7 fun y125 =>
         .need ((3 + 1) * 56 ≤ 140737488355328) <| .ok (((kD d, List.take 4 (List.take 3 (List.take 2 ([rV y122.1] ++ [rV y123.1]) ++ [rV y124.1]) ++ [rV y125.1]), [], [], ([], 0, [], ()), [], 0, 0, ()), ())))
        (.ite (kD d == 2)
         (.t4 <| .t4 <| .need (1 * 8 ≤ 140737488355328) <| .t4 <| .triv (inb (w64 (0 + 1)) (↑4 : Int)) zd <| .need ((1 + 1) * 8 ≤ 140737488355328) <| .t4 <| .triv (inb (w64 (w64 (0 + 1) + 1)) (↑4 : Int)) zd <| .need ((2 + 1) * 8 ≤ 140737488355328) <| .t4 <| .triv (inb (w64 (w64 (w64 (0 + 1) + 1) + 1)) (↑4 : Int)) zd <| .need ((3 + 1) * 8 ≤ 140737488355328) <| .need (1 * 24 ≤ 140737488355328) <| .t4 <| .need (1 * 8 ≤ 140737488355328) <| .triv (inb (w64 (0 + 1)) (↑4 : Int)) zd <| .t4 <| .need (1 * 8 ≤ 140737488355328) <| .triv (inb (w64 (0 + 1)) (↑4 : Int)) zd <| .triv (inb (w64 (0 + 1)) (↑4 : Int)) zd <| .need ((1 + 1) * 8 ≤ 140737488355328) <| .triv (inb (w64 (0 + 1)) (↑4 : Int)) zd <| .triv (inb (w64 (w64 (0 + 1) + 1)) (↑4 : Int)) zd <| .need ((2 + 1) * 8 ≤ 140737488355328) <| .triv (inb (w64 (0 + 1)) (↑4 : Int)) zd <| .triv (inb (w64 (w64 (w64 (0 + 1) + 1) + 1)) (↑4 : Int)) zd <| .need ((3 + 1) * 8 ≤ 140737488355328) <| .need ((1 + 1) * 24 ≤ 140737488355328) <| .triv (inb (w64 (0 + 1)) (↑4 : Int)) zd <| .need ((1 + 1) * 8 ≤ 140737488355328) <| .triv (inb (w64 (w64 (0 + 1) + 1)) (↑4 : Int)) zd <| .t4 <| .need (1 * 8 ≤ 140737488355328) <| .triv (inb (w64 (w64 (0 + 1) + 1)) (↑4 : Int)) zd <| .triv (inb (w64 (0 + 1)) (↑4 : Int)) zd <| .need ((1 + 1) * 8 ≤ 140737488355328) <| .triv (inb (w64 (w64 (0 + 1) + 1)) (↑4 : Int)) zd <| .triv (inb (w64 (w64 (0 + 1) + 1)) (↑4 : Int)) zd <| .need ((2 + 1) * 8 ≤ 140737488355328) <| .triv (inb (w64 (w64 (0 + 1) + 1)) (↑4 : Int)) zd <| .triv (inb (w64 (w64 (w64 (0 + 1) + 1) + 1)) (↑4 : Int)) zd <| .need ((3 + 1) * 8 ≤ 140737488355328) <| .need ((2 + 1) * 24 ≤ 140737488355328) <| .triv (inb (w64 (w64 (0 + 1) + 1)) (↑4 : Int)) zd <| .need ((2 + 1) * 8 ≤ 140737488355328) <| .ok (((kD d, [], List.take 3 (List.take 2 ([List.take 4 (List.take 3 (List.take 2 ([mD (abT d.2.2.2.1)] ++ [mD (List.tail (abT d.2.2.2.1))]) ++ [mD (List.tail (List.tail (abT d.2.2.2.1)))]) ++ [mD (List.tail (List.tail (List.tail (abT d.2.2.2.1))))])] ++ [List.take 4 (List.take 3 (List.take 2 ([mD (abT (List.tail d.2.2.2.1))] ++ [mD (List.tail (abT (List.tail d.2.2.2.1)))]) ++ [mD (List.tail (List.tail (abT (List.tail d.2.2.2.1))))]) ++ [mD (List.tail (List.tail (List.tail (abT (List.tail d.2.2.2.1)))))])]) ++ [List.take 4 (List.take 3 (List.take 2 ([mD (abT (List.tail (List.tail d.2.2.2.1)))] ++ [mD (List.tail (abT (List.tail (List.tail d.2.2.2.1))))]) ++ [mD (List.tail (List.tail (abT (List.tail (List.tail d.2.2.2.1)))))]) ++ [w64 (30 * w64 (List.headD (List.tail (List.tail (List.tail (abT (List.tail (List.tail d.2.2.2.1)))))) 0))])]), List.take 3 (List.take 2 ([oD d.2.2.2.2.1] ++ [oD (List.tail d.2.2.2.2.1)]) ++ [oD (List.tail (List.tail d.2.2.2.2.1))]), ([], 0, [], ()), [], 0, 0, ()), ())))
         (.ite (kD d == 3)
          (.ite (decide (0 < len d.2.2.2.2.2.1.1))
           (aeF d)
           (aeF d))
          (.call (aaZ ((pgD 4 d), ())) Dz8 fun y142 =>
           .call (aaV ((pgD 4 d), ())) Dz3 fun y143 =>
           .ok ((xP d y142.1 4 y143.1, ()))))))
       (.bad))))
    (.bad))))
def ad2 (d : DeT) (ins : Int) : TT (ElT × Unit) :=
 .triv (asT Int 4 ≠ 0) zd <| .join 0 (ι := Int × Int × Unit) (.triv (asT Int 3 ≠ 0) zd <| .tt <| .lt (w64 (1 + w64 (Int.tmod d.2.1 3)) : Int) fun z => .xC (xO z ins <| (xI 8 0 true) ∧ wa ∧ wb ∧ True) <| .xC (xB (xO 82 (kD d : Int) <| True ∧ xZ) <| xB (xO 82 (0 : Int) <| True ∧ xZ) <| xB (xM 40 d.1 d.2.1 ((List.headD d.2.2.1 c0D).1 : Int) ((List.headD d.2.2.1 c0D).2.1 : List Int) ((List.headD d.2.2.1 c0D).2.2.1 : List xV) ((List.headD d.2.2.1 c0D).2.2.2.1) ((List.headD d.2.2.1 c0D).2.2.2.2.1) <| xM ((List.headD (List.tail d.2.2.1) c0D).1 : Int) ((List.headD (List.tail d.2.2.1) c0D).2.1 : List Int) ((List.headD (List.tail d.2.2.1) c0D).2.2.1 : List xV) ((List.headD (List.tail d.2.2.1) c0D).2.2.2.1) ((List.headD (List.tail d.2.2.1) c0D).2.2.2.2.1) ((List.headD (List.tail (List.tail d.2.2.1)) c0D).1 : Int) ((List.headD (List.tail (List.tail d.2.2.1)) c0D).2.1 : List Int) ((List.headD (List.tail (List.tail d.2.2.1)) c0D).2.2.1 : List xV) <| xM ((List.headD (List.tail (List.tail d.2.2.1)) c0D).2.2.2.1) ((List.headD (List.tail (List.tail d.2.2.1)) c0D).2.2.2.2.1) ((List.headD (List.tail (List.tail (List.tail d.2.2.1))) c0D).1 : Int) ((List.headD (List.tail (List.tail (List.tail d.2.2.1))) c0D).2.1 : List Int) ((List.headD (List.tail (List.tail (List.tail d.2.2.1))) c0D).2.2.1 : List xV) ((List.headD (List.tail (List.tail (List.tail d.2.2.1))) c0D).2.2.2.1) ((List.headD (List.tail (List.tail (List.tail d.2.2.1))) c0D).2.2.2.2.1) (List.headD (abT d.2.2.2.1) 0) <| xM (List.headD (List.tail (abT d.2.2.2.1)) 0) (List.headD (List.tail (List.tail (abT d.2.2.2.1))) 0 : Int) (List.headD (List.tail (List.tail (List.tail (abT d.2.2.2.1)))) 0 : Int) (List.headD (abT (List.tail d.2.2.2.1)) 0) (List.headD (List.tail (abT (List.tail d.2.2.2.1))) 0 : Int) (List.headD (List.tail (List.tail (abT (List.tail d.2.2.2.1)))) 0 : Int) (List.headD (List.tail (List.tail (List.tail (abT (List.tail d.2.2.2.1))))) 0 : Int) (List.headD (abT (List.tail (List.tail d.2.2.2.1))) 0 : Int) <| xM (List.headD (List.tail (abT (List.tail (List.tail d.2.2.2.1)))) 0 : Int) (List.headD (List.tail (List.tail (abT (List.tail (List.tail d.2.2.2.1))))) 0 : Int) (List.headD (List.tail (List.tail (List.tail (abT (List.tail (List.tail d.2.2.2.1)))))) 0 : Int) (List.headD (abT (List.tail (List.tail (List.tail d.2.2.2.1)))) 0 : Int) (List.headD (List.tail (abT (List.tail (List.tail (List.tail d.2.2.2.1))))) 0 : Int) (List.headD (List.tail (List.tail (abT (List.tail (List.tail (List.tail d.2.2.2.1)))))) 0 : Int) (List.headD (List.tail (List.tail (List.tail (abT (List.tail (List.tail (List.tail d.2.2.2.1))))))) 0 : Int) (List.headD d.2.2.2.2.1 0) <| xM (List.headD (List.tail d.2.2.2.2.1) 0) (List.headD (List.tail (List.tail d.2.2.2.2.1)) 0) (List.headD (List.tail (List.tail (List.tail d.2.2.2.2.1))) 0 : Int) d.2.2.2.2.2.1.1 d.2.2.2.2.2.1.2.1 d.2.2.2.2.2.1.2.2.1 d.2.2.2.2.2.1.2.2.2.1 d.2.2.2.2.2.2.1.1 <| xL d.2.2.2.2.2.2.1.2.1 d.2.2.2.2.2.2.1.2.2.1) True) <| .ok (.inl ((ins, z, ())))) (alB d ins)
end
def i16L (l : List Int) : Prop := ∀ v ∈ l, -32768 ≤ v ∧ v ≤ 32767
def rowsL (l : List (List Int)) : Prop := ∀ r ∈ l, i16L r
def drL (l : List CdT) : Prop := ∀ c ∈ l, aL3 c
theorem i16L.tl {l : List Int} (h : i16L l) : i16L l.tail := fun v hv => h v (xA hv)
theorem rowsL.tl {l : List (List Int)} (h : rowsL l) : rowsL l.tail := fun v hv => h v (xA hv)
theorem drL.tl {l : List CdT} (h : drL l) : drL l.tail := fun v hv => h v (xA hv)
theorem i16L.hd {l : List Int} (h : i16L l) : -32768 ≤ l.headD 0 ∧ l.headD 0 ≤ 32767 := by
 cases l with
 | nil => exact ⟨by decide, by decide⟩
 | cons a l => exact h a zy
theorem rowsL.hd {l : List (List Int)} (h : rowsL l) : i16L (abT l) := by
 cases l with
 | nil => intro v hv; rw [(List.mem_replicate.1 hv).2]; exact ⟨by decide, by decide⟩
 | cons a l => exact h a zy
theorem drL.hd {l : List CdT} (h : drL l) : aL3 (l.headD c0D) := by
 cases l with
 | nil => exact show aL3 c0D from ⟨⟨by decide, by decide⟩, (fun v (hv : v ∈ ([] : List Int)) => by cases hv), (fun s (hs : s ∈ ([] : List ajC)) => by cases hs)⟩
 | cons a l => exact h a zy
theorem acA {r : List Int} (h : i16L r) : aaS (mD r) := by
 have := h.hd
 show inR (w64 (30 * w64 (r.headD 0))) _ _
 rw [aaD (x := r.headD 0) ⟨by omega, by omega⟩, aaD ⟨by omega, by omega⟩]
 exact ⟨by omega, by omega⟩
theorem aqB {r : List Int} (h : i16L r) : aaS (oD r) := by
 have := h.hd
 show inR (w64 (10 * w64 (r.headD 0))) _ _
 rw [aaD (x := r.headD 0) ⟨by omega, by omega⟩, aaD ⟨by omega, by omega⟩]
 exact ⟨by omega, by omega⟩
def wfE (d : DeT) : Prop := (0 ≤ d.1 ∧ d.1 ≤ 255) ∧ (0 ≤ d.2.1 ∧ d.2.1 ≤ 255) ∧ drL d.2.2.1 ∧ rowsL d.2.2.2.1 ∧ i16L d.2.2.2.2.1 ∧ (wfG d.2.2.2.2.2.1 ∧ ∀ v ∈ d.2.2.2.2.2.1.1, 0 ≤ v ∧ v ≤ 255) ∧ wfP d.2.2.2.2.2.2.1
section
variable {α : Type} {P : α → Prop}
theorem aIz {c : CdT} {dd : CvT × Unit} {x : CvT × Unit → TT α} (h : aL3 c) (hx : ∀ v, acK v → WP (x (v, ())) P) : WP (.call (aaK (cD c, ())) dd x) P := by
 obtain ⟨v, e, r⟩ := aKf c h
 exact aaN _ e (hx v r)
theorem aLp {g : GdT} {pts : List Int} {out : Int} {dd : GrT × Unit} {x : GrT × Unit → TT α} (h : wfG g) (hp : (1 ≤ pts.length ∧ pts.length ≤ 4) ∧ ∀ n ∈ pts, 0 ≤ n ∧ n ≤ 255) (ho : 1 ≤ out ∧ out ≤ 3) (hx : ∀ v, afY v → v.1.length = pts.length → WP (x (v, ())) P) :
  WP (.call (aaG ((g.1, g.2.1, g.2.2.1, g.2.2.2.1, ()), pts, out, ())) dd x) P := by
 obtain ⟨⟨v, u⟩, e, r1, r2, -⟩ := aBw g h pts hp out ho
 exact aaN (v, ()) e (hx v r1 r2)
theorem aLn {p : PgT} {dd : List OpT × Unit} {x : List OpT × Unit → TT α} (h : wfP p) (hx : ∀ v : List OpT, v.length ≤ 30 → (∀ I, 1 + Int.tmod p.1 3 ≤ I → PgOk I v (1 + Int.tmod p.2.1 3)) → WP (x (v, ())) P) : WP (.call (aaZ (p, ())) dd x) P := by
 obtain ⟨⟨v, u⟩, e, r1, r2⟩ := at0 p h
 exact aaN (v, ()) e (hx v r1 r2)
end
theorem ao4 {α : Type} (p : α → Prop) : ∀ x ∈ ([] : List α), p x := fun _ h => by cases h
theorem all_cons {α : Type} {p : α → Prop} {a : α} {l : List α} (h : p a) (hl : ∀ x ∈ l, p x) : ∀ x ∈ a :: l, p x := fun x hx => by
 rcases zp.1 hx with e | hx
 ·rw [e]; exact h
 ·exact hl x hx
theorem aOh {k n : Int} {l : List CvT} (hk : k = 1) (hl : (l.length : Int) = n) (h14 : 1 ≤ n ∧ n ≤ 4) (hr : ∀ c ∈ l, acK c) : abK (k, l, [], [], ([], 0, [], ()), [], 0, 0, ()) ∧ aEF (k, l, [], [], ([], 0, [], ()), [], 0, 0, ()) = n := by
 subst hk
 exact ⟨Or.inl ⟨rfl, ⟨rfl, rfl⟩, ⟨rfl, rfl, rfl⟩, ⟨rfl, rfl, rfl⟩, ⟨by dsimp only; omega, by dsimp only; omega⟩, hr⟩, hl⟩
theorem aOg {k n : Int} {rows : List (List Int)} {off : List Int} (hk : k = 2) (h14 : 1 ≤ n ∧ n ≤ 4) (hl : 1 ≤ rows.length ∧ rows.length ≤ 4) (ho : off.length = rows.length) (hr : ∀ r ∈ rows, (r.length : Int) = n ∧ ∀ v ∈ r, aaS v) (hs : ∀ v ∈ off, aaS v) :
  abK (k, [], rows, off, ([], 0, [], ()), [], 0, 0, ()) ∧ aEF (k, [], rows, off, ([], 0, [], ()), [], 0, 0, ()) = n := by
 subst hk
 have h0 := hr _ (aa3 (show 0 < rows.length by omega) [])
 exact ⟨Or.inr (Or.inl ⟨rfl, rfl, ⟨rfl, rfl, rfl⟩, ⟨rfl, rfl, rfl⟩, hl, ho, ⟨by dsimp only; omega, by dsimp only; omega⟩, fun r hr' => ⟨by have := (hr r hr').1; dsimp only; omega, (hr r hr').2⟩, hs⟩), h0.1⟩
theorem aOi {k n : Int} {g : GrT} (hk : k = 3) (hg : afY g) (hn : (g.1.length : Int) = n) : abK (k, [], [], [], (g.1, g.2.1, g.2.2.1, ()), [], 0, 0, ()) ∧ aEF (k, [], [], [], (g.1, g.2.1, g.2.2.1, ()), [], 0, 0, ()) = n := by
 subst hk
 exact ⟨Or.inr (Or.inr (Or.inl ⟨rfl, rfl, ⟨rfl, rfl⟩, ⟨rfl, rfl, rfl⟩, hg⟩)), hn⟩
theorem aOf {k i o : Int} {p : List OpT} (hk : k = 4) (hi : 1 ≤ i ∧ i ≤ 4) (ho : 1 ≤ o ∧ o ≤ 4) (hp : p.length ≤ 30) (h : PgOk i p o) : abK (k, [], [], [], ([], 0, [], ()), p, i, o, ()) ∧ aEF (k, [], [], [], ([], 0, [], ()), p, i, o, ()) = i := by
 subst hk
 obtain ⟨m, e, hm⟩ := h
 refine ⟨Or.inr (Or.inr (Or.inr ⟨rfl, rfl, ⟨rfl, rfl⟩, ⟨rfl, rfl, rfl⟩, ?_⟩)), rfl⟩
 show (aeC p i o).isSome = true
 unfold aeC
 rw [if_pos ⟨⟨by omega, by omega⟩, ⟨by omega, by omega⟩, by omega⟩, e]
 show (if m ≤ 16 ∧ o = o then some m else none).isSome = true
 rw [if_pos ⟨by omega, rfl⟩]; rfl
set_option maxHeartbeats 0 in
theorem alA (d : DeT) (hd : wfE d) (ins : Int) (hi : 1 ≤ ins ∧ ins ≤ 4) : WP (ad2 d ins) fun y => abK y.1 ∧ aEF y.1 = ins := by
 obtain ⟨hk, ho, hc, hr, hof, ⟨hg, hgz⟩, hp⟩ := hd
 have hk4 := adJ (a := d.1) (k := 4) zc hk.1
 have ek : kD d = 1 + Int.tmod d.1 4 := by
  show w64 (1 + w64 (Int.tmod d.1 4)) = _
  rw [aaD (x := Int.tmod d.1 4) ⟨by omega, by omega⟩, aaD ⟨by omega, by omega⟩]
 obtain ⟨o1, o2, o3⟩ := aFu ho.1 ho.2
 have hq : ∀ k : Int, 1 ≤ k → k ≤ 4 → wfP (pgD k d) ∧ 1 + Int.tmod (pgD k d).1 3 ≤ k := by
  intro k h1 h4
  have : k = 1 ∨ k = 2 ∨ k = 3 ∨ k = 4 := zc
  have e1 : (pgD 1 d).1 = 0 := rfl
  have e2 : (pgD 2 d).1 = 1 := rfl
  have e3 : (pgD 3 d).1 = 2 := rfl
  have e4 : (pgD 4 d).1 = 2 := rfl
  rcases this with rfl | rfl | rfl | rfl
  ·exact ⟨⟨by rw [e1]; omega, hp.2.1, hp.2.2.1, hp.2.2.2⟩, by rw [e1]; decide⟩
  ·exact ⟨⟨by rw [e2]; omega, hp.2.1, hp.2.2.1, hp.2.2.2⟩, by rw [e2]; decide⟩
  ·exact ⟨⟨by rw [e3]; omega, hp.2.1, hp.2.2.1, hp.2.2.2⟩, by rw [e3]; decide⟩
  ·exact ⟨⟨by rw [e4]; omega, hp.2.1, hp.2.2.1, hp.2.2.2⟩, by rw [e4]; decide⟩
 obtain ⟨p1, p2, p3⟩ := aFu hp.2.1.1 hp.2.1.2
 have LO : ∀ k : Int, aaV (pgD k d, ()) = some (1 + Int.tmod d.2.2.2.2.2.2.1.2.1 3, ()) := by intro k; rw [← p1]; rfl
 have hgi : ∀ k : Nat, k < d.2.2.2.2.2.1.1.length → 0 ≤ gi d.2.2.2.2.2.1.1 (k : Int) 0 ∧ gi d.2.2.2.2.2.1.1 (k : Int) 0 ≤ 255 := by
  intro k hk; rw [aaI]; exact hgz _ (aa3 hk 0)
 unfold ad2
 refine aaA (anM (fun j => j.1 = ins ∧ 1 ≤ j.2.1 ∧ j.2.1 ≤ 3) ?_ ?_)
 ·exact aaA (aaA (aaQ (aaA (aaA (aaP ⟨rfl, by rw [o1]; dsimp only; omega, by rw [o1]; dsimp only; omega⟩)))))
 intro j hj
 obtain ⟨a, b, u⟩ := j
 obtain ⟨rfl, hb1, hb3⟩ := hj
 dsimp only at hi hb1 hb3
 have hk1 : 1 ≤ kD d ∧ kD d ≤ 4 := by rw [ek]; omega
 unfold alB aeF aeG aeH acE acF acG
 have hw1 : w64 (0 + 1) = ((1 : Nat) : Int) := rfl
 have hw2 : w64 (w64 (0 + 1) + 1) = ((2 : Nat) : Int) := rfl
 have hw3 : w64 (w64 (w64 (0 + 1) + 1) + 1) = ((3 : Nat) : Int) := rfl
 have m00 : aaS (mD (abT d.2.2.2.1)) := acA hr.hd
 have m01 : aaS (mD (List.tail ((abT d.2.2.2.1)))) := acA hr.hd.tl
 have m02 : aaS (mD (List.tail (List.tail ((abT d.2.2.2.1))))) := acA hr.hd.tl.tl
 have m03 : aaS (mD (List.tail (List.tail (List.tail ((abT d.2.2.2.1)))))) := acA hr.hd.tl.tl.tl
 have m10 : aaS (mD (abT (List.tail d.2.2.2.1))) := acA hr.tl.hd
 have m11 : aaS (mD (List.tail ((abT (List.tail d.2.2.2.1))))) := acA hr.tl.hd.tl
 have m12 : aaS (mD (List.tail (List.tail ((abT (List.tail d.2.2.2.1)))))) := acA hr.tl.hd.tl.tl
 have m13 : aaS (mD (List.tail (List.tail (List.tail ((abT (List.tail d.2.2.2.1))))))) := acA hr.tl.hd.tl.tl.tl
 have m20 : aaS (mD (abT (List.tail (List.tail d.2.2.2.1)))) := acA hr.tl.tl.hd
 have m21 : aaS (mD (List.tail ((abT (List.tail (List.tail d.2.2.2.1)))))) := acA hr.tl.tl.hd.tl
 have m22 : aaS (mD (List.tail (List.tail ((abT (List.tail (List.tail d.2.2.2.1))))))) := acA hr.tl.tl.hd.tl.tl
 have m23 : aaS (mD (List.tail (List.tail (List.tail ((abT (List.tail (List.tail d.2.2.2.1)))))))) := acA hr.tl.tl.hd.tl.tl.tl
 have m30 : aaS (mD (abT (List.tail (List.tail (List.tail d.2.2.2.1))))) := acA hr.tl.tl.tl.hd
 have m31 : aaS (mD (List.tail ((abT (List.tail (List.tail (List.tail d.2.2.2.1))))))) := acA hr.tl.tl.tl.hd.tl
 have m32 : aaS (mD (List.tail (List.tail ((abT (List.tail (List.tail (List.tail d.2.2.2.1)))))))) := acA hr.tl.tl.tl.hd.tl.tl
 have m33 : aaS (mD (List.tail (List.tail (List.tail ((abT (List.tail (List.tail (List.tail d.2.2.2.1))))))))) := acA hr.tl.tl.tl.hd.tl.tl.tl
 have q0 : aaS (oD d.2.2.2.2.1) := aqB hof
 have q1 : aaS (oD (List.tail d.2.2.2.2.1)) := aqB hof.tl
 have q2 : aaS (oD (List.tail (List.tail d.2.2.2.2.1))) := aqB hof.tl.tl
 have q3 : aaS (oD (List.tail (List.tail (List.tail d.2.2.2.2.1)))) := aqB hof.tl.tl.tl
 repeat' (first
  | refine aaA ?_
  | refine aIz (by first | exact hc.hd | exact hc.tl.hd | exact hc.tl.tl.hd | exact hc.tl.tl.tl.hd) (fun v hv => ?_)
  | refine aLn (hq _ zc zc).1 (fun v hv1 hv2 => ?_)
  | refine aaN _ (LO _) ?_
  | refine aaF zc ?_
  | refine aaF ⟨by first | omega | exact xj _, by rw [aaB]; omega⟩ ?_
  | refine aLp hg ⟨⟨by simp, by simp⟩, by intro n hn; simp at hn; first | (subst hn; omega) | (subst hn; first | exact hgi 0 zc) | (rcases hn with h | h <;> subst h <;> first | omega | exact hgi 0 zc | exact hgi 1 zc) | (rcases hn with h | h | h <;> subst h <;> first | omega | exact hgi 0 zc | exact hgi 1 zc | exact hgi 2 zc)⟩ zc (fun v hv1 hv2 => ?_)
  | (refine aaL (fun h => ?_) (fun h => ?_) <;> simp only [zC, xp, zr, beq_eq_false_iff_ne, ne_eq] at h <;> try simp only [aaB] at h))
 all_goals (try subst_vars)
 all_goals (try dsimp only)
 all_goals first
  | (refine aaP (aOh zc (by simp; try omega) hi ?_); intro c hc'; simp at hc'; first | (subst hc'; assumption) | (rcases hc' with h | h <;> (subst h; assumption)) | (rcases hc' with h | h | h <;> (subst h; assumption)) | (rcases hc' with h | h | h | h <;> (subst h; assumption)))
  | (refine aaP (aOg zc hi ⟨Nat.le_of_ble_eq_true rfl, Nat.le_of_ble_eq_true rfl⟩ rfl ?_ ?_) <;> repeat' (first | exact ao4 _ | assumption | exact rfl | refine all_cons ?_ ?_ | refine ⟨?_, ?_⟩))
  | (refine aaP (aOi (g := v) zc hv1 ?_); rw [hv2]; simp)
  | (exact aaP (aOf zc zc ⟨by omega, by omega⟩ hv1 (hv2 _ (hq _ zc zc).2)))
  | (exfalso; omega)
noncomputable def aa5 (x : DeT × Int × Unit) : Option (ElT × Unit) := (ad2 x.1 x.2.1).toO
set_option maxRecDepth 100000
open Go Go.Vg Go.Proofs
noncomputable section
abbrev d0D : DeT := (0, 0, List.replicate 4 c0D, List.replicate 4 (List.replicate 4 0), List.replicate 4 0, ([], 0, [], false, ()), (0, 0, [], ()), ())
abbrev gD (l : List DeT) (i : Int) : DeT := gi l i d0D
abbrev c4D (l : List CdT) : List CdT := [cD (List.headD l c0D), cD (List.headD (List.tail l) c0D), cD (List.headD (List.tail (List.tail l)) c0D), cD (List.headD (List.tail (List.tail (List.tail l))) c0D)]
abbrev r4D (l : List Int) : List Int := [List.headD l 0, List.headD (List.tail l) 0, List.headD (List.tail (List.tail l)) 0, List.headD (List.tail (List.tail (List.tail l))) 0]
abbrev aO0 (l : List (List Int)) : List (List Int) := [r4D (abT l), r4D (abT (List.tail l)), r4D (abT (List.tail (List.tail l))), r4D (abT (List.tail (List.tail (List.tail l))))]
abbrev reD (k : Int) (d : DeT) : DeT := (k, d.2.1, c4D d.2.2.1, aO0 d.2.2.2.1, r4D d.2.2.2.2.1, grD d, (d.2.2.2.2.2.2.1.1, d.2.2.2.2.2.2.1.2.1, d.2.2.2.2.2.2.1.2.2.1, ()), ())
def aDT : LTab := [(96, 122, 8194, ⟨0, (Int) × (Int) × Bool × (List ElT) × Unit, .dat (.s 7) xW <| .dat (.s 6) xW <| .appN (.c 4 1) 8 82 tyE <| .nil, [5, 4, 2], [4, 1, 0], 1⟩)]
def aq6 (d : DcT) (in0 : Int) (i : (Int) × (Int) × Bool × (List ElT) × Unit) : TT (((Int) × (Int) × Bool × (List ElT) × Unit) ⊕ (ChT × Unit)) :=
 .ite (i.2.2.1)
 (.ite (decide (i.1 < len d.2.1))
 (.ite (decide (i.1 < 3))
 (.need (inb i.1 (len d.2.1)) <| .ite (d.2.2.1)
 (.triv (asT Int 2 ≠ 0) zd <| .call (aa5 (reD (wu8 (2 * Int.tmod (gD d.2.1 i.1).1 2)) (gD d.2.1 i.1), i.2.1, ())) Dz9 fun y =>
 .need (1 * 176 ≤ 140737488355328) <| .call (acV ((rE y.1), ())) Dz0 fun y1 =>
 .tt <| .lt (w64 (i.1 + 1) : Int) fun z1 => .lt ([(rE y.1)] : List ElT) fun z2 => .xC (xO y1.1 z1 <| wP ∧ wa ∧ wb ∧ True) <| .xC (xB (xR 82 z2) <| xB (xO 49 in0 <| (xT 8 0 1 true) ∧ True) <| xB wc <| xB (xD 24 d.1 d.2.1 d.2.2.1) True) <| .ok (.inl ((z1, y1.1, false, z2, ()))))
 (.call (aa5 (reD ((gD d.2.1 i.1).1) (gD d.2.1 i.1), i.2.1, ())) Dz9 fun y2 =>
 .need (1 * 176 ≤ 140737488355328) <| .call (acV ((rE y2.1), ())) Dz0 fun y3 =>
 .tt <| .lt (w64 (i.1 + 1) : Int) fun z3 => .lt ([(rE y2.1)] : List ElT) fun z4 => .xC (xO y3.1 z3 <| wP ∧ wa ∧ wb ∧ True) <| .xC (xB (xR 82 z4) <| xB (xO 49 in0 <| (xT 8 0 1 true) ∧ True) <| xB wc <| xB (xD 24 d.1 d.2.1 d.2.2.1) True) <| .ok (.inl ((z3, y3.1, false, z4, ())))))
 (.ok (.inr (((in0, [], ()), ())))))
 (.ok (.inr (((in0, [], ()), ())))))
 (.ite (decide (i.1 < len d.2.1))
 (.ite (decide (i.1 < 3))
 (.need (inb i.1 (len d.2.1)) <| .ite (d.2.2.1)
 (.triv (asT Int 2 ≠ 0) zd <| .call (aa5 (reD (wu8 (2 * Int.tmod (gD d.2.1 i.1).1 2)) (gD d.2.1 i.1), i.2.1, ())) Dz9 fun y4 =>
 .need ((List.length i.2.2.2.1 + 1) * 176 ≤ 140737488355328) <| .call (acV ((rE y4.1), ())) Dz0 fun y5 =>
 .tt <| .lt (w64 (i.1 + 1) : Int) fun z5 => .lt (List.take (List.length i.2.2.2.1) i.2.2.2.1 ++ [(rE y4.1)] : List ElT) fun z6 => .xC (xO y5.1 z5 <| wP ∧ wa ∧ wb ∧ True) <| .need ((((82 : TypeId) = 82) ∧ ((z6 : List ElT) = z6)) ∧ (true = true) ∧ (((49 : TypeId) = 49) ∧ (((in0) = (in0)) ∧ ((((8) = (8)) ∧ (((0) = (0)) ∧ ((List.length i.2.2.2.1 + 1 = List.length z6) ∧ ((true) = (true))))) ∧ True))) ∧ (true = true) ∧ (((49 : TypeId) = 49) ∧ (((0 : Int) = 0) ∧ wo)) ∧ (true = true) ∧ (((24 : TypeId) = 24) ∧ (((d.1 : Int) = d.1) ∧ (((d.2.1 : List DeT) = d.2.1) ∧ (((d.2.2.1) = (d.2.2.1)) ∧ True)))) ∧ (true = true) ∧ True) <| .ok (.inl ((z5, y5.1, false, z6, ()))))
 (.call (aa5 (reD ((gD d.2.1 i.1).1) (gD d.2.1 i.1), i.2.1, ())) Dz9 fun y6 =>
 .need ((List.length i.2.2.2.1 + 1) * 176 ≤ 140737488355328) <| .call (acV ((rE y6.1), ())) Dz0 fun y7 =>
 .tt <| .lt (w64 (i.1 + 1) : Int) fun z7 => .lt (List.take (List.length i.2.2.2.1) i.2.2.2.1 ++ [(rE y6.1)] : List ElT) fun z8 => .xC (xO y7.1 z7 <| wP ∧ wa ∧ wb ∧ True) <| .need ((((82 : TypeId) = 82) ∧ ((z8 : List ElT) = z8)) ∧ (true = true) ∧ (((49 : TypeId) = 49) ∧ (((in0) = (in0)) ∧ ((((8) = (8)) ∧ (((0) = (0)) ∧ ((List.length i.2.2.2.1 + 1 = List.length z8) ∧ ((true) = (true))))) ∧ True))) ∧ (true = true) ∧ (((49 : TypeId) = 49) ∧ (((0 : Int) = 0) ∧ wo)) ∧ (true = true) ∧ (((24 : TypeId) = 24) ∧ (((d.1 : Int) = d.1) ∧ (((d.2.1 : List DeT) = d.2.1) ∧ (((d.2.2.1) = (d.2.2.1)) ∧ True)))) ∧ (true = true) ∧ True) <| .ok (.inl ((z7, y7.1, false, z8, ())))))
 (.ok (.inr (((in0, List.take (List.length i.2.2.2.1) i.2.2.2.1, ()), ())))))
 (.ok (.inr (((in0, List.take (List.length i.2.2.2.1) i.2.2.2.1, ()), ())))))
def ahO (d : DcT) (in0 : Int) : TT (ChT × Unit) :=
 .loop 0 (.tt <| .lt ([] : List ElT) fun z => .xC (xO in0 (0 : Int) <| wP ∧ wa ∧ wb ∧ True) <| .xC (xB (xO 49 in0 <| True ∧ True) <| xB wc <| xB (xD 24 d.1 d.2.1 d.2.2.1) True) <| .ok ((0, in0, true, z, ()))) (aq6 d in0)
end
theorem aF3 {x : ElT} (h : abK x) : 1 ≤ aiJ x ∧ aiJ x ≤ 4 := by
 rcases h with ⟨e, -, -, -, h1, -⟩ | ⟨e, -, -, -, h1, -⟩ | ⟨e, -, -, -, h1⟩ | ⟨e, -, -, -, h1⟩
 ·unfold aiJ; rw [if_pos e]; omega
 ·unfold aiJ; rw [if_neg zc, if_pos e]; omega
 ·unfold aiJ; rw [if_neg zc, if_neg zc, if_pos e]; exact h1.2.1
 ·unfold aiJ; rw [if_neg zc, if_neg zc, if_neg zc]
  unfold aeC at h1
  split at h1
  ·rename_i c; exact c.2.1
  ·cases h1
theorem ayJ {x : ElT} (h : abK x) : shE x := by
 have z : ∀ {α : Type} {l : List α} {n : Nat}, l.length ≤ n → n ≤ 1000000000000 → shL l := fun h1 h2 => zF h1 h2
 rcases h with ⟨-, ⟨a, b⟩, ⟨c, -, d⟩, ⟨e, -, -⟩, ⟨-, h4⟩, h1⟩ | ⟨-, a, ⟨c, -, d⟩, ⟨e, -, -⟩, ⟨-, h4⟩, h2, ⟨-, h3⟩, h5, -⟩ | ⟨-, a, ⟨b, c⟩, ⟨e, -, -⟩, ⟨-, h4⟩, -, -, h5, -⟩ | ⟨-, a, ⟨b, c⟩, ⟨d, -, f⟩, h1⟩
 ·exact ⟨⟨z h4 zc, fun c hc => aFM (h1 c hc)⟩, by rw [a]; exact ⟨z (zm 0) zc, fun _ h => by cases h⟩, by rw [b]; exact z (zm 0) zc, ⟨by rw [c]; exact z (zm 0) zc, by rw [d]; exact z (zm 0) zc⟩, by rw [e]; exact z (zm 0) zc⟩
 ·exact ⟨by rw [a]; exact ⟨z (zm 0) zc, fun _ h => by cases h⟩, ⟨z h4 zc, fun r hr => z (n := 4) (by have := (h5 r hr).1; omega) zc⟩, z (n := 4) zc zc, ⟨by rw [c]; exact z (zm 0) zc, by rw [d]; exact z (zm 0) zc⟩, by rw [e]; exact z (zm 0) zc⟩
 ·exact ⟨by rw [a]; exact ⟨z (zm 0) zc, fun _ h => by cases h⟩, by rw [b]; exact ⟨z (zm 0) zc, fun _ h => by cases h⟩, by rw [c]; exact z (zm 0) zc, ⟨z h4 zc, z h5 zc⟩, by rw [e]; exact z (zm 0) zc⟩
 ·refine ⟨by rw [a]; exact ⟨z (zm 0) zc, fun _ h => by cases h⟩, by rw [b]; exact ⟨z (zm 0) zc, fun _ h => by cases h⟩, by rw [c]; exact z (zm 0) zc, ⟨by rw [d]; exact z (zm 0) zc, by rw [f]; exact z (zm 0) zc⟩, ?_⟩
  unfold aeC at h1
  split at h1
  ·rename_i c; exact z c.2.2 zc
  ·cases h1
theorem aFo {d : DeT} (h : wfE d) {k : Int} (hk : 0 ≤ k ∧ k ≤ 255) : wfE (reD k d) := by
 obtain ⟨-, ho, hc, hr, hof, hg, hp⟩ := h
 have r4 : ∀ l : List Int, i16L l → i16L (r4D l) := fun l hl => all_cons hl.hd (all_cons hl.tl.hd (all_cons hl.tl.tl.hd (all_cons hl.tl.tl.tl.hd (ao4 _))))
 exact ⟨hk, ho, all_cons hc.hd (all_cons hc.tl.hd (all_cons hc.tl.tl.hd (all_cons hc.tl.tl.tl.hd (ao4 _)))),
  all_cons (r4 _ hr.hd) (all_cons (r4 _ hr.tl.hd) (all_cons (r4 _ hr.tl.tl.hd) (all_cons (r4 _ hr.tl.tl.tl.hd) (ao4 _)))), r4 _ hof, hg, hp⟩
def wfC (d : DcT) : Prop := (0 ≤ d.1 ∧ d.1 ≤ 255) ∧ shM d.2.1 ∧ ∀ p ∈ d.2.1, wfE p
def aHp (n : Int) (c : ChT) : Prop := c.1 = n ∧ c.2.1.length ≤ 3 ∧ (∀ x ∈ c.2.1, shE x) ∧ ∃ m, agQ n c.2.1 = some m ∧ 1 ≤ m ∧ m ≤ 4
theorem aBg (d : DcT) (hd : wfC d) (ins : Int) (hi : 1 ≤ ins ∧ ins ≤ 4) : WP (ahO d ins) fun y => aHp ins y.1 := by
 obtain ⟨d1, ps, tm, u⟩ := d
 obtain ⟨-, hl, hp⟩ := hd
 dsimp only at hl hp
 have hl' : ps.length ≤ 140737488355328 := hl
 unfold ahO
 refine adY (fun i : Int × Int × Bool × List ElT × Unit => ∃ k : Nat, i.1 = (k : Int) ∧ k ≤ 3 ∧ k ≤ ps.length ∧ i.2.2.2.1.length = k ∧ agQ ins i.2.2.2.1 = some i.2.1 ∧ (1 ≤ i.2.1 ∧ i.2.1 ≤ 4) ∧ (∀ x ∈ i.2.2.2.1, shE x) ∧ (i.2.2.1 = true → i.2.2.2.1 = [])) (fun i => (3 - i.1).toNat)
  (aaA (aaQ (aaA (aaA (aaP ⟨0, rfl, by omega, zA _, rfl, rfl, hi, fun x h => (by cases h), fun _ => rfl⟩))))) ?_
 intro i hI
 obtain ⟨i, n, f, l, v⟩ := i
 obtain ⟨k, e, hk3, hkl, hll, ho, hn, hs, hf⟩ := hI
 dsimp only at e hll ho hn hs hf
 subst e
 have ewk : w64 ((k : Int) + 1) = ((k + 1 : Nat) : Int) := (aaD ⟨by omega, by omega⟩).trans zc
 have hel : ∀ kk : Int, 0 ≤ kk ∧ kk ≤ 255 → k < ps.length → ∃ x, aa5 (reD kk (gD ps (k : Int)), n, ()) = some (x, ()) ∧ shE x ∧ acV (rE x, ()) = some (aiJ x, 0, ()) ∧ 1 ≤ aiJ x ∧ aiJ x ≤ 4 ∧ agQ ins (l ++ [x]) = some (aiJ x) := by
  intro kk hkk h
  have hw := hp _ (aa3 h d0D)
  obtain ⟨⟨x, w⟩, ex, r1, r2⟩ := alA (reD kk (gD ps (k : Int))) (aFo (by show wfE (gi ps (k : Int) d0D); rw [aaI]; exact hw) hkk) n hn
  have ex : aa5 (reD kk (gD ps (k : Int)), n, ()) = some (x, ()) := ex
  dsimp only at r1 r2
  have hsx := ayJ r1
  refine ⟨x, ex, hsx, ?_, (aF3 r1).1, (aF3 r1).2, ?_⟩
  ·have := aLj hsx; rw [if_pos r1] at this; exact this
  ·rw [azF, ho]
   show agQ n [x] = _
   simp only [agQ]
   rw [if_pos ⟨r1, r2⟩]
 have hk0 : k < ps.length → 0 ≤ (gD ps (k : Int)).1 ∧ (gD ps (k : Int)).1 ≤ 255 := by
  intro h
  have hw := hp _ (aa3 h d0D)
  show 0 ≤ (gi ps (k : Int) d0D).1 ∧ (gi ps (k : Int) d0D).1 ≤ 255
  rw [aaI]; exact hw.1
 have hwu : ∀ a : Int, 0 ≤ wu8 a ∧ wu8 a ≤ 255 := fun a => by
  have e : wu8 a = a % 256 := rfl
  rw [e]; omega
 have etk : List.take (List.length l) l = l := zB
 unfold aq6
 cases f with
 | true =>
  have el := hf rfl
  subst el
  have hll : 0 = k := hll
  refine aaL (fun _ => ?_) (fun h => by cases h)
  refine aaL (fun a => ?_) (fun a => ?_)
  ·have a' : (k : Int) < len ps := of_decide_eq_true a
   rw [aaB] at a'
   have hkl' : k < ps.length := zc
   refine aaL (fun b => ?_) (fun b => ?_)
   ·have b' : (k : Int) < 3 := of_decide_eq_true b
    refine aaF ⟨by dsimp only; omega, by rw [aaB]; dsimp only; omega⟩ (aaL (fun c => ?_) (fun c => ?_))
    ·refine aaA ?_
     obtain ⟨x, ex, hx, ey, o1, o2, eo⟩ := hel _ (hwu _) hkl'
     refine aaN _ ex (aaF zc (aaN _ ey (aaA (aaQ (aaQ (aaA (aaA (aaP ⟨⟨k + 1, ewk, by omega, by omega, ?_, ?_, ⟨o1, o2⟩, ?_, fun h => by cases h⟩, ?_⟩))))))))
     ·show 1 = k + 1; omega
     ·exact eo
     ·exact all_cons hx (ao4 _)
     ·show (3 - w64 ((k : Int) + 1)).toNat < (3 - (k : Int)).toNat
      rw [ewk]; omega
    ·have := hkl'
     obtain ⟨x, ex, hx, ey, o1, o2, eo⟩ := hel _ (hk0 hkl') hkl'
     refine aaN _ ex (aaF zc (aaN _ ey (aaA (aaQ (aaQ (aaA (aaA (aaP ⟨⟨k + 1, ewk, by omega, by omega, ?_, ?_, ⟨o1, o2⟩, ?_, fun h => by cases h⟩, ?_⟩))))))))
     ·show 1 = k + 1; omega
     ·exact eo
     ·exact all_cons hx (ao4 _)
     ·show (3 - w64 ((k : Int) + 1)).toNat < (3 - (k : Int)).toNat
      rw [ewk]; omega
   ·exact aaP ⟨rfl, by simp, fun x h => (by cases h), n, ho, hn⟩
  ·exact aaP ⟨rfl, by simp, fun x h => (by cases h), n, ho, hn⟩
 | false =>
  refine aaL (fun h => by cases h) (fun _ => ?_)
  have hfin : aHp ins (ins, List.take (List.length l) l, ()) := by
   rw [etk]; exact ⟨rfl, by dsimp only; omega, hs, n, ho, hn⟩
  refine aaL (fun a => ?_) (fun a => ?_)
  ·have a' : (k : Int) < len ps := of_decide_eq_true a
   rw [aaB] at a'
   have hkl' : k < ps.length := zc
   refine aaL (fun b => ?_) (fun b => ?_)
   ·have b' : (k : Int) < 3 := of_decide_eq_true b
    refine aaF ⟨by dsimp only; omega, by rw [aaB]; dsimp only; omega⟩ (aaL (fun c => ?_) (fun c => ?_))
    ·refine aaA ?_
     obtain ⟨x, ex, hx, ey, o1, o2, eo⟩ := hel _ (hwu _) hkl'
     refine aaN _ ex (aaF (by show (l.length + 1) * 176 ≤ 140737488355328; omega) (aaN _ ey (aaA (aaQ (aaQ (aaA (aaF zf (aaP ⟨⟨k + 1, ewk, by omega, by omega, ?_, ?_, ⟨o1, o2⟩, ?_, fun h => by cases h⟩, ?_⟩))))))))
     ·show (List.take l.length l ++ [x]).length = k + 1
      rw [etk, zu]; simp; omega
     ·show agQ ins (List.take l.length l ++ [x]) = _
      rw [etk]; exact eo
     ·show ∀ y ∈ List.take l.length l ++ [x], shE y
      rw [etk]
      intro y hy
      rcases zx.1 hy with h | h
      ·exact hs y h
      ·rw [zG.1 h]; exact hx
     ·show (3 - w64 ((k : Int) + 1)).toNat < (3 - (k : Int)).toNat
      rw [ewk]; omega
    ·have := hkl'
     obtain ⟨x, ex, hx, ey, o1, o2, eo⟩ := hel _ (hk0 hkl') hkl'
     refine aaN _ ex (aaF (by show (l.length + 1) * 176 ≤ 140737488355328; omega) (aaN _ ey (aaA (aaQ (aaQ (aaA (aaF zf (aaP ⟨⟨k + 1, ewk, by omega, by omega, ?_, ?_, ⟨o1, o2⟩, ?_, fun h => by cases h⟩, ?_⟩))))))))
     ·show (List.take l.length l ++ [x]).length = k + 1
      rw [etk, zu]; simp; omega
     ·show agQ ins (List.take l.length l ++ [x]) = _
      rw [etk]; exact eo
     ·show ∀ y ∈ List.take l.length l ++ [x], shE y
      rw [etk]
      intro y hy
      rcases zx.1 hy with h | h
      ·exact hs y h
      ·rw [zG.1 h]; exact hx
     ·show (3 - w64 ((k : Int) + 1)).toNat < (3 - (k : Int)).toNat
      rw [ewk]; omega
   ·exact aaP hfin
  ·exact aaP hfin
noncomputable def ak2 (x : DcT × Int × Unit) : Option (ChT × Unit) := (ahO x.1 x.2.1).toO
set_option maxRecDepth 100000
open Go Go.Vg Go.Proofs
noncomputable section
def aBk : LTab := []
def aiD (d : DcT) : TT (ChT × Unit) :=
 .triv (asT Int 3 ≠ 0) zd <| .call (ak2 ((d.1, d.2.1, d.2.2.1, ()), w64 (1 + w64 (Int.tmod d.1 3)), ())) aNQ fun y =>
 .ok (((y.1.1, y.1.2.1, ()), ()))
end
noncomputable def ai0 (x : DcT × Unit) : Option (ChT × Unit) := (aiD x.1).toO
theorem ayV (d : DcT) (hd : wfC d) : WP (aiD d) fun y => ∃ n, 1 ≤ n ∧ n ≤ 4 ∧ aHp n y.1 := by
 have h3 := aFu hd.1.1 hd.1.2
 obtain ⟨⟨c, u⟩, ec, gc⟩ := aBg d hd (1 + Int.tmod d.1 3) ⟨by omega, by omega⟩
 have ec : ak2 ((d.1, d.2.1, d.2.2.1, ()), w64 (1 + w64 (Int.tmod d.1 3)), ()) = some (c, ()) := by rw [h3.1]; exact ec
 exact aaA (aaN _ ec (aaP ⟨_, by omega, by omega, gc⟩))
theorem aBt (d : PgT) (y) (h : ae8 (d, ()) = some y) : (ay4 d).toO = some y := h
theorem ay3 (d : PgT) (y) (h : aaV (d, ()) = some y) : (auY d).toO = some y := h
theorem arB (d : PgT) (y) (h : aaZ (d, ()) = some y) : (ad3 d).toO = some y := h
theorem awX (a : List Int) (b : Int) (y) (h : aeV (a, b, ()) = some y) : (af0 a b).toO = some y := h
theorem ay6 (d : GdT) (a : List Int) (b : Int) (y) (h : adU (d, a, b, ()) = some y) : (ahS d a b).toO = some y := h
theorem ay9 (d : GdT) (a : List Int) (b : Int) (y) (h : aaG (d, a, b, ()) = some y) : (ahT d a b).toO = some y := h
theorem arA (d : DeT) (b : Int) (y) (h : aa5 (d, b, ()) = some y) : (ad2 d b).toO = some y := h
theorem ayS (d : DcT) (b : Int) (y) (h : ak2 (d, b, ()) = some y) : (ahO d b).toO = some y := h
theorem awN (d : DcT) (y) (h : ai0 (d, ()) = some y) : (aiD d).toO = some y := h
abbrev aOX : Ty := .pair (.int .u8) (.pair (.sl (.int .u16)) (.pair (.sl (.pair (.int .u8) (.pair (.int .i16) (.pair (.int .i16) (.pair (.int .i16) (.pair (.int .u8) (.pair (.int .u8) .unit))))))) (.pair .bool (.pair .bool .unit))))
abbrev aOZ : Ty := .pair (.sl (.int .u8)) (.pair (.int .u8) (.pair (.sl (.int .u16)) (.pair .bool .unit)))
abbrev aOY : Ty := .pair (.int .u8) (.pair (.int .u8) (.pair (.sl (.pair (.int .u8) (.pair (.int .i16) .unit))) .unit))
abbrev aNW : Ty := .pair (.int .u8) (.pair (.int .u8) (.pair (.arr 4 aOX) (.pair (.arr 4 (.arr 4 (.int .i16))) (.pair (.arr 4 (.int .i16)) (.pair aOZ (.pair aOY .unit))))))
abbrev aOC : Ty := .pair (.int .u8) (.pair (.sl aNW) (.pair .bool .unit))
theorem aMr {x : DeT} (h : Wf aNW x) : wfE x := by
 obtain ⟨h1, h2, ⟨-, h3⟩, ⟨-, h4⟩, ⟨-, h5⟩, ⟨⟨g0, g1⟩, g2, ⟨g3, g4⟩, -⟩, ⟨p1, p2, ⟨p3, p4⟩, -⟩, -⟩ := h
 refine ⟨h1, h2, fun c hc => ?_, fun r hr => fun v hv => (h4 r hr).2 v hv, fun v hv => h5 v hv, ⟨⟨g0, g2, g3, fun v hv => g4 v hv⟩, fun v hv => g1 v hv⟩, p1, p2, p3, fun s hs => ⟨(p4 s hs).1, (p4 s hs).2.1⟩⟩
 obtain ⟨c1, ⟨-, c2⟩, ⟨-, c3⟩, -⟩ := h3 c hc
 refine ⟨apN c1, fun v hv => apN (c2 v hv), fun s hs => ?_⟩
 obtain ⟨a1, a2, a3, a4, a5, a6, -⟩ := c3 s hs
 exact ⟨apN a1, apN a2, apN a3, apN a4, apN a5, apN a6⟩
theorem aNT {x : DcT} (h : Wf aOC x) : wfC x := ⟨h.1, h.2.1.1, fun p hp => aMr (h.2.1.2 p hp)⟩
set_option maxRecDepth 100000
open Go Go.Vg Go.Proofs
noncomputable section
def aDS : LTab := [(26, 122, 21504, ⟨0, (Int) × (Int) × Unit, .dat (.s 5) xW <| .dat (.s 4) xW <| .nil, [1], [0], 0⟩)]
def alT (c : ChT) (i : (Int) × (Int) × Unit) : TT (wE ⊕ wD) :=
 .ite (decide (i.1 < len c.2.1))
 (.need (inb i.1 (len c.2.1)) <| .call (akE (gE c.2.1 i.1, ())) Dz0 fun y =>
 .ite (y.2.1 != 0)
 (.ok (.inr ((0, false, ()))))
 (.ite (y.1 != i.2.1)
 (.ok (.inr ((0, false, ()))))
 (.need (inb i.1 (len c.2.1)) <| .call (acV (gE c.2.1 i.1, ())) Dz0 fun y1 =>
 .tt <| .lt (w64 (i.1 + 1) : Int) fun z1 => .xC (xO y1.1 z1 <| wb ∧ True) <| .xC (xB (xF 49 c.1 c.2.1) True) <| .ok (.inl ((z1, y1.1, ()))))))
 (.ok (.inr ((i.2.1, true, ()))))
def anW (c : ChT) : TT wD :=
 .ite (decide (c.1 < 1))
 (.ok ((0, false, ())))
 (.ite (decide (c.1 > 4))
 (.ok ((0, false, ())))
 (.ite (decide (len c.2.1 > 8))
 (.ok ((0, false, ())))
 (.loop 0 (.tt <| .lt (c.1 : Int) fun z => .xC (xO z (0 : Int) <| wb ∧ True) <| .xC (xB (xF 49 z c.2.1) True) <| .ok ((0, z, ()))) (alT c))))
def aBh : LTab := []
def aq7 (c : ChT) : TT wi :=
 .call (afT ((c.1, c.2.1, ()), ())) Dz1 fun y =>
 .ok ((y.2.1, ()))
def aDV : LTab := []
def auX (c : ChT) : TT xX :=
 .call (afT ((c.1, c.2.1, ()), ())) Dz1 fun y =>
 .ite (!y.2.1)
 (.ok ((0, 140, ())))
 (.ok ((y.1, 0, ())))
def aDU : LTab := [(14, 58, 18432, ⟨0, (Int) × Unit, .dat (.s 5) xW <| .nil, [3, 2], [1, 0], 0⟩)]
def alU (a : ChT) (b : ChT) (i : (Int) × Unit) : TT wd :=
 .ite (decide (i.1 < len a.2.1))
 (.need (inb i.1 (len a.2.1)) <| .need (inb i.1 (len b.2.1)) <| .call (ah4 (gE a.2.1 i.1, gE b.2.1 i.1, ())) Dz2 fun y =>
 .ite (!y.1)
 (.ok (.inr ((false, ()))))
 (.tt <| .lt (w64 (i.1 + 1) : Int) fun z => .xC (xK z <| wa ∧ wb ∧ True) <| .xC (xB (xF 49 b.1 b.2.1) <| xB (xF 49 a.1 a.2.1) True) <| .ok (.inl ((z, ())))))
 (.ok (.inr ((true, ()))))
def anX (a : ChT) (b : ChT) : TT wi :=
 .ite (a.1 != b.1)
 (.ok ((false, ())))
 (.ite (len a.2.1 != len b.2.1)
 (.ok ((false, ())))
 (.loop 0 (.tt <| .xC wB <| .xC (xB (xF 49 b.1 b.2.1) <| xB (xF 49 a.1 a.2.1) True) <| .ok ((0, ()))) (alU a b)))
end
theorem aOz {x : ElT} (h : shE x) : akE (x, ()) = some (if abK x then (aEF x, 0, ()) else (0, 130, ())) := if_pos h
theorem aNz {x : ElT} (h : shE x) : acV (x, ()) = some (if abK x then (aiJ x, 0, ()) else (0, 130, ())) := if_pos h
theorem aLm {x y : ElT} (h : shE x) : ah4 (x, y, ()) = some (eqb x y, ()) := if_pos h
def aFy (l : List ElT) (i : Int × Int × Unit) : Int × Bool × Unit := match agQ i.2.1 (l.drop i.1.toNat) with | some n => (n, true, ()) | none => (0, false, ())
theorem ayR (c : ChT) (y) (h : afT (c, ()) = some y) : (anW c).toO = some y := by
 unfold afT agO at h
 split at h
 case isFalse => cases h
 case isTrue hl =>
 obtain ⟨n, xs, u⟩ := c
 obtain ⟨hs, he⟩ := hl
 injection h with h
 subst h
 dsimp only at hs he ⊢
 unfold anW
 by_cases c1 : n < 1
 ·refine uT (zl c1) ?_
  rw [show ae6 (n, xs, u) = none from if_neg (fun h => by have := h.1.1; dsimp only at this; omega)]; rfl
 refine uF (zk c1) ?_
 by_cases c2 : n > 4
 ·refine uT (zl c2) ?_
  rw [show ae6 (n, xs, u) = none from if_neg (fun h => by have := h.1.2; dsimp only at this; omega)]; rfl
 refine uF (zk c2) ?_
 by_cases c3 : xs.length > 8
 ·refine uT (zl (by rw [aaB]; dsimp only; omega)) ?_
  rw [show ae6 (n, xs, u) = none from if_neg (fun h => by have := h.2; dsimp only at this; omega)]; rfl
 refine uF (zk (by rw [aaB]; dsimp only; omega)) (uO (0, n, ()) rfl ?_)
 rw [show ae6 (n, xs, u) = agQ n xs from if_pos ⟨⟨by omega, by omega⟩, by dsimp only; omega⟩]
 refine abA (fun i : Int × Int × Unit => ∃ k : Nat, k ≤ xs.length ∧ i.1 = (k : Int)) (fun i => xs.length - i.1.toNat) (aFy xs) (fun i hi => ?_) _ ⟨0, zA _, rfl⟩
 obtain ⟨k, hk, e1⟩ := hi
 obtain ⟨i, b, u⟩ := i
 dsimp only at e1
 subst e1
 by_cases c : k < xs.length
 ·have hx := he _ (aa3 c e0)
  have hd := aNj c e0
  have eI := aOz hx
  have eO := aNz hx
  simp only [alT, alG, aFy, zz, hd, agQ]
  by_cases r : abK (xs.getD k e0)
  ·rw [if_pos r] at eI eO
   by_cases q : aEF (xs.getD k e0) = b
   ·refine Or.inl ⟨((k + 1 : Nat), aiJ (xs.getD k e0), ()), ?_, ⟨k + 1, c, rfl⟩, by dsimp only; omega, ?_⟩
    ·refine uT (zl (by rw [aaB]; omega)) (uN sd (uC _ eI (uF rfl (uF (by dsimp only; rw [q]; simp) (uN sd (uC _ eO ?_))))))
     show some _ = some _
     rw [show w64 ((k : Int) + 1) = ((k + 1 : Nat) : Int) from (aaD ⟨by omega, by omega⟩).trans zc]
    ·rw [if_pos ⟨r, q⟩]; simp only [zz]
   ·refine Or.inr ?_
    rw [if_neg (fun h => q h.2)]
    exact uT (zl (by rw [aaB]; omega)) (uN sd (uC _ eI (uF rfl (uT (by dsimp only; simpa using q) rfl))))
  ·rw [if_neg r] at eI eO
   refine Or.inr ?_
   rw [if_neg (fun h => r h.1)]
   exact uT (zl (by rw [aaB]; omega)) (uN sd (uC _ eI (uT rfl rfl)))
 ·refine Or.inr ?_
  simp only [alT, aFy, zz, yH (show xs.length ≤ k by omega), agQ]
  exact uF (zk (by rw [aaB]; omega)) rfl
theorem aLk {c : ChT} (h : ayF c) : afT (c, ()) = some (match ae6 c with | some n => (n, true, ()) | none => (0, false, ())) := if_pos h
theorem aIn {c : ChT} (h : ayF c) : aeS (c, ()) = some ((ae6 c).isSome, ()) := if_pos h
theorem awK (c : ChT) (y) (h : aeS (c, ()) = some y) : (aq7 c).toO = some y := by
 unfold aeS at h
 split at h
 case isFalse => cases h
 case isTrue hl =>
 injection h with h
 subst h
 refine uC _ (aLk (c := c) hl) ?_
 cases ae6 c <;> rfl
theorem ayU (c : ChT) (y) (h : ah2 (c, ()) = some y) : (auX c).toO = some y := by
 unfold ah2 aeA at h
 split at h
 case isFalse => cases h
 case isTrue hl =>
 injection h with h
 subst h
 refine uC _ (aLk (c := c) hl) ?_
 cases ae6 c <;> rfl
theorem ayT (a b : ChT) (y) (h : ah1 (a, b, ()) = some y) : (anX a b).toO = some y := by
 unfold ah1 agP at h
 split at h
 case isFalse => cases h
 case isTrue hl =>
 obtain ⟨n, xs, u⟩ := a
 obtain ⟨m, ys, u'⟩ := b
 obtain ⟨hs, he⟩ := hl
 injection h with h
 subst h
 dsimp only at hs he ⊢
 have hs' : xs.length ≤ 1000000000000 := hs
 unfold anX
 by_cases c1 : n = m
 ·subst c1
  refine uF zf ?_
  by_cases c2 : xs.length = ys.length
  ·refine uF (by rw [aaB, aaB, c2]; simp) (uO (0, ()) rfl ?_)
   refine (aa9 (n := xs.length) (bad := (false, ())) (good := (true, ())) (fun k => eqb (xs.getD k e0) (ys.getD k e0)) (fun k hk hp => ?_) (fun k hk hp => ?_) ?_).trans ?_
   ·simp only [alU, alG]
    refine uT sd (uN sd (uN sd (uC _ (aLm (he _ (aa3 hk e0))) (uF (by dsimp only; rw [hp]; rfl) ?_))))
    show some _ = some _
    rw [amU hk hs']
   ·simp only [alU, alG]
    exact uT sd (uN sd (uN sd (uC _ (aLm (he _ (aa3 hk e0))) (uT (by dsimp only; rw [hp]; rfl) rfl))))
   ·exact uF sd rfl
   ·rw [aiR e0 c2]
    rw [show eqb (n, xs, u) (n, ys, u') = eqb xs ys from asD ⟨fun h => by rw [eqb_iff.1 h], fun h => eqb_iff.2 (Prod.mk.inj (Prod.mk.inj h).2).1⟩]
    cases eqb xs ys <;> rfl
  ·refine uT (by rw [aaB, aaB]; simp; omega) ?_
   rw [aaJ (fun h => c2 (by rw [(Prod.mk.inj (Prod.mk.inj h).2).1]))]; rfl
 ·refine uT (by simpa using c1) ?_
  rw [aaJ (fun h => c1 (Prod.mk.inj h).1)]; rfl
end Go.Vs
