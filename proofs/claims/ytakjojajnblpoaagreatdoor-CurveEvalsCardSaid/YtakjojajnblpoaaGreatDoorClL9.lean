/-
  Trees of what the functions compute, and their laws. Own work; no condition.
-/
import Derived.Test.YtakjojajnblpoaaGreatDoorClL8
import Derived.Test.YtakjojajnblpoaaGreatDoorProg
set_option linter.unusedVariables false
set_option linter.unusedSimpArgs false
namespace Go.Vs
open Go Go.Vg
def smC (c : CvT) : Prop := c.2.1.length ≤ 100 ∧ c.2.2.1.length ≤ 100
def aPQ (t : TT (CvT × Unit)) : Prop := ∃ c, t.toO = some (c, ()) ∧ smC c
theorem ahX {p : Prop} {x : TT (CvT × Unit)} (h : p) (k : aPQ x) : aPQ (.need p x) := by
 obtain ⟨c, e, s⟩ := k; exact ⟨c, uN h e, s⟩
theorem axJ {p : Prop} {h : p} {x : TT (CvT × Unit)} (k : aPQ x) : aPQ (.triv p h x) := k
theorem aiV {b : Bool} {x y : TT (CvT × Unit)} (h1 : b = true → aPQ x) (h2 : b = false → aPQ y) : aPQ (.ite b x y) := by
 cases b with
 | true => obtain ⟨c, e, s⟩ := h1 rfl; exact ⟨c, uT rfl e, s⟩
 | false => obtain ⟨c, e, s⟩ := h2 rfl; exact ⟨c, uF rfl e, s⟩
theorem avM {c : CvT} (h : smC c) : aPQ (.ok (c, ())) := ⟨c, rfl, h⟩
theorem aNq {ι : Type} {t : Nat} {H : TT ι} {R : ι → TT (ι ⊕ (CvT × Unit))} (i : ι) (h : H.toO = some i) (k : ∃ a, adG (fun i => (R i).toO) i = some a ∧ smC a.1) : aPQ (.loop t H R) := by
 obtain ⟨⟨c, u⟩, e, s⟩ := k; exact ⟨c, uO i h e, s⟩
theorem aTE (l : List Int) : (bT l).length = bTn l ∧ bTn l ≤ 20 := by
 have : (List.take (Int.toNat (if 20 < len l then 20 else len l)) l).length ≤ 20 := by
  rw [zK, aaC]; split <;> omega
 exact ⟨by simp, by show 0 + _ ≤ 20; omega⟩
theorem aTF (l : List ad0) : (bS l).length = bSn l ∧ bSn l ≤ 8 := by
 have : (List.take (Int.toNat (if 8 < len l then 8 else len l)) l).length ≤ 8 := by
  rw [zK, aaC]; split <;> omega
 exact ⟨by simp, by show 0 + _ ≤ 8; omega⟩
theorem aI7 {n : Nat} (k : Int) (hk : 0 ≤ k) : inc (if k < (n : Int) then k else (n : Int)) (n : Int) := by
 unfold inc; split <;> omega
theorem aPi (b : BeT) (c : CvT) (h1 : inR b.1 0 255) (h2 : inR b.2.1 0 255) : ∃ c', am8 (b, c, ()) = some (c', ()) ∧ smC c' := by
 show aPQ (amP b c)
 obtain ⟨a1, a2⟩ := h1
 obtain ⟨b1, b2⟩ := h2
 obtain ⟨t1, t2⟩ := aTE c.2.1
 obtain ⟨s1, s2⟩ := aTF c.2.2.1
 have w1 : w64 b.2.1 = b.2.1 := aaA zc
 have m3 : Int.tmod b.2.1 3 = b.2.1 % 3 := zz b1
 have m2 : Int.tmod b.2.1 2 = b.2.1 % 2 := zz b1
 have m12 : Int.tmod b.1 12 = b.1 % 12 := zz a1
 unfold amP
 refine axJ (axJ (ahX (by rw [aaC]; exact aI7 20 zc) (ahX zc (ahX (by rw [aaC]; exact aI7 8 zc) (ahX zc (axJ ?_))))))
 refine aiV (fun _ => avM ?_) fun e0 => aiV (fun _ => aiV (fun g => ahX ?_ (ahX ?_ (avM ?_))) fun _ => avM ?_) fun e1 => aiV (fun _ => aNq (bT c.2.1, ()) ?_ ?_) fun e2 => aiV (fun _ => axJ (ahX ?_ (avM ?_))) fun e3 => aiV (fun _ => ahX ?_ (avM ?_)) fun e4 => aiV (fun _ => aNq (List.take (bSn c.2.2.1) (bS c.2.2.1), ()) rfl ?_) fun e5 => aiV (fun g => ahX ?_ (ahX ?_ (axJ (ahX ?_ ?_)))) fun _ => avM ?_
 ·unfold smC; dsimp only; simp only [zK]; omega
 ·have := of_decide_eq_true g; omega
 ·have := of_decide_eq_true g
  rw [w1]
  exact ⟨xP _ b1, Int.tmod_lt_of_pos _ zc⟩
 ·unfold smC; dsimp only; simp only [zK, yW]; omega
 ·unfold smC; dsimp only; simp only [zK]; omega
 ·refine uV (uB (uV (uN ?_ rfl)))
  refine ⟨⟨rfl, rfl⟩, rfl, ⟨rfl, rfl⟩, rfl, ⟨rfl, rfl, trivial, trivial, trivial⟩, rfl, ⟨rfl, rfl, ⟨rfl, rfl, t1.symm, rfl⟩, ⟨rfl, rfl, rfl, rfl⟩, trivial⟩, rfl, ⟨rfl, rfl, rfl, rfl, trivial⟩, rfl, trivial⟩
 ·refine acT (fun i : List Int × Unit => i.1.length ≤ 100) (fun i => 100 - i.1.length) (fun a : CvT × Unit => smC a.1) ?_ _ zk
  rintro ⟨l, u⟩ hl
  dsimp only at hl
  unfold aBl
  have hc : w64 (16 + Int.tmod (w64 b.2.1) 3) = 16 + b.2.1 % 3 := by rw [w1, m3, aaA zc]
  by_cases g : len l < w64 (16 + Int.tmod (w64 b.2.1) 3)
  ·left
   have g' := g
   rw [aaC, hc] at g
   refine ⟨(l ++ [w64 (7 * len l)], ()), ?_, by dsimp only; simp only [zH, zG, yP]; omega, by dsimp only; simp only [zH, zG, yP]; omega⟩
   refine uV (uT (zo g') (uN zk (uB (uV (uN ?_ ?_)))))
   ·refine ⟨⟨rfl, rfl⟩, rfl, ⟨rfl, rfl⟩, rfl, ⟨rfl, rfl, trivial, trivial, trivial⟩, rfl, ⟨rfl, rfl, ⟨rfl, rfl, ?_, rfl⟩, ⟨rfl, rfl, rfl, rfl⟩, trivial⟩, rfl, ⟨rfl, rfl, rfl, rfl, trivial⟩, rfl, trivial⟩
    simp
   ·show some (Sum.inl (List.take l.length l ++ [w64 (7 * len l)], ())) = _
    rw [zt]
  ·right
   refine ⟨_, uV (uF (zn g) rfl), ?_⟩
   unfold smC; dsimp only; simp only [zK]; omega
 ·rw [w1, m3]; exact aI7 _ zc
 ·unfold smC; dsimp only; simp only [zK]; omega
 ·omega
 ·unfold smC; dsimp only; simp only [zK, zH, zG, yP]; omega
 ·refine acT (fun i : List ad0 × Unit => i.1.length ≤ 100) (fun i => 100 - i.1.length) (fun a : CvT × Unit => smC a.1) ?_ _ (by dsimp only; simp only [zK]; omega)
  rintro ⟨l, u⟩ hl
  dsimp only at hl
  unfold aBk
  have hc : w64 (4 + Int.tmod (w64 b.2.1) 2) = 4 + b.2.1 % 2 := by rw [w1, m2, aaA zc]
  by_cases g : len l < w64 (4 + Int.tmod (w64 b.2.1) 2)
  ·left
   have g' := g
   rw [aaC, hc] at g
   refine ⟨(List.take (1 + l.length) ([(w64 (1 + len l), 0, 0, 1, 1, 0, ())] ++ l), ()), ?_, by dsimp only; simp only [zK, zH, zG, yP]; omega, by dsimp only; simp only [zK, zH, zG, yP]; omega⟩
   exact uV (uT (zo g') (uN zk (uB (uV (uV rfl)))))
  ·right
   refine ⟨_, uV (uF (zn g) rfl), ?_⟩
   unfold smC; dsimp only; simp only [zK]; omega
 ·have := of_decide_eq_true g; omega
 ·have := of_decide_eq_true g
  rw [w1]
  exact ⟨xP _ b1, Int.tmod_lt_of_pos _ zc⟩
 ·rw [m12] at e0 e1 e2 e3 e4 e5 ⊢
  simp only [beq_eq_false_iff_ne, ne_eq] at e0 e1 e2 e3 e4 e5
  rw [abO zc]
  exact ⟨by omega, by show b.1 % 12 - 6 < 6; omega⟩
 ·rw [m12] at e0 e1 e2 e3 e4 e5 ⊢
  simp only [beq_eq_false_iff_ne, ne_eq] at e0 e1 e2 e3 e4 e5
  rw [abO zc]
  have hz : ∀ x : ad0, smC (c.1, List.take (bTn c.2.1) (bT c.2.1), List.take (bSn c.2.2.1) (List.set (bS c.2.2.1) (bI b c.2.2.1) x), ()) := by
   intro x; unfold smC; dsimp only; simp only [zK, yW]; omega
  refine aiV (fun _ => avM (hz _)) fun f5 => aiV (fun _ => avM (hz _)) fun f4 => aiV (fun _ => avM (hz _)) fun f3 => aiV (fun _ => avM (hz _)) fun f2 => aiV (fun _ => avM (hz _)) fun f1 => aiV (fun _ => avM (hz _)) fun f0 => ?_
  simp only [beq_eq_false_iff_ne, ne_eq] at f0 f1 f2 f3 f4 f5
  exfalso
  have g0 : ¬ b.1 % 12 - 6 = 0 := f0
  have g1 : ¬ b.1 % 12 - 6 = 1 := f1
  have g2 : ¬ b.1 % 12 - 6 = 2 := f2
  have g3 : ¬ b.1 % 12 - 6 = 3 := f3
  have g4 : ¬ b.1 % 12 - 6 = 4 := f4
  have g5 : ¬ b.1 % 12 - 6 = 5 := f5
  omega
 ·unfold smC; dsimp only; simp only [zK]; omega
theorem aQa (d : DrT) (hd : aS2 d) (b : List BeT) (hl : b.length = 2) (hb : ∀ x ∈ b, inR x.1 0 255 ∧ inR x.2.1 0 255) :
  ∃ c0 c1 c2 : CvT, aoH (d, b, ()) = some ([c0, c1, c2], ()) ∧ shC c0 ∧ shC c1 ∧ shC c2 := by
 obtain ⟨p, q, rfl⟩ : ∃ p q, b = [p, q] := by
  match b, hl with
  | [p, q], _ => exact ⟨p, q, rfl⟩
 obtain ⟨c0, h0, r0⟩ := aRB d hd
 obtain ⟨p1, p2⟩ := hb p zi
 obtain ⟨q1, q2⟩ := hb q zi
 obtain ⟨c1, h1, r1⟩ := aPi p c0 p1 p2
 obtain ⟨c2, h2, r2⟩ := aPi q c1 q1 q2
 have sh : ∀ c, smC c → shC c := fun c h => ⟨by have := h.1; omega, by have := h.2; omega⟩
 refine ⟨c0, c1, c2, ?_, aMJ r0, sh _ r1, sh _ r2⟩
 show (aj4 d [p, q]).toO = _
 unfold aj4
 exact uC _ h0 (uV (uC _ h1 (uV (uC _ h2 rfl))))
theorem aHo (b : BeT) (c : CvT) (y) (h : am8 (b, c, ()) = some y) : (amP b c).toO = some y := h
theorem aE3 (d : DrT) (b : List BeT) (y) (h : aoH (d, b, ()) = some y) : (aj4 d b).toO = some y := h
set_option maxRecDepth 100000
open Go Go.Vg Go.Proofs
noncomputable section
def aKh : LTab := [(39, 58, 5120, ⟨0, (Int) × (Bool) × (List Int) × Unit, .dat (.s 4) ud <| .dat (.c 3 0) tK <| .dat (.c 3 1) tw <| .nil, [3, 2, 1], [3, 0], 0⟩)]
def ajL (d : Bool × List Int × Int × Unit) (i : (Int) × (Bool) × (List Int) × Unit) : TT (tG ⊕ uM) :=
 .call (aa4 (10, ())) agP fun y5 =>
 .triv (asT Int 501 ≠ 0) zf <| .call (aiK (y5.1, w64 (Int.tmod d.2.2.1 501), ())) agP fun y6 =>
 .call (abJ ((i.2.1, i.2.2.1, ()), y6.1, ())) agP fun y7 =>
 .call (abE (d.1, y7.1.2.1, ())) agP fun y8 =>
 .call (ajA ((y8.1.1, y8.1.2.1, ()), ())) aGa fun y9 =>
 .ok (.inr ((y9.1, ())))
def apE (d : Bool × List Int × Int × Unit) (y : ug × Unit) (i : (Int) × (Bool) × (List Int) × Unit) : TT (tG ⊕ uM) :=
 .ite (decide (i.1 < len d.2.1))
 (.ite (decide (i.1 < 12))
  (.call (aa4 (1000, ())) agP fun y1 =>
   .call (abJ ((i.2.1, i.2.2.1, ()), y1.1, ())) agP fun y2 =>
   .need (inb i.1 (len d.2.1)) <| .triv (asT Int 1000 ≠ 0) zf <| .call (aa4 (w64 (Int.tmod (gi d.2.1 i.1 0) 1000), ())) agP fun y3 =>
   .call (aeZ (y2.1, y3.1, ())) agP fun y4 =>
   .tt <| .lt (w64 (i.1 + 1) : Int) fun z2 => .lt (y4.1.1 : Bool) fun z3 => .lt (y4.1.2.1 : List Int) fun z4 => .vL (vM z2 <| ur ∧ (vM (#[].toList : List UInt8) <| ui ∧ True)) <| .vL (vK (vO 83 z3 z4) <| vK (vN 31 d.1 d.2.1 d.2.2.1) True) <| .ok (.inl ((z2, z3, z4, ()))))
  (ajL d i))
 (ajL d i)
def aj0 (d : Bool × List Int × Int × Unit) : TT uM :=
 .call (aa4 (0, ())) agP fun y =>
 .loop 0 (.tt <| .lt (y.1.1 : Bool) fun z => .lt (y.1.2.1 : List Int) fun z1 => .vL (vM (0 : Int) <| ur ∧ (vM (#[].toList : List UInt8) <| ui ∧ True)) <| .vL (vK (vO 83 z z1) <| vK (vN 31 d.1 d.2.1 d.2.2.1) True) <| .ok ((0, z, z1, ()))) (apE d y)
end
noncomputable section
abbrev WdT := Bool × List Int × Int × Unit
def ahP (x : WdT × Unit) : Option (List UInt8 × Unit) := (aj0 x.1).toO
end
set_option maxRecDepth 100000
open Go Go.Vg Go.Proofs
noncomputable section
def aM5 : LTab := []
def ahW (d : uI × uI × Unit) : TT tP :=
 .triv (asT Int 4 ≠ 0) zf <| .triv (asT Int 4 ≠ 0) zf <| .call (ahP ((d.1.1, d.1.2.1, Int.tmod d.1.2.2.1 4, ()), ())) Dd2 fun y =>
 .call (alU (y.1, ())) agP fun y1 =>
 .call (ahP ((d.2.1.1, d.2.1.2.1, Int.tmod d.2.1.2.2.1 4, ()), ())) Dd2 fun y2 =>
 .call (alU (y2.1, ())) agP fun y3 =>
 .ite (len y3.1.2.1 == 0)
 (.call (aa4 (1, ())) agP fun y4 =>
 .call (acX ((y1.1.1, y1.1.2.1, ()), (y4.1.1, y4.1.2.1, ()), ())) asB fun y5 =>
 .call (afZ (y5.1, ())) adS fun y6 =>
 .ok (((y6.1.1, y6.1.2.1, ()), ())))
 (.call (acX ((y1.1.1, y1.1.2.1, ()), (y3.1.1, y3.1.2.1, ()), ())) asB fun y7 =>
 .call (afZ (y7.1, ())) adS fun y8 =>
 .ok (((y8.1.1, y8.1.2.1, ()), ())))
end
noncomputable section
abbrev FdT := WdT × WdT × Unit
def arR (x : FdT × Unit) : Option (FxT × Unit) := (ahW x.1).toO
def anC (_ : DrT × List BeT × FdT × FxT × Int × Unit) : Option (Bool × Unit) := some (true, ())
end
theorem ah5 {k : IntKind} {x a b : Int} (h : k.min ≤ x ∧ x ≤ k.max) (ha : k.min = a := by rfl) (hb : k.max = b := by rfl) : inR x a b := by subst ha; subst hb; exact h
def aRW (d : WdT) : Prop := (∀ g ∈ d.2.1, inR g 0 65535) ∧ inR d.2.2.1 0 65535
theorem aMi (b : Bool) {n : Nat} (hn : n < 10 ^ 36) {z0 : Int} (hz : inR z0 0 3) : ∃ (p : Nat) (z : Int), z.natAbs < 10 ^ 39 ∧ aiK (pl 10, w64 (Int.tmod z0 501), ()) = some (pl (10 ^ p), ()) ∧
  abJ (pl (n : Int), pl (10 ^ p), ()) = some (pl ((n : Int) * 10 ^ p), ()) ∧ abE (b, (pl ((n : Int) * 10 ^ p)).2.1, ()) = some (pl z, ()) ∧ ajA (pl z, ()) = some (dec z, 0, ()) := by
 obtain ⟨z1, z2⟩ := hz
 obtain ⟨p, rfl⟩ : ∃ p : Nat, z0 = p := ⟨z0.toNat, by omega⟩
 have hp : p ≤ 3 := zc
 have e1 : w64 (Int.tmod (p : Int) 501) = (p : Int) := by rw [zz z1, aaA zc]; omega
 have hq : (10 : Nat) ^ p ≤ 10 ^ 3 := zV zc hp
 have ec : ((n : Int) * 10 ^ p) = ((n * 10 ^ p : Nat) : Int) := by rw [yd, xV]; rfl
 have hm : n * 10 ^ p < 10 ^ 39 := by
  have := Nat.mul_lt_mul_of_lt_of_le hn hq zf
  exact this
 have fN : Fit ((n * 10 ^ p : Nat) : Int) := afF (k := 39) hm zc
 have hb : Bd 6 (n * 10 ^ p) := aaF (k := 0) (aiE fN) zc
 have hbn : Bd 7 n := aaF (k := 0) (aiE (afF (k := 36) hn zc)) zc
 have hbp : Bd 7 ((10 : Int) ^ p).natAbs := by
  rw [vk]
  exact aaF (aJm zc) zc
 refine ⟨p, if b then -((n * 10 ^ p : Nat) : Int) else ((n * 10 ^ p : Nat) : Int), by split <;> omega, ?_, acP hbn hbp, ?_, ?_⟩
 ·rw [e1]; exact aIi (Or.inr ⟨by omega, rfl⟩)
 ·rw [ec]
  refine afK (n := n * 10 ^ p) (amY hb zc) ?_ ?_
  ·split <;> omega
  ·generalize n * 10 ^ p = m
   by_cases h : m = 0
   ·left; subst h; split <;> rfl
   ·right
    cases b with
    | true => rw [if_pos rfl]; exact (zo zc).symm
    | false => exact (zn (by rw [if_neg zf]; omega)).symm
 ·have hz : ∀ z : Int, z.natAbs = n * 10 ^ p → ajA (pl z, ()) = some (dec z, 0, ()) := by
   intro z h
   rw [aDy (by rw [h]; exact hb)]
   unfold wrW
   rw [if_pos (ac7 fN (by rw [h]; exact zq _))]
  refine hz _ ?_
  split <;> omega
theorem aPS (d : WdT) (hg : ∀ g ∈ d.2.1, inR g 0 65535) (hz : inR d.2.2.1 0 3) : ∃ z : Int, ahP (d, ()) = some (dec z, ()) ∧ z.natAbs < 10 ^ 39 := by
 obtain ⟨b, gs, z0, u⟩ := d
 dsimp only at hg hz
 have i10 : aa4 (10, ()) = some (pl 10, ()) := acA ⟨by omega, by omega⟩
 have i1000 : aa4 (1000, ()) = some (pl 1000, ()) := acA ⟨by omega, by omega⟩
 have hloop : ∃ a, adG (fun i => (apE (b, gs, z0, u) (pl 0, ()) i).toO) (0, (pl 0).1, (pl 0).2.1, ()) = some a ∧ (∃ z : Int, a = (dec z, ()) ∧ z.natAbs < 10 ^ 39) := by
  refine acT (fun i => ∃ n k : Nat, i = ((k : Int), (pl (n : Int)).1, (pl (n : Int)).2.1, ()) ∧ n < 1000 ^ k ∧ k ≤ 12 ∧ k ≤ gs.length) (fun i => (12 - i.1).toNat) _ ?_ _ ⟨0, 0, rfl, by decide, by omega, by omega⟩
  rintro _ ⟨n, k, rfl, h1, h2, h3⟩
  have hn36 : n < 10 ^ 36 := by
   have : (1000 : Nat) ^ k ≤ 1000 ^ 12 := zV zc h2
   exact ye h1 this
  obtain ⟨p, z, hzz, e2, e3, e4, e5⟩ := aMi b hn36 hz
  unfold apE ajL
  by_cases c1 : k < gs.length
  case neg =>
   right
   exact ⟨(dec z, ()), uF (zn (by rw [aaC]; dsimp only; omega)) (uC _ i10 (uV (uC _ e2 (uC _ e3 (uC _ e4 (uC _ e5 rfl)))))), z, rfl, hzz⟩
  by_cases c2 : k < 12
  case neg =>
   right
   exact ⟨(dec z, ()), uT (zo (by rw [aaC]; dsimp only; omega)) (uF (zn zk) (uC _ i10 (uV (uC _ e2 (uC _ e3 (uC _ e4 (uC _ e5 rfl))))))), z, rfl, hzz⟩
  left
  obtain ⟨g0, g1⟩ := hg gs[k] (yf c1)
  have eg : gi gs (k : Int) 0 = gs[k] := aTq rfl c1
  obtain ⟨v, hv⟩ : ∃ v : Nat, (v : Int) = gs[k] % 1000 := ⟨(gs[k] % 1000).toNat, by omega⟩
  have hv1 : v < 1000 := zc
  have e6 : aa4 (w64 (Int.tmod (gi gs (k : Int) 0) 1000), ()) = some (pl (v : Int), ()) := by
   rw [eg, zz g0, ← hv, aaA zc]
   exact acA ⟨by omega, by omega⟩
  have f0 : ∀ m : Nat, m < 10 ^ 39 → Bd 7 m := fun m h => aaF (k := 0) (aiE (afF (k := 39) h zc)) zc
  have e7 : abJ (pl (n : Int), pl 1000, ()) = some (pl ((n : Int) * 1000), ()) := acP (f0 _ (by show n < _; omega)) (f0 _ zf)
  have e8 : aeZ (pl ((n : Int) * 1000), pl (v : Int), ()) = some (pl ((n : Int) * 1000 + v), ()) := anG (f0 _ zc) (f0 _ (by show v < _; omega))
  have e9 : ((n : Int) * 1000 + v) = ((n * 1000 + v : Nat) : Int) := zc
  rw [e9] at e8
  refine ⟨((k + 1 : Nat), (pl ((n * 1000 + v : Nat) : Int)).1, (pl ((n * 1000 + v : Nat) : Int)).2.1, ()), ?_, ⟨_, _, rfl, ?_, by omega, by omega⟩, by dsimp only; omega⟩
  ·refine uT (zo (by rw [aaC]; dsimp only; omega)) (uT (zo zk) (uC _ i1000 (uC _ e7 (uN (by rw [aaC]; dsimp only; exact ⟨by omega, by omega⟩) (uV (uC _ e6 (uC _ e8 (uV (uB (uB (uB (uV (uV ?_)))))))))))))
   show some (Sum.inl (w64 ((k : Int) + 1), _)) = _
   rw [aaA zc]
   rfl
  ·rw [yz]; omega
 obtain ⟨_, e, z, rfl, hzz⟩ := hloop
 refine ⟨z, ?_, hzz⟩
 show (aj0 (b, gs, z0, u)).toO = _
 unfold aj0
 exact uC _ (acA ⟨by omega, by omega⟩) (uO _ rfl e)
theorem aRa {n d : Int} (h1 : Fit n) (h2 : Fit d) (hd : d ≠ 0) : ab6 (Rat.divInt n d) := by
 rcases Int.lt_or_gt_of_ne hd with h | h
 ·obtain ⟨k, rfl⟩ : ∃ k : Nat, d = -(k : Int) := ⟨d.natAbs, by omega⟩
  rw [Rat.divInt_neg', xh]
  refine aeA zc (ac7 h1 zc) (ac7 h2 zc)
 ·obtain ⟨k, rfl⟩ : ∃ k : Nat, d = (k : Int) := ⟨d.toNat, by omega⟩
  rw [xh]
  exact aeA zc h1 h2
theorem aSG (d : FdT) (h1 : aRW d.1) (h2 : aRW d.2.1) : ∃ q : Rat, arR (d, ()) = some (fx q, ()) ∧ ab6 q := by
 have hm : ∀ w : WdT, aRW w → ∃ z : Int, ahP ((w.1, w.2.1, Int.tmod w.2.2.1 4, ()), ()) = some (dec z, ()) ∧ Fit z := by
  intro w hw
  obtain ⟨hw1, hw2, hw3⟩ := hw
  obtain ⟨z, e, hz⟩ := aPS (w.1, w.2.1, Int.tmod w.2.2.1 4, ()) hw1 (by
   dsimp only; rw [zz hw2]; exact ⟨by omega, by omega⟩)
  exact ⟨z, e, ac7 (b := (z.natAbs : Int)) (afF (k := 39) hz zc) zc⟩
 obtain ⟨a, ea, fa⟩ := hm d.1 h1
 obtain ⟨b, eb, fb⟩ := hm d.2.1 h2
 have hb6 : ∀ z : Int, Fit z → Bd 6 z.natAbs := fun z h => aaF (k := 0) (aiE h) zc
 have f1 : Fit 1 := abK ⟨by omega, by omega⟩
 have key : ∀ c : Int, Fit c → c ≠ 0 → acX (pl a, pl c, ()) = some (ra (Rat.divInt a c), ()) ∧ afZ (ra (Rat.divInt a c), ()) = some (fx (Rat.divInt a c), 0, ()) ∧ ab6 (Rat.divInt a c) := by
  intro c fc hc
  have hq := aRa fa fc hc
  refine ⟨aiO (hb6 _ fa) (hb6 _ fc) hc, ?_, hq⟩
  rw [aoM ⟨hb6 _ hq.1, hb6 _ hq.2⟩]
  unfold wrF
  rw [if_pos hq]
 by_cases c0 : b = 0
 ·obtain ⟨k1, k2, k3⟩ := key 1 f1 zc
  refine ⟨_, ?_, k3⟩
  show (ahW d).toO = _
  unfold ahW
  refine uV (uV (uC _ ea (uC _ (anH fa) (uC _ eb (uC _ (anH fb) (uT ?_ (uC _ (acA ⟨by omega, by omega⟩) (uC _ k1 (uC _ k2 rfl)))))))))
  subst c0
  show (len (dig 0) == 0) = true
  rw [dig_zero]; rfl
 ·obtain ⟨k1, k2, k3⟩ := key b fb c0
  refine ⟨_, ?_, k3⟩
  show (ahW d).toO = _
  unfold ahW
  refine uV (uV (uC _ ea (uC _ (anH fa) (uC _ eb (uC _ (anH fb) (uF ?_ (uC _ k1 (uC _ k2 rfl))))))))
  show (len (dig b.natAbs) == 0) = false
  rw [beq_eq_false_iff_ne, aaC]
  intro h
  exact c0 (by have := dig_nil_iff.1 (yx (by omega : (dig b.natAbs).length = 0)); omega)
theorem aEq (d : WdT) (y) (h : ahP (d, ()) = some y) : (aj0 d).toO = some y := h
theorem aGM (d : FdT) (y) (h : arR (d, ()) = some y) : (ahW d).toO = some y := h
set_option maxRecDepth 100000
open Go Go.Vg Go.Proofs
noncomputable section
abbrev eR (raw : List UInt8 × List UInt8 × Unit) : List UInt8 × List UInt8 × Unit := (List.take (Int.toNat (if 20 < len raw.1 then 20 else len raw.1)) raw.1, List.take (Int.toNat (if 20 < len raw.2.1 then 20 else len raw.2.1)) raw.2.1, ())
abbrev eX (p raw q : List UInt8 × List UInt8 × Unit) : List (List UInt8 × List UInt8 × Unit) := [(p.1, p.2.1, ()), eR raw, (q.1, q.2.1, ())]
abbrev eC (l : List (Int × List Int × List (Int × Int × Int × Int × Int × Int × Unit) × Unit)) (i : Int) := gi l i (0, [], [], ())
abbrev eY (p raw q : List UInt8 × List UInt8 × Unit) (i : Int) := gi (eX p raw q) i ([], [], ())
def aF7 : LTab := [(3, 122, 28672, ⟨0, (Int) × Unit, .dat (.s 40) ud <| .nil, [39, 8, 7, 4], [3, 2], 0⟩), (3, 31334, 39936, ⟨1, (Int) × Unit, .dat (.s 50) ud <| .nil, [49, 48, 47, 46, 45, 44, 43, 12, 42, 41, 40, 39, 8, 7, 4], [30, 3, 2], 0⟩)]
def asC (d : Int × List Int × List uc × Bool × Bool × Unit) (b : List (Int × Int × Int × Unit)) (x : uI × uI × Unit) (raw : List UInt8 × List UInt8 × Unit) (at0 : Int) (y : Bool × Unit) (y1 : List uf × Unit) (i : Int × Unit) (y2 : ue × Unit) (y3 : ue × Unit) (i1 : (Int) × Unit) : TT (uG ⊕ tJ) :=
 .ite (decide (i1.1 < 3))
 (.need (inb i1.1 (↑3 : Int)) <| .call (ab8 (((eC y1.1 i.1).1, (eC y1.1 i.1).2.1, (eC y1.1 i.1).2.2.1, ()), ((eY y2.1 raw y3.1 i1.1).1, (eY y2.1 raw y3.1 i1.1).2.1, ()), ())) adS fun y4 =>
 .call (akE (((eC y1.1 i.1).1, (eC y1.1 i.1).2.1, (eC y1.1 i.1).2.2.1, ()), ((eY y2.1 raw y3.1 i1.1).1, (eY y2.1 raw y3.1 i1.1).2.1, ()), ())) adS fun y5 =>
 .ite (!(match y4.1.1 == y5.1.1 with | true => (match y4.1.2.1 == y5.1.2.1 with | true => true | false => false) | false => false))
 (.ok (.inr (.inr ((false, ())))))
 (.ite (y4.2.1 != y5.2.1)
 (.ok (.inr (.inr ((false, ())))))
 (.tt <| .lt (w64 (i1.1 + 1) : Int) fun z => .vL (vV z (eX y2.1 raw y3.1 : List ue) y3.1 (w64 at0 : Int) at0 (eR raw : List UInt8 × List UInt8 × Unit) y2.1 (((x.1.1, x.1.2.1, x.1.2.2.1, ()), (x.2.1.1, x.2.1.2.1, x.2.1.2.2.1, ()), ()) : uI × uI × Unit) <| (vZ 30 0 true) ∧ (vT (eC y1.1 i.1 : Int × List Int × List uc × Unit) (decide (i.1 < 3)) i.1 (y1.1 : List uf) <| ur ∧ uw ∧ vU at0)) <| .vL (vK (vN 42 ((eC y1.1 i.1).1 : Int) ((eC y1.1 i.1).2.1 : List Int) ((eC y1.1 i.1).2.2.1 : List uc)) <| vK (vO 36 (List.take (Int.toNat (if 20 < len raw.1 then 20 else len raw.1)) raw.1) (List.take (Int.toNat (if 20 < len raw.2.1 then 20 else len raw.2.1)) raw.2.1)) <| vK (ub 33 x.1.1 x.1.2.1 x.1.2.2.1 x.2.1.1 x.2.1.2.1 x.2.1.2.2.1) True) <| .ok (.inl ((z, ()))))))
 (.tt <| .lt (w64 (i.1 + 1) : Int) fun z1 => .vL (vS z1 (y1.1 : List uf) <| ur ∧ uw ∧ vU at0) <| .vL (vK (vO 36 (List.take (Int.toNat (if 20 < len raw.1 then 20 else len raw.1)) raw.1) (List.take (Int.toNat (if 20 < len raw.2.1 then 20 else len raw.2.1)) raw.2.1)) <| vK (ub 33 x.1.1 x.1.2.1 x.1.2.2.1 x.2.1.1 x.2.1.2.1 x.2.1.2.2.1) True) <| .ok (.inr (.inl ((z1, ())))))
def asD (d : Int × List Int × List uc × Bool × Bool × Unit) (b : List (Int × Int × Int × Unit)) (x : uI × uI × Unit) (raw : List UInt8 × List UInt8 × Unit) (at0 : Int) (y : Bool × Unit) (y1 : List uf × Unit) (i : (Int) × Unit) : TT tJ :=
 .ite (decide (i.1 < 3))
 (.need (inb i.1 (↑3 : Int)) <| .call (arR (((x.1.1, x.1.2.1, x.1.2.2.1, ()), (x.2.1.1, x.2.1.2.1, x.2.1.2.2.1, ()), ()), ())) adL fun y2 =>
 .call (adF (w64 at0, 1000, ())) adL fun y3 =>
 .loop 1 (.tt <| .vL (vV (0 : Int) (eX y2.1 raw y3.1 : List ue) y3.1 (w64 at0 : Int) at0 (eR raw : List UInt8 × List UInt8 × Unit) y2.1 (((x.1.1, x.1.2.1, x.1.2.2.1, ()), (x.2.1.1, x.2.1.2.1, x.2.1.2.2.1, ()), ()) : uI × uI × Unit) <| (vZ 30 0 true) ∧ (vT (eC y1.1 i.1 : Int × List Int × List uc × Unit) (decide (i.1 < 3)) i.1 (y1.1 : List uf) <| ur ∧ uw ∧ vU at0)) <| .vL (vK (vN 42 ((eC y1.1 i.1).1 : Int) ((eC y1.1 i.1).2.1 : List Int) ((eC y1.1 i.1).2.2.1 : List uc)) <| vK (vO 36 (List.take (Int.toNat (if 20 < len raw.1 then 20 else len raw.1)) raw.1) (List.take (Int.toNat (if 20 < len raw.2.1 then 20 else len raw.2.1)) raw.2.1)) <| vK (ub 33 x.1.1 x.1.2.1 x.1.2.2.1 x.2.1.1 x.2.1.2.1 x.2.1.2.2.1) True) <| .ok ((0, ()))) (asC d b x raw at0 y y1 i y2 y3))
 (.ok (.inr ((true, ()))))
def anL (d : Int × List Int × List uc × Bool × Bool × Unit) (b : List (Int × Int × Int × Unit)) (x : (Bool × List Int × Int × Unit) × (Bool × List Int × Int × Unit) × Unit) (raw : List UInt8 × List UInt8 × Unit) (at0 : Int) : TT ux :=
 .call (auD ()) Dd1 fun y =>
 .ite (!y.1)
 (.ok ((false, ())))
 (.need (inc (if 20 < len raw.1 then 20 else len raw.1) (len raw.1)) <| .need (inc (if 20 < len raw.2.1 then 20 else len raw.2.1) (len raw.2.1)) <| .call (aoH ((d.1, d.2.1, d.2.2.1, d.2.2.2.1, d.2.2.2.2.1, ()), [((List.headD b (0, 0, 0, ())).1, (List.headD b (0, 0, 0, ())).2.1, (List.headD b (0, 0, 0, ())).2.2.1, ()), ((List.headD (List.tail b) (0, 0, 0, ())).1, (List.headD (List.tail b) (0, 0, 0, ())).2.1, (List.headD (List.tail b) (0, 0, 0, ())).2.2.1, ())], ())) aUl fun y1 =>
 .loop 0 (.tt <| .vL (vS (0 : Int) (y1.1 : List uf) <| ur ∧ uw ∧ vU at0) <| .vL (vK (vO 36 (List.take (Int.toNat (if 20 < len raw.1 then 20 else len raw.1)) raw.1) (List.take (Int.toNat (if 20 < len raw.2.1 then 20 else len raw.2.1)) raw.2.1)) <| vK (ub 33 x.1.1 x.1.2.1 x.1.2.2.1 x.2.1.1 x.2.1.2.1 x.2.1.2.2.1) True) <| .ok ((0, ()))) (asD d b x raw at0 y y1))
end
def aUd (b : List BeT) : Prop := b.length = 2 ∧ ∀ x ∈ b, inR x.1 0 255 ∧ inR x.2.1 0 255
theorem aI8 {α : Type} {p : α → Prop} {a b c d : α} (h1 : p a) (h2 : p b) (h3 : p c) {i : Int} (h : 0 ≤ i) (g : i < 3) : p (gi [a, b, c] i d) := by
 obtain ⟨k, rfl⟩ : ∃ k : Nat, i = k := ⟨i.toNat, by omega⟩
 rw [aaM]
 match k, g with
 | 0, _ => exact h1
 | 1, _ => exact h2
 | 2, _ => exact h3
theorem aPT {x : DrT × List BeT × FdT × FxT × Int × Unit} (h : Wf (.pair (.pair (.int .u8) (.pair (.sl (.int .u16)) (.pair (.sl (.pair (.int .u8) (.pair (.int .i16) (.pair (.int .i16) (.pair (.int .i16) (.pair (.int .u8) (.pair (.int .u8) .unit))))))) (.pair .bool (.pair .bool .unit))))) (.pair (.arr 2 (.pair (.int .u8) (.pair (.int .u8) (.pair (.int .i64) .unit)))) (.pair (.pair (.pair .bool (.pair (.sl (.int .u16)) (.pair (.int .u16) .unit))) (.pair (.pair .bool (.pair (.sl (.int .u16)) (.pair (.int .u16) .unit))) .unit)) (.pair (.pair .str (.pair .str .unit)) (.pair (.int .i16) .unit))))) x) :
  aS2 x.1 ∧ aUd x.2.1 ∧ aRW x.2.2.1.1 ∧ aRW x.2.2.1.2.1 ∧ inR x.2.2.2.2.1 (-32768) 32767 := by
 obtain ⟨⟨h1, ⟨-, h2⟩, ⟨-, h3⟩, -⟩, ⟨h4, h5⟩, ⟨⟨-, ⟨-, h6⟩, h7, -⟩, ⟨-, ⟨-, h8⟩, h9, -⟩, -⟩, -, h10, -⟩ := h
 refine ⟨⟨ah5 h1, fun v hv => ah5 (h2 v hv), fun s hs => ?_⟩, ⟨h4, fun v hv => ?_⟩, ⟨fun v hv => ah5 (h6 v hv), ah5 h7⟩, ⟨fun v hv => ah5 (h8 v hv), ah5 h9⟩, ah5 h10⟩
 ·obtain ⟨a1, a2, a3, a4, a5, a6, -⟩ := h3 s hs
  exact ⟨ah5 a1, ah5 a2, ah5 a3, ah5 a4, ah5 a5, ah5 a6⟩
 ·obtain ⟨a1, a2, -⟩ := h5 v hv
  exact ⟨ah5 a1, ah5 a2⟩
theorem aRH {α : Type} (l : List α) : (List.take (Int.toNat (if 20 < len l then 20 else len l)) l).length ≤ 1000000000000 := by
 rw [zK, aaC]; split <;> omega
theorem aTp {α : Type} (l : List α) : inc (if 20 < len l then 20 else len l) (len l) := by rw [aaC]; exact aI7 20 zc
theorem aAA (d : DrT) (b : List BeT) (x : FdT) (raw : FxT) (at0 : Int) (hp : aS2 d ∧ aUd b ∧ aRW x.1 ∧ aRW x.2.1 ∧ inR at0 (-32768) 32767) (y) (h : anC (d, b, x, raw, at0, ()) = some y) : (anL d b x raw at0).toO = some y := by
 injection h with h
 subst h
 obtain ⟨hd, ⟨hl, hb⟩, hx1, hx2, a1, a2⟩ := hp
 obtain ⟨c0, c1, c2, h3, s0, s1, s2⟩ := aQa d hd b hl hb
 obtain ⟨p, q, rfl⟩ : ∃ p q, b = [p, q] := by
  match b, hl with
  | [p, q], _ => exact ⟨p, q, rfl⟩
 obtain ⟨f, ef, ff⟩ := aSG x hx1 hx2
 have e0 : adF (w64 at0, 1000, ()) = some (fx (mkRat at0 1000), ()) := by
  rw [aaA zc]; exact aj5 (d := 1000) ⟨by omega, by omega⟩ zc zc
 have fg : ab6 (mkRat at0 1000) := aCQ zc ⟨by omega, by omega⟩ zc
 unfold anL
 refine uC (true, ()) rfl (uF rfl (uN (aTp _) (uN (aTp _) (uC ([c0, c1, c2], ()) h3 (uO (0, ()) rfl ?_)))))
 refine aaL (fun i : Int × Unit => 0 ≤ i.1 ∧ i.1 ≤ 3) (fun i => (3 - i.1).toNat) (fun _ => (true, ())) ?_ _ ⟨by decide, by decide⟩
 rintro ⟨i, u⟩ ⟨i1, i2⟩
 dsimp only at i1 i2
 unfold asD
 by_cases g : i < 3
 ·left
  refine ⟨(i + 1, ()), ?_, ⟨by dsimp only; omega, by dsimp only; omega⟩, by dsimp only; omega, rfl⟩
  refine uT (zo g) (uN ⟨i1, g⟩ (uC _ ef (uC _ e0 (uO (0, ()) rfl ?_))))
  refine aaL (fun j : Int × Unit => 0 ≤ j.1 ∧ j.1 ≤ 3) (fun j => (3 - j.1).toNat) (fun _ => Sum.inl (i + 1, ())) ?_ _ ⟨by decide, by decide⟩
  rintro ⟨j, v⟩ ⟨j1, j2⟩
  dsimp only at j1 j2
  have hs : shC (gi [c0, c1, c2] i (0, [], [], ())) := aI8 s0 s1 s2 i1 g
  unfold asC
  by_cases k : j < 3
  ·left
   refine ⟨(j + 1, ()), ?_, ⟨by dsimp only; omega, by dsimp only; omega⟩, by dsimp only; omega, rfl⟩
   have hf : shF (eY (fx f) raw (fx (mkRat at0 1000)) j) := aI8 (p := shF) (aOw ff) ⟨aRH raw.1, aRH raw.2.1⟩ (aOw fg) j1 k
   have e := aPI hs hf
   obtain ⟨r, hr⟩ : ∃ r, ab8 (gi [c0, c1, c2] i (0, [], [], ()), eY (fx f) raw (fx (mkRat at0 1000)) j, ()) = some r := ⟨_, rfl⟩
   rw [hr] at e
   refine uT (zo k) (uN ⟨j1, k⟩ (uC r hr (uC r e (uF zi (uF zi (uV (uB (uV (uV ?_)))))))))
   show some (Sum.inl (w64 (j + 1), ())) = _
   rw [aaA zc]
  ·right
   refine uF (zn k) (uV (uB (uV (uV ?_))))
   show some (Sum.inr (Sum.inl (w64 (i + 1), ()))) = _
   rw [aaA zc]
 ·right
  exact uF (zn g) rfl
set_option maxRecDepth 100000
open Go Go.Vg Go.Proofs
noncomputable section
def aMe : LTab := []
def aMf : LTab := [(233, 12, 1025, ⟨0, (List Int) × Unit, .dat (.s 0) uX <| .nil, [2], [], 0⟩)]
def aDO : LTab := [(266, 58, 10240, ⟨0, (Int) × Unit, .dat (.s 5) ud <| .nil, [0, 1], [], 0⟩)]
def aMh : LTab := [(248, 3, 1025, ⟨0, (List Int) × (List Int) × Unit, .dat (.s 0) uX <| .dat (.s 1) uX <| .nil, [4], [], 0⟩), (248, 250, 10241, ⟨1, (Int) × (Int) × (List Int) × Unit, .dat (.s 22) ud <| .dat (.s 6) uj <| .app (.s 5) 10 189 uj <| .nil, [21, 20, 1, 4], [], 1⟩)]
def aJI : LTab := [(249, 122, 9217, ⟨0, (Int) × (Int) × (List Int) × Unit, .dat (.s 15) ud <| .dat (.s 6) uj <| .row 3 uj <| .nil, [14, 13, 5, 4, 1], [3], 0⟩)]
def aJF : LTab := [(257, 58, 11265, ⟨0, (Int) × (List Int) × Unit, .dat (.s 19) ud <| .row 6 uj <| .nil, [18, 17, 5, 4, 1], [6], 0⟩), (257, 59802, 21505, ⟨1, (Int) × (Int) × (List Int) × Unit, .dat (.s 26) ud <| .dat (.s 8) uD <| .row 6 uj <| .nil, [25, 24, 7, 6, 23, 22, 21, 20, 19, 18, 17, 5, 4, 1], [6], 0⟩)]
def aJG : LTab := [(267, 122, 11265, ⟨0, (Int) × (Int) × (List Int) × Unit, .dat (.s 8) ud <| .dat (.s 7) uD <| .row 4 uj <| .nil, [6, 5, 4, 0, 1], [4], 0⟩)]
def aB1 : LTab := [(268, 28, 2050, ⟨0, Bool × (List Int) × (Int) × Unit, .appN (.s 3) 2 189 uj <| .dat (.s 0) uD <| .nil, [2], [], 1⟩)]
def aJL : LTab := [(205, 218, 5122, ⟨0, (Int) × Bool × (List Int) × Unit, .dat (.s 4) ud <| .appN (.s 3) 5 189 uj <| .nil, [2, 0], [], 1⟩), (205, 55834, 13314, ⟨1, (Int) × (Int) × Unit, .dat (.s 7) ud <| .dat (.s 6) uj <| .nil, [15, 5, 14, 13, 12, 3, 4, 2, 0], [], 0⟩), (205, 55834, 13313, ⟨2, (Int) × (Int) × Unit, .dat (.s 7) ud <| .dat (.s 6) uj <| .nil, [15, 5, 14, 13, 12, 3, 4, 2, 0], [5], 0⟩)]
def aGe : LTab := []
end
end Go.Vs
