/-
  Trees of what the functions compute, and their laws. Own work; no condition.
-/
import Derived.Test.YtakjojajnblpoaaGreatDoorClL7
import Derived.Test.YtakjojajnblpoaaGreatDoorProg
set_option linter.unusedVariables false
set_option linter.unusedSimpArgs false
set_option maxRecDepth 100000
namespace Go.Vs
open Go Go.Vg Go.Proofs
noncomputable section
def aSz : LTab := []
def aOc (n : Int) (d : Int) : TT tP :=
 .call (ap0 (n, d, ())) adS fun y =>
 .ok (((y.1.1, y.1.2.1, ()), ()))
def aOa : LTab := []
def l9_tent_t : TT uW :=
 .ok (((2, List.take 3 [0, 65535, 0], [], ()), ()))
def aKZ : LTab := []
def l9_steps_t : TT uW :=
 .ok (((3, [], List.take 2 [(500000, 1000000, 0, 1, 1, 0, ()), (1000000, 2000000, -1000000, 2, 1, 500000, ())], ()), ()))
def aOb : LTab := []
def l9_root_t : TT uW :=
 .ok (((3, [], [(1000000, 1000000, 0, 1, 2, 0, ())], ()), ()))
def aKX : LTab := []
def atG (c : Int × List Int × List uc × Unit) (x : List UInt8 × List UInt8 × Unit) (y : List UInt8 × List UInt8 × Unit) : TT ux :=
 .call (ab8 ((c.1, c.2.1, c.2.2.1, ()), (x.1, x.2.1, ()), ())) adS fun y1 =>
 .ite ((match y1.1.1 == y.1 with | true => (match y1.1.2.1 == y.2.1 with | true => true | false => false) | false => false))
 (.ok ((y1.2.1 == 0, ())))
 (.ok ((false, ())))
def aKW : LTab := []
def l9_wakes_t : TT ux :=
 .call (arX ()) aL6 fun y =>
 .call (adF (1, 4, ())) adL fun y1 =>
 .call (ab8 (y.1, y1.1, ())) adS fun y2 =>
 .call (arX ()) aL6 fun y3 =>
 .call (ahA (y3.1, (250000000000, 250000000000, ()), ())) avT fun y4 =>
 .call (akJ ()) aL6 fun y5 =>
 .call (ahA (y5.1, (250000000000, 750000000000, ()), ())) avT fun y6 =>
 .call (akJ ()) aL6 fun y7 =>
 .call (anA (y7.1, ())) aDK fun y8 =>
 .call (akJ ()) aL6 fun y9 =>
 .call (adF (1, 4, ())) adL fun y10 =>
 .call (adF (1, 2, ())) adL fun y11 =>
 .call (aeL (y9.1, y10.1, y11.1, ())) Dd1 fun y12 =>
 .ite (y12.1)
 (.call (akJ ()) aL6 fun y13 =>
 .call (adF (2, 1, ())) adL fun y14 =>
 .call (adF (0, 1, ())) adL fun y15 =>
 .call (aeL (y13.1, y14.1, y15.1, ())) Dd1 fun y16 =>
 .ite (y16.1)
 (.call (aoI ()) aL6 fun y17 =>
 .call (adF (3, 4, ())) adL fun y18 =>
 .call (adF (3, 4, ())) adL fun y19 =>
 .call (aeL (y17.1, y18.1, y19.1, ())) Dd1 fun y20 =>
 .ite (y20.1)
 (.call (aoI ()) aL6 fun y21 =>
 .call (adF (1, 2, ())) adL fun y22 =>
 .call (adF (1, 2, ())) adL fun y23 =>
 .call (aeL (y21.1, y22.1, y23.1, ())) Dd1 fun y24 =>
 .ite (y24.1)
 (.ite (y2.2.1 == 5)
 (.ite ((match y4.1.1 == 500000000000 with | true => (match y4.1.2.1 == 500000000000 with | true => true | false => false) | false => false))
 (.ite (y4.2.1 == 0)
 (.ite ((match y6.1.1 == 500000000000 with | true => (match y6.1.2.1 == 1000000000000 with | true => true | false => false) | false => false))
 (.ite (y6.2.1 == 0)
 (.ite (y8.1 == 0)
 (.ite (y8.2.1 == 0)
 (.call (ag9 ((0, [], [], ()), ())) Dd6 fun y25 =>
 .ok ((y25.1 == 90, ())))
 (.ok ((false, ()))))
 (.ok ((false, ()))))
 (.ok ((false, ()))))
 (.ok ((false, ()))))
 (.ok ((false, ()))))
 (.ok ((false, ()))))
 (.ok ((false, ()))))
 (.ok ((false, ()))))
 (.ok ((false, ()))))
 (.ok ((false, ()))))
 (.ok ((false, ())))
end
open Go Go.Vg
theorem aOd (n d : Int) (y) (h : adF (n, d, ()) = some y) : (aOc n d).toO = some y := by
 unfold adF ab0 at h
 split at h
 ·rename_i hp
  exact uC (ofQ n d) (by unfold ap0 alZ; rw [if_pos hp]) h
 ·cases h
theorem aHm (y) (h : akJ () = some y) : l9_tent_t.toO = some y := h
theorem aE4 (y) (h : aoI () = some y) : l9_steps_t.toO = some y := h
theorem aHn (y) (h : arX () = some y) : l9_root_t.toO = some y := h
theorem aE2 (c : CvT) (x z : FxT) (y) (h : aeL (c, x, z, ()) = some y) : (atG c x z).toO = some y := by
 unfold aeL at h
 dsimp only at h
 cases hr : ab8 (c, x, ()) with
 | none => rw [hr] at h; cases h
 | some r =>
  rw [hr] at h
  injection h with h
  subst h
  unfold atG
  refine uC r hr ?_
  obtain ⟨⟨r1, r2, r3⟩, r4, r5⟩ := r
  obtain ⟨z1, z2, z3⟩ := z
  dsimp only
  by_cases c1 : r1 = z1
  ·subst c1
   by_cases c2 : r2 = z2
   ·subst c2
    refine uT zi ?_
    rw [aaJ]
    by_cases c3 : r4 = 0
    ·subst c3
     rw [aJd rfl]; rfl
    ·rw [ayK (fun h => c3 (by injection h with _ h; injection h with h _)), beq_eq_false_iff_ne.2 c3]
   ·rw [ayK (fun h => c2 (by injection h with h _; injection h with _ h; injection h with h _))]
    refine uF ?_ rfl
    simp [beq_eq_false_iff_ne.2 c2]
  ·rw [ayK (fun h => c1 (by injection h with h _; injection h with h _))]
   refine uF ?_ rfl
   simp [beq_eq_false_iff_ne.2 c1]
theorem anN : abW asK := zf
theorem awR : abW stepsC := zf
theorem aAN : abW rootC := zf
theorem aIp : adM [0, 65535, 0] := zf
theorem aj5 {n : Int} {d : Nat} (hn : abA n) (hd : d ≠ 0) (h2 : d ≤ 9223372036854775807) : adF (n, (d : Int), ()) = some (fx (mkRat n d), ()) := af2 hn hd h2
theorem aJP : anA (asK, ()) = some (0, 0, ()) := by
 unfold anA; dsimp only; rw [if_pos anN]; decide
theorem aq5 {c : CvT} (hr : abW c) {n : Int} (hn : inU n) : ab8 (c, fx (mkRat n 1000000000000), ()) = some (aC4 c (mkRat n 1000000000000)) := by
 unfold ab8
 dsimp only
 rw [if_pos hr, afD (aq2 hn)]
 dsimp only
 rw [apV hn]
theorem aDS : ab8 (asK, fx (mkRat 1 4), ()) = some (fx (mkRat 1 2), 0, ()) := by
 have e : mkRat 1 4 = mkRat 250000000000 1000000000000 := by rw [yn zc zc]; omega
 have hu : inU 250000000000 := ⟨by omega, by omega⟩
 rw [e, aq5 anN hu]
 obtain ⟨q1, -⟩ := afC aIp hu
 have : aC4 asK (mkRat 250000000000 1000000000000) = aoY (aL8 [0, 65535, 0] (mkRat 250000000000 1000000000000)) := rfl
 rw [this, q1]
 have hm : asE [0, 65535, 0] 250000000000 = 32767500000000000 := zf
 have e2 : mkRat 32767500000000000 65535000000000000 = mkRat 1 2 := by rw [yn zc zc]; omega
 rw [hm, e2]; rfl
theorem aQb : ab8 (asK, fx (mkRat 2 1), ()) = some (fx (mkRat 0 1), 0, ()) := by
 have hf : ab6 (mkRat 2 1) := aa7 ⟨by omega, by omega⟩
 have hc : aeY (mkRat 2 1) = mkRat 1000000000000 1000000000000 := by
  rw [aIn]
  unfold aeY
  rw [if_neg zf, if_pos zf]
 have hu : inU 1000000000000 := ⟨by omega, by omega⟩
 unfold ab8
 dsimp only
 rw [if_pos anN, afD hf]
 dsimp only
 rw [hc]
 obtain ⟨q1, -⟩ := afC aIp hu
 have : aC4 asK (mkRat 1000000000000 1000000000000) = aoY (aL8 [0, 65535, 0] (mkRat 1000000000000 1000000000000)) := rfl
 rw [this, q1]
 have hm : asE [0, 65535, 0] 1000000000000 = 0 := zf
 have e2 : mkRat 0 65535000000000000 = mkRat 0 1 := by rw [yn zc zc]; omega
 rw [hm, e2]; rfl
theorem aJQ : ahA (asK, (250000000000, 750000000000, ()), ()) = some ((500000000000, 1000000000000, ()), 0, ()) := by
 unfold ahA
 dsimp only
 rw [if_pos anN, if_pos zf]
 have : aJo asK (asI (250000000000, 750000000000, ())) = (arH [0, 65535, 0] 250000000000 750000000000, 0, ()) := rfl
 rw [this]
 have h2 : arH [0, 65535, 0] 250000000000 750000000000 = (500000000000, 1000000000000, ()) := zf
 rw [h2]
theorem aDZ : ab8 (rootC, fx (mkRat 1 4), ()) = some (([], [], ()), 5, ()) := by
 have e : mkRat 1 4 = mkRat 250000000000 1000000000000 := by rw [yn zc zc]; omega
 have hu : inU 250000000000 := ⟨by omega, by omega⟩
 rw [e, aq5 aAN hu]
 have : aC4 rootC (mkRat 250000000000 1000000000000) = ax3 rootC.2.2.1 (mkRat 250000000000 1000000000000) := rfl
 rw [this]
 unfold ax3
 rw [as3]
 have hp : abB 250000000000 rootC.2.2.1 = 0 := zf
 rw [hp, if_neg zf]
theorem aKT : ag9 ((0, [], [], ()), ()) = some (90, ()) := zf
theorem aFu : aC7 1 2 250000000000 = 500000000000 := by
 unfold aC7
 exact aCH zc zf zf
theorem aEz : aL9 (250000000000, 250000000000, ()) 1 2 = ((500000000000, 500000000000, ()), 0, ()) := by
 unfold aL9
 have hp : ∀ b : Bool, az8 1 2 250000000000 b = (500000000000, 0, ()) := by
  intro b
  unfold az8
  rw [aFu, if_neg zf, if_neg (fun h => h.2 zf)]
  rfl
 have e1 : (1 : Int).toNat = 1 := rfl
 have e2 : (2 : Int).toNat = 2 := rfl
 have e3 : (250000000000 : Int).toNat = 250000000000 := rfl
 dsimp only
 rw [if_pos zf, if_pos zf, e1, e2, e3, hp, hp]
 decide
theorem aJV : ahA (rootC, (250000000000, 250000000000, ()), ()) = some ((500000000000, 500000000000, ()), 0, ()) := by
 unfold ahA
 dsimp only
 rw [if_pos aAN, if_pos zf]
 have h1 : aJo rootC (asI (250000000000, 250000000000, ())) = avC [(1000000, 1000000, 0, 1, 2, 0, ())] 250000000000 250000000000 := rfl
 rw [h1]
 unfold avC
 have hp : abB 250000000000 [((1000000, 1000000, 0, 1, 2, 0, ()) : ad0)] = 0 := zf
 rw [hp]
 show some (at5 _ _ _ 1 0 []) = _
 have hs : aDH [(1000000, 1000000, 0, 1, 2, 0, ())] 250000000000 250000000000 0 = ((500000000000, 500000000000, ()), 0, ()) := by
  unfold aDH
  have e1 : max (250000000000 : Int) (acK [(1000000, 1000000, 0, 1, 2, 0, ())] 0 * 1000000) = 250000000000 := zf
  have e2 : min (250000000000 : Int) ((([(1000000, 1000000, 0, 1, 2, 0, ())] : List ad0).getD 0 (0, 0, 0, 0, 0, 0, ())).1 * 1000000) = 250000000000 := zf
  rw [e1, e2]
  show aAe (1000000, 1000000, 0, 1, 2, 0, ()) 250000000000 250000000000 = _
  unfold aAe
  have e3 : aAd (1000000, 1000000, 0, 1, 2, 0, ()) 250000000000 250000000000 = (250000000000, 250000000000, ()) := zf
  rw [e3]
  dsimp only
  rw [aEz]
  decide
 rw [amZ, hs]
 decide
theorem aCQ {n : Int} {d : Nat} (hd : d ≠ 0) (hn : abA n) (h2 : d ≤ 9223372036854775807) : ab6 (mkRat n d) := aeA hd (abK hn) (abK ⟨by omega, by omega⟩)
theorem aGq : ab8 (stepsC, fx (mkRat 3 4), ()) = some (fx (mkRat 3 4), 0, ()) := by
 have e : mkRat 3 4 = mkRat 750000000000 1000000000000 := by rw [yn zc zc]; omega
 have hu : inU 750000000000 := ⟨by omega, by omega⟩
 rw [e, aq5 awR hu]
 have : aC4 stepsC (mkRat 750000000000 1000000000000) = ax3 stepsC.2.2.1 (mkRat 750000000000 1000000000000) := rfl
 rw [this]
 unfold ax3
 rw [as3]
 have hp : abB 750000000000 stepsC.2.2.1 = 1 := zf
 rw [hp, if_pos zf]
 show some (aoY (aCO (1000000, 2000000, -1000000, 2, 1, 500000, ()) (mkRat 750000000000 1000000000000))) = _
 unfold aCO
 dsimp only
 obtain ⟨l1, -⟩ := ak6 (m := 2000000) (a := -1000000) ⟨by omega, by omega⟩ ⟨by omega, by omega⟩ hu
 have hm : afO 2000000 (-1000000) 750000000000 = 500000000000000000 := zf
 have e2 : mkRat 500000000000000000 1000000000000000000 = mkRat 1 2 := by rw [yn zc zc]; omega
 rw [l1, hm, e2]
 simp only [zO]
 have hpos : aGZ (mkRat 1 2) = mkRat 1 2 := by unfold aGZ; rw [if_neg zf]
 have hn : ((2 : Int) - 1).toNat = 1 := rfl
 rw [hpos, hn]
 have hmul : mkRat 1 2 * mkRat 1 2 = mkRat 1 4 := by rw [yS]; rfl
 have h1 : acR (mkRat 1 2) 1 (mkRat 1 2) = some (mkRat 1 4) := by
  show (abN (mkRat 1 2 * mkRat 1 2)).bind some = _
  rw [hmul]; unfold abN
  rw [if_pos (aCQ zc ⟨by omega, by omega⟩ zc)]; rfl
 rw [h1]
 simp only [zO]
 have hadd : mkRat 1 4 + mkRat 500000 1000000 = mkRat 3 4 := by
  rw [xF _ _ zc zc, yn zc zc]; decide
 have hc : aeY (mkRat 3 4) = mkRat 3 4 := by rw [e]; exact apV hu
 rw [hadd]
 unfold abN
 rw [if_pos (aCQ zc ⟨by omega, by omega⟩ zc)]
 show some (aoY (some (aeY (mkRat 3 4)))) = _
 rw [hc, ← e]; rfl
theorem aJS : ab8 (stepsC, fx (mkRat 1 2), ()) = some (fx (mkRat 1 2), 0, ()) := by
 have e : mkRat 1 2 = mkRat 500000000000 1000000000000 := by rw [yn zc zc]; omega
 have hu : inU 500000000000 := ⟨by omega, by omega⟩
 rw [e, aq5 awR hu]
 have : aC4 stepsC (mkRat 500000000000 1000000000000) = ax3 stepsC.2.2.1 (mkRat 500000000000 1000000000000) := rfl
 rw [this]
 unfold ax3
 rw [as3]
 have hp : abB 500000000000 stepsC.2.2.1 = 0 := zf
 rw [hp, if_pos zf]
 show some (aoY (aCO (500000, 1000000, 0, 1, 1, 0, ()) (mkRat 500000000000 1000000000000))) = _
 unfold aCO
 dsimp only
 obtain ⟨l1, -⟩ := ak6 (m := 1000000) (a := 0) ⟨by omega, by omega⟩ ⟨by omega, by omega⟩ hu
 have hm : afO 1000000 0 500000000000 = 500000000000000000 := zf
 have e2 : mkRat 500000000000000000 1000000000000000000 = mkRat 1 2 := by rw [yn zc zc]; omega
 rw [l1, hm, e2]
 simp only [zO]
 have hpos : aGZ (mkRat 1 2) = mkRat 1 2 := by unfold aGZ; rw [if_neg zf]
 have hn : ((1 : Int) - 1).toNat = 0 := rfl
 rw [hpos, hn]
 have h1 : acR (mkRat 1 2) 0 (mkRat 1 2) = some (mkRat 1 2) := rfl
 rw [h1]
 simp only [zO]
 have hadd : mkRat 1 2 + mkRat 0 1000000 = mkRat 1 2 := by
  rw [xF _ _ zc zc, yn zc zc]; decide
 have hc : aeY (mkRat 1 2) = mkRat 1 2 := by rw [e]; exact apV hu
 rw [hadd]
 unfold abN
 rw [if_pos (aCQ zc ⟨by omega, by omega⟩ zc)]
 show some (aoY (some (aeY (mkRat 1 2)))) = _
 rw [hc, ← e]; rfl
theorem avW {c : CvT} {x z : FxT} (h : ab8 (c, x, ()) = some (z, 0, ())) : aeL (c, x, z, ()) = some (true, ()) := by
 unfold aeL
 dsimp only
 rw [h]
 show some (eqb (z, 0, ()) (z, 0, ()), ()) = _
 rw [aJd rfl]
theorem aE1 (y) (h : auD () = some y) : l9_wakes_t.toO = some y := by
 injection h with h
 subst h
 unfold l9_wakes_t
 have o14 : adF (1, 4, ()) = some (fx (mkRat 1 4), ()) := aj5 (d := 4) ⟨by omega, by omega⟩ zc zc
 have o12 : adF (1, 2, ()) = some (fx (mkRat 1 2), ()) := aj5 (d := 2) ⟨by omega, by omega⟩ zc zc
 have o21 : adF (2, 1, ()) = some (fx (mkRat 2 1), ()) := aj5 (d := 1) ⟨by omega, by omega⟩ zc zc
 have o01 : adF (0, 1, ()) = some (fx (mkRat 0 1), ()) := aj5 (d := 1) ⟨by omega, by omega⟩ zc zc
 have o34 : adF (3, 4, ()) = some (fx (mkRat 3 4), ()) := aj5 (d := 4) ⟨by omega, by omega⟩ zc zc
 refine uC (rootC, ()) rfl (uC _ o14 (uC _ aDZ (uC (rootC, ()) rfl (uC _ aJV ?_))))
 refine uC (asK, ()) rfl (uC _ aJQ (uC (asK, ()) rfl (uC _ aJP ?_)))
 refine uC (asK, ()) rfl (uC _ o14 (uC _ o12 (uC _ (avW aDS) (uT rfl ?_))))
 refine uC (asK, ()) rfl (uC _ o21 (uC _ o01 (uC _ (avW aQb) (uT rfl ?_))))
 refine uC (stepsC, ()) rfl (uC _ o34 (uC _ o34 (uC _ (avW aGq) (uT rfl ?_))))
 refine uC (stepsC, ()) rfl (uC _ o12 (uC _ o12 (uC _ (avW aJS) (uT rfl ?_))))
 refine uT rfl (uT rfl (uT rfl (uT rfl (uT rfl (uT rfl (uT rfl ?_))))))
 exact uC _ aKT rfl
set_option maxRecDepth 100000
open Go Go.Vg Go.Proofs
noncomputable section
def aRZ : LTab := []
def aGk (a : List UInt8) : TT uh :=
 .call (afX (a, ())) Dd6 fun y =>
 .ite (y.1 != 0)
 (.ok ((0, y.1, ())))
 (.call (aPD (a, 10, 64, ())) aUe fun y1 =>
 .ite (y1.2.1)
 (.ok ((0, 6, ())))
 (.ok ((y1.1, 0, ()))))
def aLs : LTab := []
def afT (y3 : (Int) × (Bool) × Unit) (c : uf × Unit) (y1 : ((List UInt8) × (List UInt8) × Unit) × (Int) × Unit) : TT uq :=
 .tt <| .tt <| .tt <| .tt <| .tt <| .tt <| .ite (y3.1 != y3.1)
 (.ite (w64 (w64 (len c.1.2.1 - 1) - 1) != w64 (w64 (len c.1.2.1 - 1) - 1))
 (.call (aaI (y3.1, ())) adL fun y20 =>
 .call (afA ((y1.1.1, y1.1.2.1, ()), y20.1, ())) adS fun y21 =>
 .ite (y21.2.1 != 0)
 (.ok (((#[].toList, #[].toList, ()), y21.2.1, ())))
 (.need (inb (w64 (y3.1 + 1)) (len c.1.2.1)) <| .need (inb y3.1 (len c.1.2.1)) <| .call (aaI (w64 (gi c.1.2.1 (w64 (y3.1 + 1)) 0 - gi c.1.2.1 y3.1 0), ())) adL fun y22 =>
 .call (adU (y22.1, (y21.1.1, y21.1.2.1, ()), ())) adS fun y23 =>
 .ite (y23.2.1 != 0)
 (.ok (((#[].toList, #[].toList, ()), y23.2.1, ())))
 (.need (inb y3.1 (len c.1.2.1)) <| .call (aaI (gi c.1.2.1 y3.1 0, ())) adL fun y24 =>
 .call (aeD (y24.1, (y23.1.1, y23.1.2.1, ()), ())) adS fun y25 =>
 .ite (y25.2.1 != 0)
 (.ok (((#[].toList, #[].toList, ()), y25.2.1, ())))
 (.call (aaI (65535, ())) adL fun y26 =>
 .call (aeT ((y25.1.1, y25.1.2.1, ()), y26.1, ())) adS fun y27 =>
 .ok (((y27.1.1, y27.1.2.1, ()), y27.2.1, ()))))))
 (.call (aaI (y3.1, ())) adL fun y28 =>
 .call (afA ((y1.1.1, y1.1.2.1, ()), y28.1, ())) adS fun y29 =>
 .ite (y29.2.1 != 0)
 (.ok (((#[].toList, #[].toList, ()), y29.2.1, ())))
 (.need (inb (w64 (y3.1 + 1)) (len c.1.2.1)) <| .need (inb y3.1 (len c.1.2.1)) <| .call (aaI (w64 (gi c.1.2.1 (w64 (y3.1 + 1)) 0 - gi c.1.2.1 y3.1 0), ())) adL fun y30 =>
 .call (adU (y30.1, (y29.1.1, y29.1.2.1, ()), ())) adS fun y31 =>
 .ite (y31.2.1 != 0)
 (.ok (((#[].toList, #[].toList, ()), y31.2.1, ())))
 (.need (inb y3.1 (len c.1.2.1)) <| .call (aaI (gi c.1.2.1 y3.1 0, ())) adL fun y32 =>
 .call (aeD (y32.1, (y31.1.1, y31.1.2.1, ()), ())) adS fun y33 =>
 .ite (y33.2.1 != 0)
 (.ok (((#[].toList, #[].toList, ()), y33.2.1, ())))
 (.call (aaI (65535, ())) adL fun y34 =>
 .call (aeT ((y33.1.1, y33.1.2.1, ()), y34.1, ())) adS fun y35 =>
 .ok (((y35.1.1, y35.1.2.1, ()), y35.2.1, ())))))))
 (.ite (w64 (w64 (len c.1.2.1 - 1) - 1) != w64 (w64 (len c.1.2.1 - 1) - 1))
 (.call (aaI (w64 (w64 (len c.1.2.1 - 1) - 1), ())) adL fun y36 =>
 .call (afA ((y1.1.1, y1.1.2.1, ()), y36.1, ())) adS fun y37 =>
 .ite (y37.2.1 != 0)
 (.ok (((#[].toList, #[].toList, ()), y37.2.1, ())))
 (.need (inb (w64 (w64 (w64 (len c.1.2.1 - 1) - 1) + 1)) (len c.1.2.1)) <| .need (inb (w64 (w64 (len c.1.2.1 - 1) - 1)) (len c.1.2.1)) <| .call (aaI (w64 (gi c.1.2.1 (w64 (w64 (w64 (len c.1.2.1 - 1) - 1) + 1)) 0 - gi c.1.2.1 (w64 (w64 (len c.1.2.1 - 1) - 1)) 0), ())) adL fun y38 =>
 .call (adU (y38.1, (y37.1.1, y37.1.2.1, ()), ())) adS fun y39 =>
 .ite (y39.2.1 != 0)
 (.ok (((#[].toList, #[].toList, ()), y39.2.1, ())))
 (.need (inb (w64 (w64 (len c.1.2.1 - 1) - 1)) (len c.1.2.1)) <| .call (aaI (gi c.1.2.1 (w64 (w64 (len c.1.2.1 - 1) - 1)) 0, ())) adL fun y40 =>
 .call (aeD (y40.1, (y39.1.1, y39.1.2.1, ()), ())) adS fun y41 =>
 .ite (y41.2.1 != 0)
 (.ok (((#[].toList, #[].toList, ()), y41.2.1, ())))
 (.call (aaI (65535, ())) adL fun y42 =>
 .call (aeT ((y41.1.1, y41.1.2.1, ()), y42.1, ())) adS fun y43 =>
 .ok (((y43.1.1, y43.1.2.1, ()), y43.2.1, ()))))))
 (.ite (decide (y3.1 < w64 (w64 (len c.1.2.1 - 1) - 1)))
 (.call (aaI (y3.1, ())) adL fun y44 =>
 .call (afA ((y1.1.1, y1.1.2.1, ()), y44.1, ())) adS fun y45 =>
 .ite (y45.2.1 != 0)
 (.ok (((#[].toList, #[].toList, ()), y45.2.1, ())))
 (.need (inb (w64 (y3.1 + 1)) (len c.1.2.1)) <| .need (inb y3.1 (len c.1.2.1)) <| .call (aaI (w64 (gi c.1.2.1 (w64 (y3.1 + 1)) 0 - gi c.1.2.1 y3.1 0), ())) adL fun y46 =>
 .call (adU (y46.1, (y45.1.1, y45.1.2.1, ()), ())) adS fun y47 =>
 .ite (y47.2.1 != 0)
 (.ok (((#[].toList, #[].toList, ()), y47.2.1, ())))
 (.need (inb y3.1 (len c.1.2.1)) <| .call (aaI (gi c.1.2.1 y3.1 0, ())) adL fun y48 =>
 .call (aeD (y48.1, (y47.1.1, y47.1.2.1, ()), ())) adS fun y49 =>
 .ite (y49.2.1 != 0)
 (.ok (((#[].toList, #[].toList, ()), y49.2.1, ())))
 (.call (aaI (65535, ())) adL fun y50 =>
 .call (aeT ((y49.1.1, y49.1.2.1, ()), y50.1, ())) adS fun y51 =>
 .ok (((y51.1.1, y51.1.2.1, ()), y51.2.1, ()))))))
 (.ite (decide (y3.1 > w64 (w64 (len c.1.2.1 - 1) - 1)))
 (.call (aaI (w64 (w64 (len c.1.2.1 - 1) - 1), ())) adL fun y52 =>
 .call (afA ((y1.1.1, y1.1.2.1, ()), y52.1, ())) adS fun y53 =>
 .ite (y53.2.1 != 0)
 (.ok (((#[].toList, #[].toList, ()), y53.2.1, ())))
 (.need (inb (w64 (w64 (w64 (len c.1.2.1 - 1) - 1) + 1)) (len c.1.2.1)) <| .need (inb (w64 (w64 (len c.1.2.1 - 1) - 1)) (len c.1.2.1)) <| .call (aaI (w64 (gi c.1.2.1 (w64 (w64 (w64 (len c.1.2.1 - 1) - 1) + 1)) 0 - gi c.1.2.1 (w64 (w64 (len c.1.2.1 - 1) - 1)) 0), ())) adL fun y54 =>
 .call (adU (y54.1, (y53.1.1, y53.1.2.1, ()), ())) adS fun y55 =>
 .ite (y55.2.1 != 0)
 (.ok (((#[].toList, #[].toList, ()), y55.2.1, ())))
 (.need (inb (w64 (w64 (len c.1.2.1 - 1) - 1)) (len c.1.2.1)) <| .call (aaI (gi c.1.2.1 (w64 (w64 (len c.1.2.1 - 1) - 1)) 0, ())) adL fun y56 =>
 .call (aeD (y56.1, (y55.1.1, y55.1.2.1, ()), ())) adS fun y57 =>
 .ite (y57.2.1 != 0)
 (.ok (((#[].toList, #[].toList, ()), y57.2.1, ())))
 (.call (aaI (65535, ())) adL fun y58 =>
 .call (aeT ((y57.1.1, y57.1.2.1, ()), y58.1, ())) adS fun y59 =>
 .ok (((y59.1.1, y59.1.2.1, ()), y59.2.1, ()))))))
 (.call (aaI (y3.1, ())) adL fun y60 =>
 .call (afA ((y1.1.1, y1.1.2.1, ()), y60.1, ())) adS fun y61 =>
 .ite (y61.2.1 != 0)
 (.ok (((#[].toList, #[].toList, ()), y61.2.1, ())))
 (.need (inb (w64 (y3.1 + 1)) (len c.1.2.1)) <| .need (inb y3.1 (len c.1.2.1)) <| .call (aaI (w64 (gi c.1.2.1 (w64 (y3.1 + 1)) 0 - gi c.1.2.1 y3.1 0), ())) adL fun y62 =>
 .call (adU (y62.1, (y61.1.1, y61.1.2.1, ()), ())) adS fun y63 =>
 .ite (y63.2.1 != 0)
 (.ok (((#[].toList, #[].toList, ()), y63.2.1, ())))
 (.need (inb y3.1 (len c.1.2.1)) <| .call (aaI (gi c.1.2.1 y3.1 0, ())) adL fun y64 =>
 .call (aeD (y64.1, (y63.1.1, y63.1.2.1, ()), ())) adS fun y65 =>
 .ite (y65.2.1 != 0)
 (.ok (((#[].toList, #[].toList, ()), y65.2.1, ())))
 (.call (aaI (65535, ())) adL fun y66 =>
 .call (aeT ((y65.1.1, y65.1.2.1, ()), y66.1, ())) adS fun y67 =>
 .ok (((y67.1.1, y67.1.2.1, ()), y67.2.1, ())))))))))
def afS (y1 : ((List UInt8) × (List UInt8) × Unit) × (Int) × Unit) (c : uf × Unit) : TT uq :=
 .call (aaI (0, ())) adL fun y4 =>
 .call (afA ((y1.1.1, y1.1.2.1, ()), y4.1, ())) adS fun y5 =>
 .ite (y5.2.1 != 0)
 (.ok (((#[].toList, #[].toList, ()), y5.2.1, ())))
 (.need (inb (w64 (0 + 1)) (len c.1.2.1)) <| .need (asT Int 0 ≤ 0 ∧ 0 < len c.1.2.1) <| .call (aaI (w64 (gi c.1.2.1 (w64 (0 + 1)) 0 - gi c.1.2.1 0 0), ())) adL fun y6 =>
 .call (adU (y6.1, (y5.1.1, y5.1.2.1, ()), ())) adS fun y7 =>
 .ite (y7.2.1 != 0)
 (.ok (((#[].toList, #[].toList, ()), y7.2.1, ())))
 (.need (asT Int 0 ≤ 0 ∧ 0 < len c.1.2.1) <| .call (aaI (gi c.1.2.1 0 0, ())) adL fun y8 =>
 .call (aeD (y8.1, (y7.1.1, y7.1.2.1, ()), ())) adS fun y9 =>
 .ite (y9.2.1 != 0)
 (.ok (((#[].toList, #[].toList, ()), y9.2.1, ())))
 (.call (aaI (65535, ())) adL fun y10 =>
 .call (aeT ((y9.1.1, y9.1.2.1, ()), y10.1, ())) adS fun y11 =>
 .ok (((y11.1.1, y11.1.2.1, ()), y11.2.1, ())))))
def atX (c : uf × Unit) (x : List UInt8 × List UInt8 × Unit) : TT uq :=
 .call (aaI (w64 (len c.1.2.1 - 1), ())) adL fun y =>
 .call (adU ((x.1, x.2.1, ()), y.1, ())) adS fun y1 =>
 .ite (y1.2.1 != 0)
 (.ok (((#[].toList, #[].toList, ()), y1.2.1, ())))
 (.call (akP ((y1.1.1, y1.1.2.1, ()), ())) aGa fun y2 =>
  .ite (y2.2.1 != 0)
  (.ok (((#[].toList, #[].toList, ()), y2.2.1, ())))
  (.call (aPE (y2.1, ())) aUe fun y3 =>
   .ite (y3.2.1)
   (.tt <| .tt <| .tt <| .tt <| .tt <| .tt <| .tt <| .tt <| .ite (y3.1 != y3.1)
    (afS y1 c)
    (.ite (decide (y3.1 < 0))
     (afS y1 c)
     (.ite (decide (y3.1 > 0))
      (afT y3 c y1)
      (afT y3 c y1))))
   (.tt <| .tt <| .tt <| .tt <| .tt <| .tt <| .tt <| .tt <| .ite (y3.1 != y3.1)
    (afS y1 c)
    (.ite (decide (y3.1 < 0))
     (afS y1 c)
     (.ite (decide (y3.1 > 0))
      (afT y3 c y1)
      (afT y3 c y1))))))
end
theorem aSV {z : Int} (h : Fit z) : (dec z).length ≤ 601 := by
 unfold Fit at h
 unfold dec
 split
 ·rw [zG]; omega
 ·omega
theorem aMn (a : List UInt8) (y) (h : alS (a, ()) = some y) : (aGk a).toO = some y := by
 unfold alS at h
 injection h with h
 subst h
 dsimp only
 unfold aGk
 refine uC _ (aeG a) ?_
 cases hz : rdW a with
 | none => exact uT rfl rfl
 | some z =>
  obtain ⟨hf, rfl⟩ := ae2 hz
  refine uF rfl (uC _ (aTJ (zC (aSV hf) zc)) ?_)
  dsimp only
  by_cases c : abA z
  ·rw [if_pos c, if_pos c]
   exact uF rfl rfl
  ·rw [if_neg c, if_neg c]
   exact uT rfl rfl
theorem anM {l : List Int} {p : Rat} {k : Nat} (ht : adM l) (hp : ab6 p) (hk : k + 1 < l.length) (hpl : ag0 l p = k) (y1 : FxT × Int × Unit) (e1 : y1 = (fx p, 0, ()))
  {I A D : Int} (eI : I = k) (eA : A = l.getD k 0) (eD : D = l.getD (k + 1) 0 - l.getD k 0) {p1 p2 p3 : Prop} (h1 : p1) (h2 : p2) (h3 : p3) {d1 : FxT × Unit} {d2 : FxT × Int × Unit} :
  (TT.call (aaI (I, ())) d1 fun y4 => .call (afA ((y1.1.1, y1.1.2.1, ()), y4.1, ())) d2 fun y5 => .ite (y5.2.1 != 0) (.ok (((#[].toList, #[].toList, ()), y5.2.1, ())))
   (.need p1 <| .need p2 <| .call (aaI (D, ())) d1 fun y6 => .call (adU (y6.1, (y5.1.1, y5.1.2.1, ()), ())) d2 fun y7 => .ite (y7.2.1 != 0) (.ok (((#[].toList, #[].toList, ()), y7.2.1, ())))
    (.need p3 <| .call (aaI (A, ())) d1 fun y8 => .call (aeD (y8.1, (y7.1.1, y7.1.2.1, ()), ())) d2 fun y9 => .ite (y9.2.1 != 0) (.ok (((#[].toList, #[].toList, ()), y9.2.1, ())))
     (.call (aaI (65535, ())) d1 fun y10 => .call (aeT ((y9.1.1, y9.1.2.1, ()), y10.1, ())) d2 fun y11 => .ok (((y11.1.1, y11.1.2.1, ()), y11.2.1, ())))))).toO
   = some (aoY ((abN (p - mkRat (ag0 l p : Int) 1)).bind fun r => (abN (r * mkRat (l.getD (ag0 l p + 1) 0 - l.getD (ag0 l p) 0) 1)).bind fun t => (abN (mkRat (l.getD (ag0 l p) 0) 1 + t)).bind fun y => abN (y / mkRat 65535 1))) := by
 have hl2 := ht.2.1
 subst eI eA eD e1
 rw [hpl]
 have i6 : abA 65535 := ⟨by omega, by omega⟩
 have ik : abA (k : Int) := ⟨by omega, by omega⟩
 have bv := ahT ht (show k < l.length by omega)
 have bv1 := ahT ht hk
 have iv := ahB bv zc zc
 have id : abA (l.getD (k + 1) 0 - l.getD k 0) := ⟨by have := bv.1; have := bv.2; have := bv1.1; have := bv1.2; omega, by have := bv.1; have := bv.2; have := bv1.1; have := bv1.2; omega⟩
 refine uC _ (acH ik) (uC _ (aJx hp (aa7 ik)) ?_)
 cases g1 : abN (p - mkRat (k : Int) 1) with
 | none => exact uT rfl rfl
 | some r =>
  have hr := (abD g1).1
  simp only [zO]
  refine uF rfl (uN h1 (uN h2 (uC _ (acH id) (uC _ (aoR (aa7 id) hr) ?_))))
  rw [Rat.mul_comm]
  cases g2 : abN (r * mkRat (l.getD (k + 1) 0 - l.getD k 0) 1) with
  | none => exact uT rfl rfl
  | some t =>
   have ht' := (abD g2).1
   simp only [zO]
   refine uF rfl (uN h3 (uC _ (acH iv) (uC _ (awC (aa7 iv) ht') ?_)))
   cases g3 : abN (mkRat (l.getD k 0) 1 + t) with
   | none => exact uT rfl rfl
   | some y =>
    have hy := (abD g3).1
    exact uF rfl (uC _ (acH i6) (uC _ (aDB hy (aa7 i6) (axX zc)) rfl))
theorem aFE (c : CvT × Unit) (x : FxT) (y) (h : agK (c, x, ()) = some y) : (atX c x).toO = some y := by
 obtain ⟨⟨l', q⟩, ⟨hq, h0, h1, ht⟩, hx, rfl⟩ := aaD h
 obtain ⟨rfl, hx2⟩ := Prod.mk.inj hx; obtain ⟨rfl, -⟩ := Prod.mk.inj hx2; dsimp only
 dsimp only at hq h0 h1 ht
 obtain ⟨kd, l, sg, u⟩ := l'
 dsimp only at ht ⊢
 have hl1 := ht.1
 have hl2 := ht.2.1
 have w1 : w64 (len l - 1) = ((l.length - 1 : Nat) : Int) := by rw [aaC, aaA zc]; omega
 have w2 : w64 (((l.length - 1 : Nat) : Int) - 1) = ((l.length - 2 : Nat) : Int) := by rw [aaA zc]; omega
 have w3 : w64 (((l.length - 2 : Nat) : Int) + 1) = ((l.length - 2 + 1 : Nat) : Int) := by rw [aaA zc]; omega
 have in1 : abA ((l.length - 1 : Nat) : Int) := ⟨by omega, by omega⟩
 unfold atX afS afT aL8
 dsimp only
 rw [w1, w2, w3]
 refine uC _ (acH in1) (uC _ (aoR hq (aa7 in1)) ?_)
 cases hs : abN (q * mkRat ((l.length - 1 : Nat) : Int) 1) with
 | none => exact uT rfl rfl
 | some p =>
 obtain ⟨hp, e⟩ := abD hs
 have hlp : (0 : Rat) ≤ mkRat ((l.length - 1 : Nat) : Int) 1 := by
  rw [acS]
  have := wD.2 (show (0 : Int) ≤ ((l.length - 1 : Nat) : Int) by omega)
  exact this
 have hp0 : 0 ≤ p := by rw [e]; exact Rat.mul_nonneg h0 hlp
 have hp1 : p ≤ ((l.length - 1 : Nat) : Int) := by
  rw [e]
  have := Rat.mul_le_mul_of_nonneg_right h1 hlp
  rw [Rat.one_mul] at this
  rw [acS] at this ⊢
  exact this
 clear e hs
 simp only [zO]
 have hf0 : 0 ≤ p.floor := Rat.le_floor_iff.2 hp0
 have hf1 : p.floor ≤ ((l.length - 1 : Nat) : Int) := by
  have h2 := Rat.floor_le p
  have h3 := Rat.le_trans h2 hp1
  exact wD.1 h3
 have efl : fl p = p.floor := Int.le_antisymm (Rat.le_floor_iff.2 (aTs p)) ((amR p _).2 (Rat.floor_le p))
 have ifl : abA (fl p) := by rw [efl]; exact ⟨by omega, by omega⟩
 refine uF rfl (uC _ (show akP (fx p, ()) = some (dec (fl p), 0, ()) from ?_) (uF rfl (uC _ (aTL (z := fl p) ?_) (uF rfl ?_))))
 ·unfold akP; dsimp only; rw [afD hp]
 ·exact ifl
 dsimp only
 rw [efl]
 generalize hF : p.floor = F at hf0 hf1
 have hpl : ag0 l p = min F.toNat (l.length - 2) := by unfold ag0; rw [hF]
 obtain ⟨n, rfl⟩ := zv hf0
 have wn : w64 ((n : Int) + 1) = ((n + 1 : Nat) : Int) := by rw [aaA zc]; omega
 rw [wn]
 simp only [aaM]
 have hD : ∀ k, k + 1 < l.length → w64 (l.getD (k + 1) 0 - l.getD k 0) = l.getD (k + 1) 0 - l.getD k 0 := by
  intro k hk
  have b := ahT ht (show k < l.length by omega)
  have b1 := ahT ht hk
  exact aaA (by have := b.1; have := b.2; have := b1.1; have := b1.2; omega)
 rw [zp] at hpl
 repeat (first | refine uV ?_ | refine uF (bne_self_eq_false _) ?_)
 refine uF sd ?_
 rcases zD n with c0 | c0
 ·refine uF sd ?_
  repeat (first | refine uV ?_ | refine uF (bne_self_eq_false _) ?_)
  by_cases c1 : n < l.length - 2
  ·refine uT sd ?_
   exact anM ht hp (k := n) zc (by rw [hpl]; omega) _ rfl rfl rfl (hD n zc) ⟨by exact sn, by exact sn⟩ ⟨by exact sn, by exact sn⟩ ⟨by exact sn, by exact sn⟩
  refine uF sd ?_
  by_cases c2 : n = l.length - 2
  ·refine uF sd ?_
   exact anM ht hp (k := n) zc (by rw [hpl]; omega) _ rfl rfl rfl (hD n zc) ⟨by exact sn, by exact sn⟩ ⟨by exact sn, by exact sn⟩ ⟨by exact sn, by exact sn⟩
  refine uT sd ?_
  exact anM ht hp (k := l.length - 2) zc (by rw [hpl]; omega) _ rfl rfl rfl (hD (l.length - 2) zc) ⟨by exact sn, by exact sn⟩ ⟨by exact sn, by exact sn⟩ ⟨by exact sn, by exact sn⟩
 ·refine uT sd ?_
  repeat (first | refine uV ?_ | refine uF (bne_self_eq_false _) ?_)
  by_cases c1 : n < l.length - 2
  ·refine uT sd ?_
   exact anM ht hp (k := n) zc (by rw [hpl]; omega) _ rfl rfl rfl (hD n zc) ⟨by exact sn, by exact sn⟩ ⟨by exact sn, by exact sn⟩ ⟨by exact sn, by exact sn⟩
  refine uF sd ?_
  by_cases c2 : n = l.length - 2
  ·refine uF sd ?_
   exact anM ht hp (k := n) zc (by rw [hpl]; omega) _ rfl rfl rfl (hD n zc) ⟨by exact sn, by exact sn⟩ ⟨by exact sn, by exact sn⟩ ⟨by exact sn, by exact sn⟩
  refine uT sd ?_
  exact anM ht hp (k := l.length - 2) zc (by rw [hpl]; omega) _ rfl rfl rfl (hD (l.length - 2) zc) ⟨by exact sn, by exact sn⟩ ⟨by exact sn, by exact sn⟩ ⟨by exact sn, by exact sn⟩
set_option maxRecDepth 100000
open Go Go.Vg Go.Proofs
noncomputable section
abbrev DTl (d : Int × List Int × List (Int × Int × Int × Int × Int × Int × Unit) × Bool × Bool × Unit) : Prop := Qq true ∧ (Qq (42 : TypeId) ∧ Qq (0 : Int) ∧ True ∧ True ∧ True) ∧ Qq true ∧ (Qq (25 : TypeId) ∧ Qq d.1 ∧ Qq d.2.1 ∧ Qq d.2.2.1 ∧ Qq d.2.2.2.1 ∧ Qq d.2.2.2.2.1 ∧ True) ∧ Qq true ∧ True
abbrev gP (d : Int × List Int × List (Int × Int × Int × Int × Int × Int × Unit) × Bool × Bool × Unit) (i : Int) := gi d.2.2.1 i (0, 0, 0, 0, 0, 0, ())
def aGD : LTab := [(70, 7, 4100, ⟨0, Bool × (List Int) × Unit, .appN (.c 3 1) 4 3 ud <| .nil, [3, 2, 1], [3, 1, 0], 1⟩), (70, 58, 5124, ⟨1, (Int) × Bool × (List Int) × Unit, .dat (.s 4) ud <| .appN (.c 3 1) 5 3 ud <| .nil, [3, 2, 1], [3, 1, 0], 1⟩), (70, 60, 5124, ⟨2, Bool × (List Int) × Unit, .appN (.c 3 1) 5 3 ud <| .nil, [3, 2, 1], [3, 1, 0], 1⟩), (70, 4014, 19459, ⟨3, (Int) × (Int) × (List Int) × Unit, .dat (.s 7) ud <| .dat (.s 6) ud <| .row 5 ud <| .nil, [5, 3, 2], [5, 3, 1, 0], 0⟩), (70, 60, 5123, ⟨4, (List Int) × Unit, .app (.c 3 1) 5 3 ud <| .nil, [3, 2, 1], [3, 1, 0], 1⟩)]
def ahV (i : (Int) × Bool × (List Int) × Unit) (d : Int × List Int × List uc × Bool × Bool × Unit) : TT (uJ ⊕ ti) :=
 .tt <| .lt (i.2.2.1 : List Int) fun z4 => .vL uU <| .vL (vK (vP 3 z4) <| (vS 42 (2 : Int) <| (vQ 4 0 (List.length z4) true) ∧ True ∧ True) ∧ DTl d) <| .ok (.inr (.inl ((false, z4, ()))))
def amG (d : Int × List Int × List uc × Bool × Bool × Unit) (i : (Int) × Bool × (List Int) × Unit) : TT (uJ ⊕ ti) :=
 .ite (i.2.1)
 (.ite (decide (i.1 < len d.2.1))
  (.ite (decide (i.1 < 8))
   (.need (inb i.1 (len d.2.1)) <| .need (1 * 8 ≤ 140737488355328) <| .tt <| .lt (w64 (i.1 + 1) : Int) fun z => .lt ([w64 (gi d.2.1 i.1 0)] : List Int) fun z1 => .vL (vM z <| ur ∧ um ∧ ui ∧ True) <| .vL (vK (vP 3 z1) <| (vS 42 (2 : Int) <| tY ∧ True ∧ True) ∧ DTl d) <| .ok (.inl ((z, false, z1, ()))))
   (.tt <| .vL uU <| .vL (th ∧ DTl d) <| .ok (.inr (.inl ((true, [], ()))))))
  (.tt <| .vL uU <| .vL (th ∧ DTl d) <| .ok (.inr (.inl ((true, [], ()))))))
 (.ite (decide (i.1 < len d.2.1))
  (.ite (decide (i.1 < 8))
   (.need (inb i.1 (len d.2.1)) <| .need ((List.length i.2.2.1 + 1) * 8 ≤ 140737488355328) <| .tt <| .lt (w64 (i.1 + 1) : Int) fun z2 => .lt (List.take (List.length i.2.2.1) i.2.2.1 ++ [w64 (gi d.2.1 i.1 0)] : List Int) fun z3 => .vL (vM z2 <| ur ∧ um ∧ ui ∧ True) <| .need ((((3 : TypeId) = 3) ∧ ((z3 : List Int) = z3)) ∧ (true = true) ∧ (((42 : TypeId) = 42) ∧ (((2 : Int) = 2) ∧ ((((5) = (5)) ∧ (((0) = (0)) ∧ ((List.length i.2.2.1 + 1 = List.length z3) ∧ ((true) = (true))))) ∧ (True ∧ True)))) ∧ DTl d) <| .ok (.inl ((z2, false, z3, ()))))
   (ahV i d))
  (ahV i d))
def aiS (d : Int × List Int × List uc × Bool × Bool × Unit) (j : Bool × List Int × Unit) (i1 : Bool × List Int × Unit) (i2 : (Int) × (Int) × (List Int) × Unit) : TT (uH ⊕ ti) :=
 .ite (decide (i2.1 < len i1.2.1))
 (.need (inb i2.1 (len i1.2.1)) <| .need (w64 (Int.tdiv 65535 (len i1.2.1)) ≠ 0) <| .need (inb i2.1 (len i1.2.1)) <| .tt <| .lt (w64 (i2.1 + 1) : Int) fun z9 => .lt (w64 (w64 (i2.2.1 + 1) + Int.tmod (List.getD i2.2.2.1 (0 + Int.toNat i2.1) 0) (w64 (Int.tdiv 65535 (len i1.2.1)))) : Int) fun z10 => .lt (List.set i2.2.2.1 (0 + Int.toNat i2.1) (w64 (z10 - 1)) : List Int) fun z11 => .vL (vW z10 z9 (w64 (Int.tdiv 65535 (len i1.2.1))) <| ur ∧ um ∧ True) <| .vL (vK (vP 3 z11) <| (vS 42 (2 : Int) <| (vQ 5 0 (List.length i1.2.1) true) ∧ True ∧ True) ∧ DTl d) <| .ok (.inl ((z9, z10, z11, ()))))
 (.ok (.inr (.inr (((2, List.take (List.length i1.2.1) i2.2.2.1, [], ()), ())))))
def amF (d : Int × List Int × List uc × Bool × Bool × Unit) (j : Bool × List Int × Unit) (i1 : Bool × (List Int) × Unit) : TT ti :=
 .ite (i1.1)
 (.triv (1 * 8 ≤ 140737488355328) zf <| .tt <| .lt ([w64 (65535 * (↑0 : Int))] : List Int) fun z6 => .vL uU <| .vL (vK (vP 3 z6) <| (vS 42 (2 : Int) <| tY ∧ True ∧ True) ∧ DTl d) <| .ok (.inl ((false, z6, ()))))
 (.ite (decide (len i1.2.1 < 2))
 (.need ((List.length i1.2.1 + 1) * 8 ≤ 140737488355328) <| .tt <| .lt (List.take (List.length i1.2.1) i1.2.1 ++ [w64 (65535 * len i1.2.1)] : List Int) fun z7 => .vL uU <| .need ((((3 : TypeId) = 3) ∧ ((z7 : List Int) = z7)) ∧ (true = true) ∧ (((42 : TypeId) = 42) ∧ (((2 : Int) = 2) ∧ ((((5) = (5)) ∧ (((0) = (0)) ∧ ((List.length i1.2.1 + 1 = List.length z7) ∧ ((true) = (true))))) ∧ (True ∧ True)))) ∧ DTl d) <| .ok (.inl ((false, z7, ()))))
 (.ite (d.2.2.2.2.1)
 (.need (len i1.2.1 ≠ 0) <| .loop 3 (.tt <| .lt (i1.2.1 : List Int) fun z8 => .vL (vW (0 : Int) (0 : Int) (w64 (Int.tdiv 65535 (len z8))) <| ur ∧ um ∧ True) <| .vL (vK (vP 3 z8) <| (vS 42 (2 : Int) <| (vQ 5 0 (List.length z8) true) ∧ True ∧ True) ∧ DTl d) <| .ok ((0, 0, z8, ()))) (aiS d j i1))
 (.ok (.inr (((2, List.take (List.length i1.2.1) i1.2.1, [], ()), ()))))))
def aiR (d : Int × List Int × List uc × Bool × Bool × Unit) (j : Bool × List Int × Unit) (i3 : List Int × Unit) (i4 : (Int) × (Int) × (List Int) × Unit) : TT (uH ⊕ (tH ⊕ uW)) :=
 .ite (decide (i4.1 < len i3.1))
 (.need (inb i4.1 (len i3.1)) <| .need (w64 (Int.tdiv 65535 (len i3.1)) ≠ 0) <| .need (inb i4.1 (len i3.1)) <| .tt <| .lt (w64 (i4.1 + 1) : Int) fun z14 => .lt (w64 (w64 (i4.2.1 + 1) + Int.tmod (List.getD i4.2.2.1 (0 + Int.toNat i4.1) 0) (w64 (Int.tdiv 65535 (len i3.1)))) : Int) fun z15 => .lt (List.set i4.2.2.1 (0 + Int.toNat i4.1) (w64 (z15 - 1)) : List Int) fun z16 => .vL (vW z15 z14 (w64 (Int.tdiv 65535 (len i3.1))) <| ur ∧ um ∧ True) <| .vL (vK (vP 3 z16) <| (vS 42 (2 : Int) <| (vQ 5 0 (List.length i3.1) true) ∧ True ∧ True) ∧ DTl d) <| .ok (.inl ((z14, z15, z16, ()))))
 (.ok (.inr (.inr (((2, List.take (List.length i3.1) i4.2.2.1, [], ()), ())))))
def amE (d : Int × List Int × List uc × Bool × Bool × Unit) (j : Bool × List Int × Unit) (i3 : (List Int) × Unit) : TT (tH ⊕ uW) :=
 .ite (decide (len i3.1 < 2))
 (.need ((List.length i3.1 + 1) * 8 ≤ 140737488355328) <| .tt <| .lt (List.take (List.length i3.1) i3.1 ++ [w64 (65535 * len i3.1)] : List Int) fun z13 => .vL uU <| .need ((((3 : TypeId) = 3) ∧ ((z13 : List Int) = z13)) ∧ (true = true) ∧ (((42 : TypeId) = 42) ∧ (((2 : Int) = 2) ∧ ((((5) = (5)) ∧ (((0) = (0)) ∧ ((List.length i3.1 + 1 = List.length z13) ∧ ((true) = (true))))) ∧ (True ∧ True)))) ∧ DTl d) <| .ok (.inl ((z13, ()))))
 (.ite (d.2.2.2.2.1)
 (.need (len i3.1 ≠ 0) <| .loop 3 (.tt <| .vL (vW (0 : Int) (0 : Int) (w64 (Int.tdiv 65535 (len i3.1))) <| ur ∧ um ∧ True) <| .vL (vK (vP 3 i3.1) <| (vS 42 (2 : Int) <| (vQ 5 0 (List.length i3.1) true) ∧ True ∧ True) ∧ DTl d) <| .ok ((0, 0, i3.1, ()))) (aiR d j i3))
 (.ok (.inr (((2, List.take (List.length i3.1) i3.1, [], ()), ())))))
def aiT (d : Int × List Int × List uc × Bool × Bool × Unit) (j : Bool × (List Int) × Unit) : TT uW :=
 .ite (j.1)
 (.loop 2 (.tt <| .vL uU <| .vL (th ∧ DTl d) <| .ok ((true, [], ()))) (amF d j))
 (.loop 4 (.tt <| .lt (j.2.1 : List Int) fun z12 => .vL uU <| .vL (vK (vP 3 z12) <| (vS 42 (2 : Int) <| (vQ 5 0 (List.length z12) true) ∧ True ∧ True) ∧ DTl d) <| .ok ((z12, ()))) (amE d j))
def akX (d : Int × List Int × List uc × Bool × Bool × Unit) : TT uW :=
 .join 0 (ι := Bool × (List Int) × Unit) (.loop 1 (.tt <| .vL (vM (0 : Int) <| ur ∧ um ∧ ui ∧ True) <| .vL (th ∧ DTl d) <| .ok ((0, true, [], ()))) (amG d)) (aiT d)
def aCk : LTab := [(69, 250, 11268, ⟨0, (Int) × (Int) × Bool × (List uc) × Unit, .dat (.s 6) ud <| .dat (.s 5) ud <| .appN (.c 3 2) 11 64 uP <| .nil, [4, 3, 2, 1], [3, 1, 0], 1⟩)]
def af5 (d : Int × List Int × List uc × Bool × Bool × Unit) : TT tZ :=
 .ite (d.2.2.2.2.1)
 (.triv (asT Int 0 ≤ 1 ∧ 1 ≤ (↑1 : Int)) zf <| .triv (inb (w64 (1 - 1)) (↑1 : Int)) zf <| .ok (.inr (((3, [], List.take 1 (List.set [(0, 1000000, 0, 1, 1, 0, ())] (0 + Int.toNat (w64 (1 - 1))) (1000000, (List.getD [(0, 1000000, 0, 1, 1, 0, ())] (0 + Int.toNat (w64 (1 - 1))) (0, 0, 0, 0, 0, 0, ())).2)), ()), ()))))
 (.triv (inb (w64 (1 - 1)) (↑1 : Int)) zf <| .ok (.inr (((3, [], List.take 1 (List.set [(0, 1000000, 0, 1, 1, 0, ())] (0 + Int.toNat (w64 (1 - 1))) (1000000, (List.getD [(0, 1000000, 0, 1, 1, 0, ())] (0 + Int.toNat (w64 (1 - 1))) (0, 0, 0, 0, 0, 0, ())).2)), ()), ()))))
def ajK (d : Int × List Int × List uc × Bool × Bool × Unit) (i : (Int) × (Int) × Bool × (List uc) × Unit) : TT tZ :=
 .ite (i.2.2.1)
 (.ite (decide (i.1 < if 3 < len d.2.2.1 then 3 else len d.2.2.1))
  (.need (inb i.1 (len d.2.2.1)) <| .triv (asT Int 4 ≠ 0) zf <| .ite (d.2.2.2.1)
   (.triv (asT Int 4 ≠ 0) zf <| .ite (d.2.2.2.2.1)
    (.call (abH (w64 (1 + w64 (Int.tmod (gP d i.1).2.2.2.2.1 4)), w64 (1 + w64 (Int.tmod (gP d i.1).2.2.2.2.2.1 4)), ())) Dd1 fun y =>
     .ite (y.1)
     (.need (1 * 48 ≤ 140737488355328) <| .tt <| .lt (w64 (i.1 + 1) : Int) fun z1 => .lt (w64 (w64 (i.2.1 + 1000) + w64 (1000 * w64 (gP d i.1).1)) : Int) fun z2 => .lt ([(z2, if w64 (0 - w64 (100 * w64 (gP d i.1).2.1)) > w64 (100 * w64 (gP d i.1).2.1) then w64 (0 - w64 (100 * w64 (gP d i.1).2.1)) else w64 (100 * w64 (gP d i.1).2.1), if w64 (0 - w64 (10 * w64 (gP d i.1).2.2.1)) > w64 (10 * w64 (gP d i.1).2.2.1) then w64 (0 - w64 (10 * w64 (gP d i.1).2.2.1)) else w64 (10 * w64 (gP d i.1).2.2.1), 1, w64 (1 + w64 (Int.tmod (gP d i.1).2.2.2.2.2.1 4)), w64 (10 * w64 (gP d i.1).2.2.2.1), ())] : List uc) fun z3 => .vL (vW z2 z1 (if 3 < len d.2.2.1 then 3 else len d.2.2.1 : Int) <| ur ∧ um ∧ ui ∧ True) <| .vL (vK (vP 64 z3) <| uy ∧ DTl d) <| .ok (.inl ((z1, z2, false, z3, ()))))
     (.need (1 * 48 ≤ 140737488355328) <| .tt <| .lt (w64 (i.1 + 1) : Int) fun z4 => .lt (w64 (w64 (i.2.1 + 1000) + w64 (1000 * w64 (gP d i.1).1)) : Int) fun z5 => .lt ([(z5, if w64 (0 - w64 (100 * w64 (gP d i.1).2.1)) > w64 (100 * w64 (gP d i.1).2.1) then w64 (0 - w64 (100 * w64 (gP d i.1).2.1)) else w64 (100 * w64 (gP d i.1).2.1), if w64 (0 - w64 (10 * w64 (gP d i.1).2.2.1)) > w64 (10 * w64 (gP d i.1).2.2.1) then w64 (0 - w64 (10 * w64 (gP d i.1).2.2.1)) else w64 (10 * w64 (gP d i.1).2.2.1), w64 (1 + w64 (Int.tmod (gP d i.1).2.2.2.2.1 4)), w64 (1 + w64 (Int.tmod (gP d i.1).2.2.2.2.2.1 4)), w64 (10 * w64 (gP d i.1).2.2.2.1), ())] : List uc) fun z6 => .vL (vW z5 z4 (if 3 < len d.2.2.1 then 3 else len d.2.2.1 : Int) <| ur ∧ um ∧ ui ∧ True) <| .vL (vK (vP 64 z6) <| uy ∧ DTl d) <| .ok (.inl ((z4, z5, false, z6, ())))))
    (.call (abH (w64 (1 + w64 (Int.tmod (gP d i.1).2.2.2.2.1 4)), w64 (1 + w64 (Int.tmod (gP d i.1).2.2.2.2.2.1 4)), ())) Dd1 fun y1 =>
     .ite (y1.1)
     (.need (1 * 48 ≤ 140737488355328) <| .tt <| .lt (w64 (i.1 + 1) : Int) fun z7 => .lt (w64 (w64 (i.2.1 + 1000) + w64 (1000 * w64 (gP d i.1).1)) : Int) fun z8 => .lt ([(z8, w64 (100 * w64 (gP d i.1).2.1), w64 (10 * w64 (gP d i.1).2.2.1), 1, w64 (1 + w64 (Int.tmod (gP d i.1).2.2.2.2.2.1 4)), w64 (10 * w64 (gP d i.1).2.2.2.1), ())] : List uc) fun z9 => .vL (vW z8 z7 (if 3 < len d.2.2.1 then 3 else len d.2.2.1 : Int) <| ur ∧ um ∧ ui ∧ True) <| .vL (vK (vP 64 z9) <| uy ∧ DTl d) <| .ok (.inl ((z7, z8, false, z9, ()))))
     (.need (1 * 48 ≤ 140737488355328) <| .tt <| .lt (w64 (i.1 + 1) : Int) fun z10 => .lt (w64 (w64 (i.2.1 + 1000) + w64 (1000 * w64 (gP d i.1).1)) : Int) fun z11 => .lt ([(z11, w64 (100 * w64 (gP d i.1).2.1), w64 (10 * w64 (gP d i.1).2.2.1), w64 (1 + w64 (Int.tmod (gP d i.1).2.2.2.2.1 4)), w64 (1 + w64 (Int.tmod (gP d i.1).2.2.2.2.2.1 4)), w64 (10 * w64 (gP d i.1).2.2.2.1), ())] : List uc) fun z12 => .vL (vW z11 z10 (if 3 < len d.2.2.1 then 3 else len d.2.2.1 : Int) <| ur ∧ um ∧ ui ∧ True) <| .vL (vK (vP 64 z12) <| uy ∧ DTl d) <| .ok (.inl ((z10, z11, false, z12, ()))))))
   (.ite (d.2.2.2.2.1)
    (.call (abH (w64 (1 + w64 (Int.tmod (gP d i.1).2.2.2.2.1 4)), 1, ())) Dd1 fun y2 =>
     .ite (y2.1)
     (.need (1 * 48 ≤ 140737488355328) <| .tt <| .lt (w64 (i.1 + 1) : Int) fun z13 => .lt (w64 (w64 (i.2.1 + 1000) + w64 (1000 * w64 (gP d i.1).1)) : Int) fun z14 => .lt ([(z14, if w64 (0 - w64 (100 * w64 (gP d i.1).2.1)) > w64 (100 * w64 (gP d i.1).2.1) then w64 (0 - w64 (100 * w64 (gP d i.1).2.1)) else w64 (100 * w64 (gP d i.1).2.1), if w64 (0 - w64 (10 * w64 (gP d i.1).2.2.1)) > w64 (10 * w64 (gP d i.1).2.2.1) then w64 (0 - w64 (10 * w64 (gP d i.1).2.2.1)) else w64 (10 * w64 (gP d i.1).2.2.1), 1, 1, w64 (10 * w64 (gP d i.1).2.2.2.1), ())] : List uc) fun z15 => .vL (vW z14 z13 (if 3 < len d.2.2.1 then 3 else len d.2.2.1 : Int) <| ur ∧ um ∧ ui ∧ True) <| .vL (vK (vP 64 z15) <| uy ∧ DTl d) <| .ok (.inl ((z13, z14, false, z15, ()))))
     (.need (1 * 48 ≤ 140737488355328) <| .tt <| .lt (w64 (i.1 + 1) : Int) fun z16 => .lt (w64 (w64 (i.2.1 + 1000) + w64 (1000 * w64 (gP d i.1).1)) : Int) fun z17 => .lt ([(z17, if w64 (0 - w64 (100 * w64 (gP d i.1).2.1)) > w64 (100 * w64 (gP d i.1).2.1) then w64 (0 - w64 (100 * w64 (gP d i.1).2.1)) else w64 (100 * w64 (gP d i.1).2.1), if w64 (0 - w64 (10 * w64 (gP d i.1).2.2.1)) > w64 (10 * w64 (gP d i.1).2.2.1) then w64 (0 - w64 (10 * w64 (gP d i.1).2.2.1)) else w64 (10 * w64 (gP d i.1).2.2.1), w64 (1 + w64 (Int.tmod (gP d i.1).2.2.2.2.1 4)), 1, w64 (10 * w64 (gP d i.1).2.2.2.1), ())] : List uc) fun z18 => .vL (vW z17 z16 (if 3 < len d.2.2.1 then 3 else len d.2.2.1 : Int) <| ur ∧ um ∧ ui ∧ True) <| .vL (vK (vP 64 z18) <| uy ∧ DTl d) <| .ok (.inl ((z16, z17, false, z18, ())))))
    (.call (abH (w64 (1 + w64 (Int.tmod (gP d i.1).2.2.2.2.1 4)), 1, ())) Dd1 fun y3 =>
     .ite (y3.1)
     (.need (1 * 48 ≤ 140737488355328) <| .tt <| .lt (w64 (i.1 + 1) : Int) fun z19 => .lt (w64 (w64 (i.2.1 + 1000) + w64 (1000 * w64 (gP d i.1).1)) : Int) fun z20 => .lt ([(z20, w64 (100 * w64 (gP d i.1).2.1), w64 (10 * w64 (gP d i.1).2.2.1), 1, 1, w64 (10 * w64 (gP d i.1).2.2.2.1), ())] : List uc) fun z21 => .vL (vW z20 z19 (if 3 < len d.2.2.1 then 3 else len d.2.2.1 : Int) <| ur ∧ um ∧ ui ∧ True) <| .vL (vK (vP 64 z21) <| uy ∧ DTl d) <| .ok (.inl ((z19, z20, false, z21, ()))))
     (.need (1 * 48 ≤ 140737488355328) <| .tt <| .lt (w64 (i.1 + 1) : Int) fun z22 => .lt (w64 (w64 (i.2.1 + 1000) + w64 (1000 * w64 (gP d i.1).1)) : Int) fun z23 => .lt ([(z23, w64 (100 * w64 (gP d i.1).2.1), w64 (10 * w64 (gP d i.1).2.2.1), w64 (1 + w64 (Int.tmod (gP d i.1).2.2.2.2.1 4)), 1, w64 (10 * w64 (gP d i.1).2.2.2.1), ())] : List uc) fun z24 => .vL (vW z23 z22 (if 3 < len d.2.2.1 then 3 else len d.2.2.1 : Int) <| ur ∧ um ∧ ui ∧ True) <| .vL (vK (vP 64 z24) <| uy ∧ DTl d) <| .ok (.inl ((z22, z23, false, z24, ())))))))
  (.ite ((if 3 < len d.2.2.1 then 3 else len d.2.2.1) == 0)
   (af5 d)
   (.ite (d.2.2.2.2.1)
    (.bad)
    (.bad))))
 (.ite (decide (i.1 < if 3 < len d.2.2.1 then 3 else len d.2.2.1))
  (.need (inb i.1 (len d.2.2.1)) <| .triv (asT Int 4 ≠ 0) zf <| .ite (d.2.2.2.1)
   (.triv (asT Int 4 ≠ 0) zf <| .ite (d.2.2.2.2.1)
    (.call (abH (w64 (1 + w64 (Int.tmod (gP d i.1).2.2.2.2.1 4)), w64 (1 + w64 (Int.tmod (gP d i.1).2.2.2.2.2.1 4)), ())) Dd1 fun y4 =>
     .ite (y4.1)
     (.need ((List.length i.2.2.2.1 + 1) * 48 ≤ 140737488355328) <| .tt <| .lt (w64 (i.1 + 1) : Int) fun z25 => .lt (w64 (w64 (i.2.1 + 1000) + w64 (1000 * w64 (gP d i.1).1)) : Int) fun z26 => .lt (List.take (List.length i.2.2.2.1) i.2.2.2.1 ++ [(z26, if w64 (0 - w64 (100 * w64 (gP d i.1).2.1)) > w64 (100 * w64 (gP d i.1).2.1) then w64 (0 - w64 (100 * w64 (gP d i.1).2.1)) else w64 (100 * w64 (gP d i.1).2.1), if w64 (0 - w64 (10 * w64 (gP d i.1).2.2.1)) > w64 (10 * w64 (gP d i.1).2.2.1) then w64 (0 - w64 (10 * w64 (gP d i.1).2.2.1)) else w64 (10 * w64 (gP d i.1).2.2.1), 1, w64 (1 + w64 (Int.tmod (gP d i.1).2.2.2.2.2.1 4)), w64 (10 * w64 (gP d i.1).2.2.2.1), ())] : List uc) fun z27 => .vL (vW z26 z25 (if 3 < len d.2.2.1 then 3 else len d.2.2.1 : Int) <| ur ∧ um ∧ ui ∧ True) <| .need ((((64 : TypeId) = 64) ∧ ((z27 : List uc) = z27)) ∧ (true = true) ∧ (((42 : TypeId) = 42) ∧ (((3 : Int) = 3) ∧ (True ∧ ((((11) = (11)) ∧ (((0) = (0)) ∧ ((List.length i.2.2.2.1 + 1 = List.length z27) ∧ ((true) = (true))))) ∧ True)))) ∧ DTl d) <| .ok (.inl ((z25, z26, false, z27, ()))))
     (.need ((List.length i.2.2.2.1 + 1) * 48 ≤ 140737488355328) <| .tt <| .lt (w64 (i.1 + 1) : Int) fun z28 => .lt (w64 (w64 (i.2.1 + 1000) + w64 (1000 * w64 (gP d i.1).1)) : Int) fun z29 => .lt (List.take (List.length i.2.2.2.1) i.2.2.2.1 ++ [(z29, if w64 (0 - w64 (100 * w64 (gP d i.1).2.1)) > w64 (100 * w64 (gP d i.1).2.1) then w64 (0 - w64 (100 * w64 (gP d i.1).2.1)) else w64 (100 * w64 (gP d i.1).2.1), if w64 (0 - w64 (10 * w64 (gP d i.1).2.2.1)) > w64 (10 * w64 (gP d i.1).2.2.1) then w64 (0 - w64 (10 * w64 (gP d i.1).2.2.1)) else w64 (10 * w64 (gP d i.1).2.2.1), w64 (1 + w64 (Int.tmod (gP d i.1).2.2.2.2.1 4)), w64 (1 + w64 (Int.tmod (gP d i.1).2.2.2.2.2.1 4)), w64 (10 * w64 (gP d i.1).2.2.2.1), ())] : List uc) fun z30 => .vL (vW z29 z28 (if 3 < len d.2.2.1 then 3 else len d.2.2.1 : Int) <| ur ∧ um ∧ ui ∧ True) <| .need ((((64 : TypeId) = 64) ∧ ((z30 : List uc) = z30)) ∧ (true = true) ∧ (((42 : TypeId) = 42) ∧ (((3 : Int) = 3) ∧ (True ∧ ((((11) = (11)) ∧ (((0) = (0)) ∧ ((List.length i.2.2.2.1 + 1 = List.length z30) ∧ ((true) = (true))))) ∧ True)))) ∧ DTl d) <| .ok (.inl ((z28, z29, false, z30, ())))))
    (.call (abH (w64 (1 + w64 (Int.tmod (gP d i.1).2.2.2.2.1 4)), w64 (1 + w64 (Int.tmod (gP d i.1).2.2.2.2.2.1 4)), ())) Dd1 fun y5 =>
     .ite (y5.1)
     (.need ((List.length i.2.2.2.1 + 1) * 48 ≤ 140737488355328) <| .tt <| .lt (w64 (i.1 + 1) : Int) fun z31 => .lt (w64 (w64 (i.2.1 + 1000) + w64 (1000 * w64 (gP d i.1).1)) : Int) fun z32 => .lt (List.take (List.length i.2.2.2.1) i.2.2.2.1 ++ [(z32, w64 (100 * w64 (gP d i.1).2.1), w64 (10 * w64 (gP d i.1).2.2.1), 1, w64 (1 + w64 (Int.tmod (gP d i.1).2.2.2.2.2.1 4)), w64 (10 * w64 (gP d i.1).2.2.2.1), ())] : List uc) fun z33 => .vL (vW z32 z31 (if 3 < len d.2.2.1 then 3 else len d.2.2.1 : Int) <| ur ∧ um ∧ ui ∧ True) <| .need ((((64 : TypeId) = 64) ∧ ((z33 : List uc) = z33)) ∧ (true = true) ∧ (((42 : TypeId) = 42) ∧ (((3 : Int) = 3) ∧ (True ∧ ((((11) = (11)) ∧ (((0) = (0)) ∧ ((List.length i.2.2.2.1 + 1 = List.length z33) ∧ ((true) = (true))))) ∧ True)))) ∧ DTl d) <| .ok (.inl ((z31, z32, false, z33, ()))))
     (.need ((List.length i.2.2.2.1 + 1) * 48 ≤ 140737488355328) <| .tt <| .lt (w64 (i.1 + 1) : Int) fun z34 => .lt (w64 (w64 (i.2.1 + 1000) + w64 (1000 * w64 (gP d i.1).1)) : Int) fun z35 => .lt (List.take (List.length i.2.2.2.1) i.2.2.2.1 ++ [(z35, w64 (100 * w64 (gP d i.1).2.1), w64 (10 * w64 (gP d i.1).2.2.1), w64 (1 + w64 (Int.tmod (gP d i.1).2.2.2.2.1 4)), w64 (1 + w64 (Int.tmod (gP d i.1).2.2.2.2.2.1 4)), w64 (10 * w64 (gP d i.1).2.2.2.1), ())] : List uc) fun z36 => .vL (vW z35 z34 (if 3 < len d.2.2.1 then 3 else len d.2.2.1 : Int) <| ur ∧ um ∧ ui ∧ True) <| .need ((((64 : TypeId) = 64) ∧ ((z36 : List uc) = z36)) ∧ (true = true) ∧ (((42 : TypeId) = 42) ∧ (((3 : Int) = 3) ∧ (True ∧ ((((11) = (11)) ∧ (((0) = (0)) ∧ ((List.length i.2.2.2.1 + 1 = List.length z36) ∧ ((true) = (true))))) ∧ True)))) ∧ DTl d) <| .ok (.inl ((z34, z35, false, z36, ()))))))
   (.ite (d.2.2.2.2.1)
    (.call (abH (w64 (1 + w64 (Int.tmod (gP d i.1).2.2.2.2.1 4)), 1, ())) Dd1 fun y6 =>
     .ite (y6.1)
     (.need ((List.length i.2.2.2.1 + 1) * 48 ≤ 140737488355328) <| .tt <| .lt (w64 (i.1 + 1) : Int) fun z37 => .lt (w64 (w64 (i.2.1 + 1000) + w64 (1000 * w64 (gP d i.1).1)) : Int) fun z38 => .lt (List.take (List.length i.2.2.2.1) i.2.2.2.1 ++ [(z38, if w64 (0 - w64 (100 * w64 (gP d i.1).2.1)) > w64 (100 * w64 (gP d i.1).2.1) then w64 (0 - w64 (100 * w64 (gP d i.1).2.1)) else w64 (100 * w64 (gP d i.1).2.1), if w64 (0 - w64 (10 * w64 (gP d i.1).2.2.1)) > w64 (10 * w64 (gP d i.1).2.2.1) then w64 (0 - w64 (10 * w64 (gP d i.1).2.2.1)) else w64 (10 * w64 (gP d i.1).2.2.1), 1, 1, w64 (10 * w64 (gP d i.1).2.2.2.1), ())] : List uc) fun z39 => .vL (vW z38 z37 (if 3 < len d.2.2.1 then 3 else len d.2.2.1 : Int) <| ur ∧ um ∧ ui ∧ True) <| .need ((((64 : TypeId) = 64) ∧ ((z39 : List uc) = z39)) ∧ (true = true) ∧ (((42 : TypeId) = 42) ∧ (((3 : Int) = 3) ∧ (True ∧ ((((11) = (11)) ∧ (((0) = (0)) ∧ ((List.length i.2.2.2.1 + 1 = List.length z39) ∧ ((true) = (true))))) ∧ True)))) ∧ DTl d) <| .ok (.inl ((z37, z38, false, z39, ()))))
     (.need ((List.length i.2.2.2.1 + 1) * 48 ≤ 140737488355328) <| .tt <| .lt (w64 (i.1 + 1) : Int) fun z40 => .lt (w64 (w64 (i.2.1 + 1000) + w64 (1000 * w64 (gP d i.1).1)) : Int) fun z41 => .lt (List.take (List.length i.2.2.2.1) i.2.2.2.1 ++ [(z41, if w64 (0 - w64 (100 * w64 (gP d i.1).2.1)) > w64 (100 * w64 (gP d i.1).2.1) then w64 (0 - w64 (100 * w64 (gP d i.1).2.1)) else w64 (100 * w64 (gP d i.1).2.1), if w64 (0 - w64 (10 * w64 (gP d i.1).2.2.1)) > w64 (10 * w64 (gP d i.1).2.2.1) then w64 (0 - w64 (10 * w64 (gP d i.1).2.2.1)) else w64 (10 * w64 (gP d i.1).2.2.1), w64 (1 + w64 (Int.tmod (gP d i.1).2.2.2.2.1 4)), 1, w64 (10 * w64 (gP d i.1).2.2.2.1), ())] : List uc) fun z42 => .vL (vW z41 z40 (if 3 < len d.2.2.1 then 3 else len d.2.2.1 : Int) <| ur ∧ um ∧ ui ∧ True) <| .need ((((64 : TypeId) = 64) ∧ ((z42 : List uc) = z42)) ∧ (true = true) ∧ (((42 : TypeId) = 42) ∧ (((3 : Int) = 3) ∧ (True ∧ ((((11) = (11)) ∧ (((0) = (0)) ∧ ((List.length i.2.2.2.1 + 1 = List.length z42) ∧ ((true) = (true))))) ∧ True)))) ∧ DTl d) <| .ok (.inl ((z40, z41, false, z42, ())))))
    (.call (abH (w64 (1 + w64 (Int.tmod (gP d i.1).2.2.2.2.1 4)), 1, ())) Dd1 fun y7 =>
     .ite (y7.1)
     (.need ((List.length i.2.2.2.1 + 1) * 48 ≤ 140737488355328) <| .tt <| .lt (w64 (i.1 + 1) : Int) fun z43 => .lt (w64 (w64 (i.2.1 + 1000) + w64 (1000 * w64 (gP d i.1).1)) : Int) fun z44 => .lt (List.take (List.length i.2.2.2.1) i.2.2.2.1 ++ [(z44, w64 (100 * w64 (gP d i.1).2.1), w64 (10 * w64 (gP d i.1).2.2.1), 1, 1, w64 (10 * w64 (gP d i.1).2.2.2.1), ())] : List uc) fun z45 => .vL (vW z44 z43 (if 3 < len d.2.2.1 then 3 else len d.2.2.1 : Int) <| ur ∧ um ∧ ui ∧ True) <| .need ((((64 : TypeId) = 64) ∧ ((z45 : List uc) = z45)) ∧ (true = true) ∧ (((42 : TypeId) = 42) ∧ (((3 : Int) = 3) ∧ (True ∧ ((((11) = (11)) ∧ (((0) = (0)) ∧ ((List.length i.2.2.2.1 + 1 = List.length z45) ∧ ((true) = (true))))) ∧ True)))) ∧ DTl d) <| .ok (.inl ((z43, z44, false, z45, ()))))
     (.need ((List.length i.2.2.2.1 + 1) * 48 ≤ 140737488355328) <| .tt <| .lt (w64 (i.1 + 1) : Int) fun z46 => .lt (w64 (w64 (i.2.1 + 1000) + w64 (1000 * w64 (gP d i.1).1)) : Int) fun z47 => .lt (List.take (List.length i.2.2.2.1) i.2.2.2.1 ++ [(z47, w64 (100 * w64 (gP d i.1).2.1), w64 (10 * w64 (gP d i.1).2.2.1), w64 (1 + w64 (Int.tmod (gP d i.1).2.2.2.2.1 4)), 1, w64 (10 * w64 (gP d i.1).2.2.2.1), ())] : List uc) fun z48 => .vL (vW z47 z46 (if 3 < len d.2.2.1 then 3 else len d.2.2.1 : Int) <| ur ∧ um ∧ ui ∧ True) <| .need ((((64 : TypeId) = 64) ∧ ((z48 : List uc) = z48)) ∧ (true = true) ∧ (((42 : TypeId) = 42) ∧ (((3 : Int) = 3) ∧ (True ∧ ((((11) = (11)) ∧ (((0) = (0)) ∧ ((List.length i.2.2.2.1 + 1 = List.length z48) ∧ ((true) = (true))))) ∧ True)))) ∧ DTl d) <| .ok (.inl ((z46, z47, false, z48, ())))))))
  (.ite ((if 3 < len d.2.2.1 then 3 else len d.2.2.1) == 0)
   (af5 d)
   (.ite (d.2.2.2.2.1)
    (.need (asT Int 0 ≤ 1 ∧ 1 ≤ len i.2.2.2.1) <| .triv (inb (w64 (1 - 1)) (↑1 : Int)) zf <| .ok (.inr (((3, [], List.take 1 (List.set i.2.2.2.1 (0 + Int.toNat (w64 (1 - 1))) (1000000, (List.getD i.2.2.2.1 (0 + Int.toNat (w64 (1 - 1))) (0, 0, 0, 0, 0, 0, ())).2)), ()), ()))))
    (.need (inb (w64 ((if 3 < len d.2.2.1 then 3 else len d.2.2.1) - 1)) (len i.2.2.2.1)) <| .ok (.inr (((3, [], List.take (List.length i.2.2.2.1) (List.set i.2.2.2.1 (0 + Int.toNat (w64 ((if 3 < len d.2.2.1 then 3 else len d.2.2.1) - 1))) (1000000, (List.getD i.2.2.2.1 (0 + Int.toNat (w64 ((if 3 < len d.2.2.1 then 3 else len d.2.2.1) - 1))) (0, 0, 0, 0, 0, 0, ())).2)), ()), ())))))))
def ahE (d : Int × List Int × List uc × Bool × Bool × Unit) : TT uW :=
 .loop 0 (.tt <| .lt ([] : List uc) fun z => .vL (vW (0 : Int) (0 : Int) (if 3 < len d.2.2.1 then 3 else len d.2.2.1 : Int) <| ur ∧ um ∧ ui ∧ True) <| .vL ((vS 42 (3 : Int) <| True ∧ True ∧ True) ∧ DTl d) <| .ok ((0, 0, true, z, ()))) (ajK d)
end
noncomputable section
abbrev DrT := Int × List Int × List ad0 × Bool × Bool × Unit
def aDI (l : List Int) : Prop := ∀ v ∈ l, inR v 0 65535
def aS2 (d : DrT) : Prop := inR d.1 0 255 ∧ aDI d.2.1 ∧ ∀ s ∈ d.2.2.1, inR s.1 0 255 ∧ inR s.2.1 (-32768) 32767 ∧ inR s.2.2.1 (-32768) 32767 ∧ inR s.2.2.2.1 (-32768) 32767 ∧ inR s.2.2.2.2.1 0 255 ∧ inR s.2.2.2.2.2.1 0 255
def aiI (x : DrT × Unit) : Option (CvT × Unit) := (akX x.1).toO
def afY (x : DrT × Unit) : Option (CvT × Unit) := (ahE x.1).toO
end
set_option maxRecDepth 100000
open Go Go.Vg Go.Proofs
noncomputable section
def aJZ : LTab := []
def anP (d : Int × List Int × List uc × Bool × Bool × Unit) : TT uW :=
 .triv (asT Int 4 ≠ 0) zf <| .ite (Int.tmod d.1 4 == 0)
 (.ok (((1, [], [], ()), ())))
 (.ite (Int.tmod d.1 4 == 1)
 (.call (afY ((d.1, d.2.1, d.2.2.1, d.2.2.2.1, d.2.2.2.2.1, ()), ())) aL6 fun y =>
 .ok (((y.1.1, y.1.2.1, y.1.2.2.1, ()), ())))
 (.call (aiI ((d.1, d.2.1, d.2.2.1, d.2.2.2.1, d.2.2.2.2.1, ()), ())) aL6 fun y1 =>
 .ok (((y1.1.1, y1.1.2.1, y1.1.2.2.1, ()), ()))))
end
noncomputable section
def akF (x : DrT × Unit) : Option (CvT × Unit) := (anP x.1).toO
end
theorem aq8 {l : List Int} (h : aDI l) (k : Nat) : 0 ≤ l.getD k 0 ∧ l.getD k 0 ≤ 65535 := by
 rw [yp]
 rcases zr k l.length with hk | hk
 ·rw [zR hk]; exact h _ (yf hk)
 ·rw [xR hk]; decide
theorem aC8 {l : List Int} {v : Int} (h : aDI l) (hv : 0 ≤ v ∧ v ≤ 65535) : aDI (l ++ [v]) := by
 intro w hw
 rcases zJ.mp hw with hw | hw
 ·exact h w hw
 ·rw [zZ.mp hw]; exact hv
theorem aRj {l : List Int} {v : Int} {k : Nat} (h : aDI l) (hv : 0 ≤ v ∧ v ≤ 65535) : aDI (l.set k v) := by
 intro w hw
 rcases List.mem_or_eq_of_mem_set hw with hw | hw
 ·exact h w hw
 ·rw [hw]; exact hv
theorem aOO {l : List Int} {k : Nat} (h : aDI l) : aDI (l.take k) := fun w hw => h w (xa hw)
theorem aMI {A : Type} {R : Int × Int × List Int × Unit → Option ((Int × Int × List Int × Unit) ⊕ (A ⊕ (CvT × Unit)))} (l : List Int) (hl : 2 ≤ l.length ∧ l.length ≤ 8) (he : aDI l)
  (hs : ∀ (k : Nat) (a : Int) (s : List Int), k < l.length → s.length = l.length → aDI s → 0 ≤ a → a ≤ 65535 → R ((k : Int), a, s, ()) = some (.inl (((k + 1 : Nat) : Int), a + 1 + Int.tmod (s.getD k 0) (Int.tdiv 65535 l.length), s.set k (a + Int.tmod (s.getD k 0) (Int.tdiv 65535 l.length)), ())))
  (hd : ∀ (a : Int) (s : List Int), s.length = l.length → R ((l.length : Int), a, s, ()) = some (.inr (.inr ((2, s.take l.length, [], ()), ())))) :
  ∃ t, adG R (0, 0, l, ()) = some (.inr ((2, t, [], ()), ())) ∧ adM t := by
 obtain ⟨n, hn⟩ : ∃ n : Nat, n = l.length := ⟨_, rfl⟩
 rw [← hn] at hl hs hd
 have hq : Int.tdiv 65535 (n : Int) = 65535 / (n : Int) := zL zc
 have hq1 : (n : Int) * (65535 / (n : Int)) ≤ 65535 := by have := Int.ediv_mul_le 65535 (b := (n : Int)) zc; rw [yJ]; omega
 have hq0 : 1 ≤ 65535 / (n : Int) := by
  rw [xM zc]; omega
 rw [hq] at hs
 obtain ⟨q, hqq⟩ : ∃ q : Int, q = 65535 / (n : Int) := ⟨_, rfl⟩
 rw [← hqq] at hs hq1 hq0
 suffices H : ∃ a, adG R (0, 0, l, ()) = some a ∧ ∃ t, a = .inr ((2, t, [], ()), ()) ∧ adM t by
  obtain ⟨a, h1, t, rfl, h2⟩ := H
  exact ⟨t, h1, h2⟩
 refine acT (R := R) (fun i => ∃ k : Nat, k ≤ n ∧ i.1 = (k : Int) ∧ 0 ≤ i.2.1 ∧ i.2.1 ≤ (k : Int) * q ∧ i.2.2.1.length = n ∧ aDI i.2.2.1) (fun i => ((n : Int) - i.1).toNat) (fun a => ∃ t, a = .inr ((2, t, [], ()), ()) ∧ adM t) ?_ (0, 0, l, ()) ⟨0, by omega, rfl, by simp, by simp, hn.symm, he⟩
 rintro ⟨i, a, s, u⟩ ⟨k, h1, h2, h3, h4, h5, h6⟩
 simp only at h2 h3 h4 h5 h6
 subst h2
 rcases zr k n with hk | hk
 ·left
  have hg := aq8 h6 k
  have hm : Int.tmod (s.getD k 0) q = s.getD k 0 % q := zz hg.1
  have m0 := yO (s.getD k 0) (b := q) zc
  have m1 := yB (s.getD k 0) (b := q) zc
  have hkn : ((k : Int) + 1) * q ≤ (n : Int) * q := zF zc zc
  have hk1 : ((k : Int) + 1) * q = (k : Int) * q + q := by rw [wT, Int.one_mul]
  refine ⟨_, hs k a s hk h5 h6 h3 zc, ⟨k + 1, hk, rfl, ?_, ?_, ?_, ?_⟩, ?_⟩
  ·simp only [hm]; omega
  ·simp only [hm]; rw [ve]; show _ ≤ ((k : Int) + 1) * q; omega
  ·simp only [yW, h5]
  ·simp only [hm]; exact aRj h6 ⟨by omega, by omega⟩
  ·simp only; omega
 ·right
  obtain rfl : k = n := zc
  exact ⟨_, hd a s h5, s.take k, rfl, by rw [zK]; omega, by rw [zK]; omega, aOO h6⟩
theorem s9 {p : Prop} (h : p := by first | omega | ((try simp only [aaC, inb, inc, ge_iff_le, gt_iff_lt, zp, asT, ne_eq, zH, zK, zG, yP, Nat.min_self, DTl]) <;> (first | omega | (refine ⟨?_, ?_⟩ <;> omega) | simp))) : p := h
theorem zb {α : Type} {x y : TT α} {r : Option α} (k : y.toO = r) (h : x.toO = y.toO := by first | exact uV rfl | exact uB rfl | exact uN s9 rfl) : x.toO = r := h.trans k
theorem aOS (d : DrT) (j : Bool × List Int × Unit) (b : Bool) (l : List Int) (hl : 2 ≤ l.length ∧ l.length ≤ 8) (he : aDI l) :
  ∃ t, adG (fun i => (aiS d j (b, l, ()) i).toO) (0, 0, l, ()) = some (.inr ((2, t, [], ()), ())) ∧ adM t := by
 have hq : Int.tdiv 65535 (l.length : Int) = 65535 / (l.length : Int) := zL zc
 have hq0 : 1 ≤ 65535 / (l.length : Int) := by rw [xM zc]; omega
 have hq1 : 65535 / (l.length : Int) ≤ 65535 := Int.ediv_le_self _ zc
 refine aMI l hl he ?_ ?_
 ·intro k a s hk hs hes h0 h1
  have hg := aq8 hes k
  have hm : Int.tmod (s.getD k 0) (Int.tdiv 65535 (l.length : Int)) = s.getD k 0 % (65535 / (l.length : Int)) := by rw [hq]; exact zz hg.1
  have m0 := yO (s.getD k 0) (b := 65535 / (l.length : Int)) zc
  have m1 := yB (s.getD k 0) (b := 65535 / (l.length : Int)) zc
  have e1 : w64 (Int.tdiv 65535 (l.length : Int)) = Int.tdiv 65535 (l.length : Int) := aaA (by rw [hq]; omega)
  have e2 : w64 ((k : Int) + 1) = ((k + 1 : Nat) : Int) := by rw [aaA (x := (k : Int) + 1) zc]; omega
  have e3 : w64 (a + 1) = a + 1 := aaA zc
  have e4 : w64 (a + 1 + Int.tmod (s.getD k 0) (Int.tdiv 65535 (l.length : Int))) = a + 1 + Int.tmod (s.getD k 0) (Int.tdiv 65535 (l.length : Int)) := aaA (by rw [hm]; omega)
  have e5 : w64 (a + 1 + Int.tmod (s.getD k 0) (Int.tdiv 65535 (l.length : Int)) - 1) = a + Int.tmod (s.getD k 0) (Int.tdiv 65535 (l.length : Int)) := by rw [aaA (x := a + 1 + Int.tmod (s.getD k 0) (Int.tdiv 65535 (l.length : Int)) - 1) (by rw [hm]; omega)]; omega
  simp only [aiS, aaC, e1, e2, e3, zu, zp, e4, e5]
  refine uT (zo zc) ?_
  refine uN ⟨by omega, by omega⟩ ?_
  refine uN (by rw [hq]; omega) ?_
  refine uN ⟨by omega, by omega⟩ ?_
  refine uB (uB (uB ?_))
  repeat refine uV ?_
  simp only [aaJ, e5]
 ·intro a s hs
  simp only [aiS, aaC]
  refine uF (zn zc) ?_
  rfl
theorem aOR (d : DrT) (j : Bool × List Int × Unit) (l : List Int) (hl : 2 ≤ l.length ∧ l.length ≤ 8) (he : aDI l) :
  ∃ t, adG (fun i => (aiR d j (l, ()) i).toO) (0, 0, l, ()) = some (.inr ((2, t, [], ()), ())) ∧ adM t := by
 have hq : Int.tdiv 65535 (l.length : Int) = 65535 / (l.length : Int) := zL zc
 have hq0 : 1 ≤ 65535 / (l.length : Int) := by rw [xM zc]; omega
 have hq1 : 65535 / (l.length : Int) ≤ 65535 := Int.ediv_le_self _ zc
 refine aMI l hl he ?_ ?_
 ·intro k a s hk hs hes h0 h1
  have hg := aq8 hes k
  have hm : Int.tmod (s.getD k 0) (Int.tdiv 65535 (l.length : Int)) = s.getD k 0 % (65535 / (l.length : Int)) := by rw [hq]; exact zz hg.1
  have m0 := yO (s.getD k 0) (b := 65535 / (l.length : Int)) zc
  have m1 := yB (s.getD k 0) (b := 65535 / (l.length : Int)) zc
  have e1 : w64 (Int.tdiv 65535 (l.length : Int)) = Int.tdiv 65535 (l.length : Int) := aaA (by rw [hq]; omega)
  have e2 : w64 ((k : Int) + 1) = ((k + 1 : Nat) : Int) := by rw [aaA (x := (k : Int) + 1) zc]; omega
  have e3 : w64 (a + 1) = a + 1 := aaA zc
  have e4 : w64 (a + 1 + Int.tmod (s.getD k 0) (Int.tdiv 65535 (l.length : Int))) = a + 1 + Int.tmod (s.getD k 0) (Int.tdiv 65535 (l.length : Int)) := aaA (by rw [hm]; omega)
  have e5 : w64 (a + 1 + Int.tmod (s.getD k 0) (Int.tdiv 65535 (l.length : Int)) - 1) = a + Int.tmod (s.getD k 0) (Int.tdiv 65535 (l.length : Int)) := by rw [aaA (x := a + 1 + Int.tmod (s.getD k 0) (Int.tdiv 65535 (l.length : Int)) - 1) (by rw [hm]; omega)]; omega
  simp only [aiR, aaC, e1, e2, e3, zu, zp, e4, e5]
  refine uT (zo zc) ?_
  refine uN ⟨by omega, by omega⟩ ?_
  refine uN (by rw [hq]; omega) ?_
  refine uN ⟨by omega, by omega⟩ ?_
  refine uB (uB (uB ?_))
  repeat refine uV ?_
  simp only [aaJ, e5]
 ·intro a s hs
  simp only [aiR, aaC]
  refine uF (zn zc) ?_
  rfl
theorem aOT (d : DrT) (b : Bool) (l : List Int) (hl : l.length ≤ 8) (he : aDI l) (hb : b = true → l = []) :
  ∃ t, (aiT d (b, l, ())).toO = some ((2, t, [], ()), ()) ∧ adM t := by
 cases b
 ·suffices H : ∃ a, adG (fun i => (amE d (false, l, ()) i).toO) (l, ()) = some a ∧ ∃ t, a = ((2, t, [], ()), ()) ∧ adM t by
   obtain ⟨a, h1, t, rfl, h2⟩ := H
   refine ⟨t, ?_, h2⟩
   simp only [aiT]
   refine uF rfl ?_
   exact uO (l, ()) (uB rfl) h1
  refine acT (fun i => i.1.length ≤ 8 ∧ aDI i.1) (fun i => 2 - i.1.length) _ ?_ (l, ()) ⟨hl, he⟩
  rintro ⟨l, u⟩ ⟨h1, h2⟩
  simp only at h1 h2
  simp only [amE, aaC, zt]
  rcases zr l.length 2 with hk | hk
  ·left
   have e1 : w64 (65535 * (l.length : Int)) = 65535 * (l.length : Int) := aaA zc
   refine ⟨(l ++ [65535 * (l.length : Int)], ()), ?_, ⟨by rw [zH]; simp only [zG, yP]; omega, aC8 h2 zc⟩, by simp only [zH, zG, yP]; omega⟩
   refine uT (zo zc) ?_
   simp only [e1]
   repeat refine zb ?_
   rfl
  ·right
   rcases (xi d.2.2.2.2.1).symm with hd | hd
   ·refine ⟨_, uF (zn zc) (uF hd ?_), l, rfl, hk, by omega, h2⟩
    repeat refine zb ?_
    rfl
   ·obtain ⟨t, h3, h4⟩ := aOR d (false, l, ()) l ⟨hk, h1⟩ h2
    refine ⟨_, uF (zn zc) (uT hd ?_), t, rfl, h4⟩
    repeat refine zb ?_
    refine uO (0, 0, l, ()) ?_ ?_
    ·repeat refine zb ?_
     rfl
    ·exact h3
 ·suffices H : ∃ a, adG (fun i => (amF d (true, l, ()) i).toO) (true, [], ()) = some a ∧ ∃ t, a = ((2, t, [], ()), ()) ∧ adM t by
   obtain ⟨a, h1, t, rfl, h2⟩ := H
   refine ⟨t, ?_, h2⟩
   simp only [aiT]
   refine uT rfl ?_
   exact uO (true, [], ()) rfl h1
  refine acT (fun i => i.2.1.length ≤ 8 ∧ aDI i.2.1 ∧ (i.1 = true → i.2.1 = [])) (fun i => 2 - i.2.1.length) _ ?_ (true, [], ()) ⟨by simp, (by intro v hv; cases hv), fun _ => rfl⟩
  rintro ⟨b, l, u⟩ ⟨h1, h2, h5⟩
  simp only at h1 h2 h5
  simp only [amF, aaC, zt]
  cases b
  ·rcases zr l.length 2 with hk | hk
   ·left
    have e1 : w64 (65535 * (l.length : Int)) = 65535 * (l.length : Int) := aaA zc
    refine ⟨(false, l ++ [65535 * (l.length : Int)], ()), ?_, ⟨by rw [zH]; simp only [zG, yP]; omega, aC8 h2 zc, by intro h; cases h⟩, by simp only [zH, zG, yP]; omega⟩
    refine uF rfl (uT (zo zc) ?_)
    simp only [e1]
    repeat refine zb ?_
    rfl
   ·right
    rcases (xi d.2.2.2.2.1).symm with hd | hd
    ·refine ⟨_, uF rfl (uF (zn zc) (uF hd ?_)), l, rfl, hk, by omega, h2⟩
     repeat refine zb ?_
     rfl
    ·obtain ⟨t, h3, h4⟩ := aOS d (true, ‹List Int›, ()) false l ⟨hk, h1⟩ h2
     refine ⟨_, uF rfl (uF (zn zc) (uT hd ?_)), t, rfl, h4⟩
     repeat refine zb ?_
     refine uO (0, 0, l, ()) ?_ ?_
     ·repeat refine zb ?_
      rfl
     ·exact h3
  ·left
   have := h5 rfl
   subst this
   refine ⟨(false, [0], ()), ?_, ⟨by simp, by intro v hv; rw [zZ.mp hv]; decide, by intro h; cases h⟩, by simp⟩
   refine uT rfl ?_
   repeat refine zb ?_
   rfl
theorem aOQ (d : DrT) (hd : aS2 d) : ∃ t, aiI (d, ()) = some ((2, t, [], ()), ()) ∧ adM t := by
 suffices H : ∃ a, adG (fun i => (amG d i).toO) (0, true, [], ()) = some a ∧ ∃ b l, a = .inl (b, l, ()) ∧ l.length ≤ 8 ∧ aDI l ∧ (b = true → l = []) by
  obtain ⟨a, h1, b, l, rfl, h2, h3, h4⟩ := H
  obtain ⟨t, h5, h6⟩ := aOT d b l h2 h3 h4
  refine ⟨t, ?_, h6⟩
  simp only [aiI, akX]
  exact uL (b, l, ()) (uO (0, true, [], ()) rfl h1) h5
 refine acT (fun i => ∃ k : Nat, k ≤ 8 ∧ i.1 = (k : Int) ∧ i.2.2.1.length = k ∧ aDI i.2.2.1 ∧ (i.2.1 = true → i.2.2.1 = [] )) (fun i => (8 - i.1).toNat) _ ?_ _ ⟨0, by omega, rfl, rfl, (by intro v hv; cases hv), fun _ => rfl⟩
 rintro ⟨i, b, l, u⟩ ⟨k, h1, h2, h3, h4, h5⟩
 simp only at h2 h3 h4 h5
 subst h2
 simp only [amG, ahV, aaC, zt, aaM]
 have hg := aq8 hd.2.1 k
 have e0 : w64 (d.2.1.getD k 0) = d.2.1.getD k 0 := aaA zc
 have e2 : w64 ((k : Int) + 1) = ((k + 1 : Nat) : Int) := by rw [aaA (x := (k : Int) + 1) zc]; omega
 simp only [e0, e2]
 by_cases c1 : (k : Int) < d.2.1.length
 ·by_cases c2 : (k : Int) < 8
  ·left
   refine ⟨(((k + 1 : Nat) : Int), false, l ++ [d.2.1.getD k 0], ()), ?_, ⟨k + 1, by omega, rfl, by simp [h3], aC8 h4 hg, by intro h; cases h⟩, by simp only; omega⟩
   cases b
   ·refine uF rfl (uT (zo c1) (uT (zo c2) ?_))
    repeat refine zb ?_
    rfl
   ·have := h5 rfl
    subst this
    refine uT rfl (uT (zo c1) (uT (zo c2) ?_))
    repeat refine zb ?_
    rfl
  ·right
   cases b
   ·refine ⟨_, uF rfl (uT (zo c1) (uF (zn c2) ?_)), false, l, rfl, by omega, h4, by intro h; cases h⟩
    repeat refine zb ?_
    rfl
   ·refine ⟨_, uT rfl (uT (zo c1) (uF (zn c2) ?_)), true, [], rfl, by simp, (by intro v hv; cases hv), fun _ => rfl⟩
    repeat refine zb ?_
    rfl
 ·right
  cases b
  ·refine ⟨_, uF rfl (uF (zn c1) ?_), false, l, rfl, by omega, h4, by intro h; cases h⟩
   repeat refine zb ?_
   rfl
  ·refine ⟨_, uT rfl (uF (zn c1) ?_), true, [], rfl, by simp, (by intro v hv; cases hv), fun _ => rfl⟩
   repeat refine zb ?_
   rfl
def aS1 : Int → List ad0 → Int → Prop
 | last, [], t => t = last
 | last, s :: r, t => ajY last s ∧ aS1 s.1 r t
theorem aIL : ∀ (l : List ad0) (last t : Int) (s : ad0), aS1 last l t → ajY t s → aS1 last (l ++ [s]) s.1
 | [], last, t, s, h, hs => by
  have : t = last := h
  subst this; exact ⟨hs, rfl⟩
 | x :: r, last, t, s, h, hs => ⟨h.1, aIL r x.1 t s h.2 hs⟩
theorem aIK : ∀ (l : List ad0) (last t : Int), aS1 last l t → 1 ≤ l.length → t < 1000000 → agZ last (l.set (l.length - 1) (1000000, (l.getD (l.length - 1) (0, 0, 0, 0, 0, 0, ())).2))
 | [], _, _, _, h, _ => absurd h zf
 | [s], last, t, h, _, ht => by
  have h2 : t = s.1 := h.2
  obtain ⟨h3, h4⟩ := h.1
  exact ⟨⟨h3, ⟨by have := h4.1; omega, by show (1000000 : Int) ≤ 1000000; omega⟩⟩, rfl⟩
 | s :: x :: r, last, t, h, _, ht => by
  have := aIK (x :: r) s.1 t h.2 zi ht
  simp only [zG, xx] at this ⊢
  exact ⟨h.1, by simpa using this⟩
theorem awD {a b : Int} (ha : inR a 1 36) (hb : inR b 1 12) : abH (a, b, ()) = some (!decide (Nat.gcd a.natAbs b.natAbs = 1), ()) := by
 unfold abH
 rw [if_pos ⟨ha, hb⟩]
theorem aHR (d : DrT) (hd : aS2 d) : ∃ l, afY (d, ()) = some ((3, [], l, ()), ()) ∧ ab9 l := by
 suffices H : ∃ a, adG (fun i => (ajK d i).toO) (0, 0, true, [], ()) = some a ∧ ∃ l, a = ((3, [], l, ()), ()) ∧ ab9 l by
  obtain ⟨a, h1, l, rfl, h2⟩ := H
  refine ⟨l, ?_, h2⟩
  simp only [afY, ahE]
  exact uO (0, 0, true, [], ()) (uB rfl) h1
 obtain ⟨n, hn⟩ : ∃ n : Nat, n = (if 3 < d.2.2.1.length then 3 else d.2.2.1.length) := ⟨_, rfl⟩
 have hnz : (if 3 < len d.2.2.1 then 3 else len d.2.2.1) = (n : Int) := by
  rw [hn]
  by_cases h : 3 < d.2.2.1.length
  ·rw [if_pos h]; exact (if_pos (by rw [aaC]; omega)).trans rfl
  ·rw [if_neg h]; exact (if_neg (by rw [aaC]; omega)).trans rfl
 have hn3 : n ≤ 3 := by rw [hn]; split <;> omega
 have hnl : n ≤ d.2.2.1.length := by rw [hn]; split <;> omega
 clear hn
 refine acT (fun i : Int × Int × Bool × List ad0 × Unit => ∃ k : Nat, k ≤ n ∧ i.1 = (k : Int) ∧ i.2.2.2.1.length = k ∧ (i.2.2.1 = true → i.2.2.2.1 = []) ∧ (i.2.2.1 = false → 1 ≤ k) ∧ 0 ≤ i.2.1 ∧ i.2.1 ≤ 256000 * (k : Int) ∧ aS1 0 i.2.2.2.1 i.2.1) (fun i => (3 - i.1).toNat) _ ?_ _ ⟨0, by omega, rfl, rfl, fun _ => rfl, (by intro h; cases h), Int.le_refl _, (by show (0 : Int) ≤ _; omega), rfl⟩
 rintro ⟨i, t, b, l, u⟩ ⟨k, h1, h2, h3, h4, h5, h6, h7, h8⟩
 simp only at h2 h3 h4 h5 h6 h7 h8
 subst h2
 simp only [ajK, af5, gP, hnz, aaM, zt]
 rcases zr k n with hk | hk
 ·left
  have hmem : d.2.2.1.getD k (0, 0, 0, 0, 0, 0, ()) ∈ d.2.2.1 := by
   rw [yp, zR zc]; exact yf _
  obtain ⟨p, hp⟩ : ∃ p, p = d.2.2.1.getD k (0, 0, 0, 0, 0, 0, ()) := ⟨_, rfl⟩
  have hpb := hd.2.2 p (by rw [hp]; exact hmem)
  simp only [← hp]
  clear hp hmem
  obtain ⟨w, m, a, o, nu, de, uu⟩ := p
  obtain ⟨b1, b2, b3, b4, b5, b6⟩ := hpb
  simp only [inR] at b1 b2 b3 b4 b5 b6 ⊢
  have q1 : w64 w = w := aaA zc
  have q2 : w64 m = m := aaA zc
  have q3 : w64 a = a := aaA zc
  have q4 : w64 o = o := aaA zc
  have q5 : Int.tmod nu 4 = nu % 4 := zz zc
  have q6 : Int.tmod de 4 = de % 4 := zz zc
  have q7 : w64 (nu % 4) = nu % 4 := aaA zc
  have q8 : w64 (de % 4) = de % 4 := aaA zc
  have q9 : w64 (1 + nu % 4) = 1 + nu % 4 := aaA zc
  have q10 : w64 (1 + de % 4) = 1 + de % 4 := aaA zc
  have q11 : w64 (t + 1000) = t + 1000 := aaA zc
  have q12 : w64 (1000 * w) = 1000 * w := aaA zc
  have q13 : w64 (t + 1000 + 1000 * w) = t + 1000 + 1000 * w := aaA zc
  have q14 : w64 (100 * m) = 100 * m := aaA zc
  have q15 : w64 (10 * a) = 10 * a := aaA zc
  have q16 : w64 (10 * o) = 10 * o := aaA zc
  have q17 : w64 (0 - 100 * m) = 0 - 100 * m := aaA zc
  have q18 : w64 (0 - 10 * a) = 0 - 10 * a := aaA zc
  have q19 : w64 ((k : Int) + 1) = ((k + 1 : Nat) : Int) := by rw [aaA (x := (k : Int) + 1) zc]; omega
  simp only [q1, q2, q3, q4, q5, q6, q7, q8, q9, q10, q11, q12, q13, q14, q15, q16, q17, q18, q19]
  have inv : ∀ M A N D : Int, inR M (-100000000) 100000000 → inR A (-100000000) 100000000 → inR N 1 36 → inR D 1 12 → Nat.gcd N.natAbs D.natAbs = 1 →
    (∃ k' : Nat, k' ≤ n ∧ ((k + 1 : Nat) : Int) = (k' : Int) ∧ (l ++ [((t + 1000 + 1000 * w, M, A, N, D, 10 * o, ()) : ad0)]).length = k' ∧ ((false = true) → l ++ [((t + 1000 + 1000 * w, M, A, N, D, 10 * o, ()) : ad0)] = []) ∧ (false = false → 1 ≤ k') ∧ 0 ≤ t + 1000 + 1000 * w ∧ t + 1000 + 1000 * w ≤ 256000 * (k' : Int) ∧ aS1 0 (l ++ [((t + 1000 + 1000 * w, M, A, N, D, 10 * o, ()) : ad0)]) (t + 1000 + 1000 * w)) := by
   intro M A N D c1 c2 c3 c4 c5
   refine ⟨k + 1, hk, rfl, by simp [h3], (by intro h; cases h), (by intro _; omega), by omega, by omega, ?_⟩
   exact aIL l 0 t (t + 1000 + 1000 * w, M, A, N, D, 10 * o, ()) h8 ⟨⟨c1, c2, ⟨by show -100000000 ≤ 10 * o; omega, by show 10 * o ≤ 100000000; omega⟩, c3, c4, c5⟩, ⟨by show t + 1 ≤ t + 1000 + 1000 * w; omega, by show t + 1000 + 1000 * w ≤ 1000000; omega⟩⟩
  have n1 : inR (1 : Int) 1 36 := zf
  have n2 : inR (1 : Int) 1 12 := zf
  have n3 : inR (1 + nu % 4) 1 36 := ⟨by omega, by omega⟩
  have n4 : inR (1 + de % 4) 1 12 := ⟨by omega, by omega⟩
  have n5 : inR (100 * m) (-100000000) 100000000 := ⟨by omega, by omega⟩
  have n6 : inR (10 * a) (-100000000) 100000000 := ⟨by omega, by omega⟩
  have n7 : inR (if 0 - 100 * m > 100 * m then 0 - 100 * m else 100 * m) (-100000000) 100000000 := by split <;> exact ⟨by omega, by omega⟩
  have n8 : inR (if 0 - 10 * a > 10 * a then 0 - 10 * a else 10 * a) (-100000000) 100000000 := by split <;> exact ⟨by omega, by omega⟩
  have g1 : ∀ D : Int, Nat.gcd (1 : Int).natAbs D.natAbs = 1 := fun D => Nat.gcd_one_left _
  have g2 : ∀ N : Int, Nat.gcd N.natAbs (1 : Int).natAbs = 1 := fun N => Nat.gcd_one_right _
  rcases (xi d.2.2.2.1).symm with hr | hr <;> rcases (xi d.2.2.2.2.1).symm with hi | hi <;> by_cases g : Nat.gcd (1 + nu % 4).natAbs (1 + de % 4).natAbs = 1
  all_goals
   cases b
   ·apply Exists.intro
    refine ⟨?_, ?_, ?_⟩
    ·refine uF rfl (uT (zo zc) (uN ⟨by omega, by rw [aaC]; omega⟩ ?_))
     first | refine uT hr ?_ | refine uF hr ?_
     first | refine uT hi ?_ | refine uF hi ?_
     first | refine uC _ (awD n3 n4) ?_ | refine uC _ (awD n3 n2) ?_
     first | refine uF (congrArg Bool.not (zo g)) ?_ | refine uF (congrArg Bool.not (zo (g2 _))) ?_ | refine uT (congrArg Bool.not (zn g)) ?_
     repeat refine zb ?_
     rfl
    ·exact inv _ _ _ _ zg zg zg zg (by first | exact g | exact g2 _ | exact g1 _)
    ·show (3 - ((k + 1 : Nat) : Int)).toNat < (3 - (k : Int)).toNat; omega
   ·have := h4 rfl
    subst this
    apply Exists.intro
    refine ⟨?_, ?_, ?_⟩
    ·refine uT rfl (uT (zo zc) (uN ⟨by omega, by rw [aaC]; omega⟩ ?_))
     first | refine uT hr ?_ | refine uF hr ?_
     first | refine uT hi ?_ | refine uF hi ?_
     first | refine uC _ (awD n3 n4) ?_ | refine uC _ (awD n3 n2) ?_
     first | refine uF (congrArg Bool.not (zo g)) ?_ | refine uF (congrArg Bool.not (zo (g2 _))) ?_ | refine uT (congrArg Bool.not (zn g)) ?_
     repeat refine zb ?_
     rfl
    ·exact inv _ _ _ _ zg zg zg zg (by first | exact g | exact g2 _ | exact g1 _)
    ·show (3 - ((k + 1 : Nat) : Int)).toNat < (3 - (k : Int)).toNat; omega
 ·right
  obtain rfl : k = n := zc
  have e0 : w64 (1 - 1) = 0 := aaA zc
  cases b
  ·have h5 := h5 rfl
   rcases (xi d.2.2.2.2.1).symm with hi | hi
   ·have e1 : w64 ((k : Int) - 1) = ((k - 1 : Nat) : Int) := by rw [aaA (x := (k : Int) - 1) zc]; omega
    refine ⟨_, uF rfl (uF (zn zc) (uF (beq_eq_false_iff_ne.mpr zc) (uF hi (uN ?_ rfl)))), _, rfl, ?_⟩
    ·rw [e1, aaC]; exact ⟨by omega, by omega⟩
    ·rw [e1, zp, zu, ← h3, zx (by rw [yW]; omega)]
     refine ⟨by rw [yW]; omega, by rw [yW]; omega, aIK l 0 t h8 zc zc⟩
   ·refine ⟨_, uF rfl (uF (zn zc) (uF (beq_eq_false_iff_ne.mpr zc) (uT hi (uN ?_ rfl)))), _, rfl, ?_⟩
    ·rw [aaC]; exact ⟨by simp only [asT]; omega, by omega⟩
    ·rw [e0]
     obtain ⟨s, r, rfl⟩ : ∃ s r, l = s :: r := by
      cases l with
      | nil => simp at h3; omega
      | cons s r => exact ⟨s, r, rfl⟩
     show ab9 [((1000000, s.2) : ad0)]
     exact ⟨zq 1, by show 1 ≤ 4; omega, ⟨h8.1.1, ⟨by show (0 : Int) + 1 ≤ 1000000; omega, by show (1000000 : Int) ≤ 1000000; omega⟩⟩, rfl⟩
  ·have := h4 rfl
   subst this
   have : k = 0 := h3.symm
   subst this
   rcases (xi d.2.2.2.2.1).symm with hi | hi
   ·refine ⟨_, uT rfl (uF (zn zc) (uT rfl (uF hi rfl))), _, rfl, ?_⟩
    rw [e0]; decide
   ·refine ⟨_, uT rfl (uF (zn zc) (uT rfl (uT hi rfl))), _, rfl, ?_⟩
    rw [e0]; decide
theorem aRB (d : DrT) (hd : aS2 d) : ∃ c, akF (d, ()) = some (c, ()) ∧ abW c := by
 obtain ⟨k, ta, pa, ro, ri, u⟩ := d
 obtain ⟨l1, e1, o1⟩ := aOQ _ hd
 obtain ⟨l2, e2, o2⟩ := aHR _ hd
 simp only [akF, anP]
 by_cases c0 : Int.tmod k 4 = 0
 ·exact ⟨(1, [], [], ()), uT (yF.mpr c0) rfl, Or.inl ⟨rfl, rfl, rfl⟩⟩
 ·by_cases c1 : Int.tmod k 4 = 1
  ·refine ⟨(3, [], l2, ()), uF (beq_eq_false_iff_ne.mpr c0) (uT (yF.mpr c1) (uC _ e2 ?_)), Or.inr (Or.inr ⟨rfl, rfl, o2⟩)⟩
   repeat refine zb ?_
   rfl
  ·refine ⟨(2, l1, [], ()), uF (beq_eq_false_iff_ne.mpr c0) (uF (beq_eq_false_iff_ne.mpr c1) (uC _ e1 ?_)), Or.inr (Or.inl ⟨rfl, o1, rfl⟩)⟩
   repeat refine zb ?_
   rfl
theorem aCj (d : DrT) (y) (h : aiI (d, ()) = some y) : (akX d).toO = some y := h
theorem awY (d : DrT) (y) (h : afY (d, ()) = some y) : (ahE d).toO = some y := h
theorem aD9 (d : DrT) (y) (h : akF (d, ()) = some y) : (anP d).toO = some y := h
set_option maxRecDepth 100000
open Go Go.Vg Go.Proofs
noncomputable section
abbrev bT (l : List Int) : List Int := List.take 0 [] ++ List.take (Int.toNat (if 20 < len l then 20 else len l)) l
abbrev bTn (l : List Int) : Nat := 0 + List.length (List.take (Int.toNat (if 20 < len l then 20 else len l)) l)
abbrev bS (l : List (Int × Int × Int × Int × Int × Int × Unit)) : List (Int × Int × Int × Int × Int × Int × Unit) := List.take 0 [] ++ List.take (Int.toNat (if 8 < len l then 8 else len l)) l
abbrev bSn (l : List (Int × Int × Int × Int × Int × Int × Unit)) : Nat := 0 + List.length (List.take (Int.toNat (if 8 < len l then 8 else len l)) l)
abbrev bI (b : Int × Int × Int × Unit) (l : List (Int × Int × Int × Int × Int × Int × Unit)) : Nat := 0 + Int.toNat (Int.tmod (w64 b.2.1) (↑(bSn l) : Int))
abbrev bG (b : Int × Int × Int × Unit) (l : List (Int × Int × Int × Int × Int × Int × Unit)) : Int × Int × Int × Int × Int × Int × Unit := List.getD (bS l) (bI b l) (0, 0, 0, 0, 0, 0, ())
def aOe : LTab := [(37, 15740, 40962, ⟨0, (List Int) × Unit, .app (.c 1 1) 40 3 ud <| .nil, [17, 5, 4, 3, 2], [24, 2, 1, 0], 1⟩), (37, 1007612, 47106, ⟨1, (List uc) × Unit, .dat (.c 1 2) (Ty.sl uP) <| .nil, [5, 4, 3, 2], [14, 2, 1, 0], 1⟩)]
def aBl (b : Int × Int × Int × Unit) (c : Int × List Int × List uc × Unit) (i : (List Int) × Unit) : TT (tH ⊕ uW) :=
 .triv (asT Int 3 ≠ 0) zf <| .ite (decide (len i.1 < w64 (16 + Int.tmod (w64 b.2.1) 3)))
 (.need ((List.length i.1 + 1) * 8 ≤ 140737488355328) <| .tt <| .lt (List.take (List.length i.1) i.1 ++ [w64 (7 * len i.1)] : List Int) fun z1 => .vL (vS (Int.tmod b.1 12) (w64 b.2.1 : Int) <| uw ∧ um ∧ ui ∧ True) <| .need ((((3 : TypeId) = 3) ∧ ((z1 : List Int) = z1)) ∧ (true = true) ∧ (((64 : TypeId) = 64) ∧ ((bS c.2.2.1 : List uc) = bS c.2.2.1)) ∧ (true = true) ∧ (((42 : TypeId) = 42) ∧ (((0 : Int) = 0) ∧ (True ∧ (True ∧ True)))) ∧ (true = true) ∧ (((42 : TypeId) = 42) ∧ (((c.1 : Int) = c.1) ∧ ((((40) = (40)) ∧ (((0) = (0)) ∧ ((List.length i.1 + 1 = List.length z1) ∧ ((true) = (true))))) ∧ ((((24) = (24)) ∧ (((0) = (0)) ∧ (((bSn c.2.2.1) = (bSn c.2.2.1)) ∧ ((true) = (true))))) ∧ True)))) ∧ (true = true) ∧ (((27 : TypeId) = 27) ∧ (((b.1 : Int) = b.1) ∧ (((b.2.1 : Int) = b.2.1) ∧ (((b.2.2.1 : Int) = b.2.2.1) ∧ True)))) ∧ (true = true) ∧ True) <| .ok (.inl ((z1, ()))))
 (.ok (.inr (((c.1, List.take (List.length i.1) i.1, List.take (bSn c.2.2.1) (bS c.2.2.1), ()), ()))))
def aBk (b : Int × Int × Int × Unit) (c : Int × List Int × List uc × Unit) (i1 : (List uc) × Unit) : TT (((List uc) × Unit) ⊕ uW) :=
 .triv (asT Int 2 ≠ 0) zf <| .ite (decide (len i1.1 < w64 (4 + Int.tmod (w64 b.2.1) 2)))
 (.need ((1 + List.length i1.1) * 48 ≤ 140737488355328) <| .tt <| .lt (List.take (1 + List.length i1.1) ([(w64 (1 + len i1.1), 0, 0, 1, 1, 0, ())] ++ i1.1) : List uc) fun z3 => .vL (vM (w64 b.2.1 : Int) <| uw ∧ um ∧ ui ∧ True) <| .vL (vK (vP 3 (bT c.2.1 : List Int)) <| vK (vS 42 (0 : Int) <| True ∧ True ∧ True) <| vK (vS 42 c.1 <| (vQ 14 0 (bTn c.2.1) true) ∧ vU z3) <| vK (vN 27 b.1 b.2.1 b.2.2.1) True) <| .ok (.inl ((z3, ()))))
 (.ok (.inr (((c.1, List.take (bTn c.2.1) (bT c.2.1), i1.1, ()), ()))))
def amP (b : Int × Int × Int × Unit) (c : Int × List Int × List uc × Unit) : TT uW :=
 .tt <| .tt <| .need (inc (if 20 < len c.2.1 then 20 else len c.2.1) (len c.2.1)) <| .need ((bTn c.2.1) * 8 ≤ 140737488355328) <| .need (inc (if 8 < len c.2.2.1 then 8 else len c.2.2.1) (len c.2.2.1)) <| .need ((bSn c.2.2.1) * 48 ≤ 140737488355328) <| .triv (asT Int 12 ≠ 0) zf <| .ite (Int.tmod b.1 12 == 0)
 (.ok (((b.2.2.1, List.take (bTn c.2.1) (bT c.2.1), List.take (bSn c.2.2.1) (bS c.2.2.1), ()), ())))
 (.ite (Int.tmod b.1 12 == 1)
 (.ite (decide ((↑(bTn c.2.1) : Int) > 0))
 (.need ((↑(bTn c.2.1) : Int) ≠ 0) <| .need (inb (Int.tmod (w64 b.2.1) (↑(bTn c.2.1) : Int)) (↑(bTn c.2.1) : Int)) <| .ok (((c.1, List.take (bTn c.2.1) (List.set (bT c.2.1) (0 + Int.toNat (Int.tmod (w64 b.2.1) (↑(bTn c.2.1) : Int))) b.2.2.1), List.take (bSn c.2.2.1) (bS c.2.2.1), ()), ())))
 (.ok (((c.1, List.take (bTn c.2.1) (bT c.2.1), List.take (bSn c.2.2.1) (bS c.2.2.1), ()), ()))))
 (.ite (Int.tmod b.1 12 == 2)
 (.loop 0 (.tt <| .lt (bT c.2.1 : List Int) fun z => .vL (vS (Int.tmod b.1 12) (w64 b.2.1 : Int) <| uw ∧ um ∧ ui ∧ True) <| .need ((((3 : TypeId) = 3) ∧ ((z : List Int) = z)) ∧ (true = true) ∧ (((64 : TypeId) = 64) ∧ ((bS c.2.2.1 : List uc) = bS c.2.2.1)) ∧ (true = true) ∧ (((42 : TypeId) = 42) ∧ (((0 : Int) = 0) ∧ (True ∧ (True ∧ True)))) ∧ (true = true) ∧ (((42 : TypeId) = 42) ∧ (((c.1 : Int) = c.1) ∧ ((((40) = (40)) ∧ (((0) = (0)) ∧ ((bTn c.2.1 = List.length z) ∧ ((true) = (true))))) ∧ ((((24) = (24)) ∧ (((0) = (0)) ∧ (((bSn c.2.2.1) = (bSn c.2.2.1)) ∧ ((true) = (true))))) ∧ True)))) ∧ (true = true) ∧ (((27 : TypeId) = 27) ∧ (((b.1 : Int) = b.1) ∧ (((b.2.1 : Int) = b.2.1) ∧ (((b.2.2.1 : Int) = b.2.2.1) ∧ True)))) ∧ (true = true) ∧ True) <| .ok ((z, ()))) (aBl b c))
 (.ite (Int.tmod b.1 12 == 3)
 (.triv (asT Int 3 ≠ 0) zf <| .need (inc (if Int.tmod (w64 b.2.1) 3 < (↑(bTn c.2.1) : Int) then Int.tmod (w64 b.2.1) 3 else (↑(bTn c.2.1) : Int)) (↑(bTn c.2.1) : Int)) <| .ok (((c.1, List.take (Int.toNat (if Int.tmod (w64 b.2.1) 3 < (↑(bTn c.2.1) : Int) then Int.tmod (w64 b.2.1) 3 else (↑(bTn c.2.1) : Int))) (bT c.2.1), List.take (bSn c.2.2.1) (bS c.2.2.1), ()), ())))
 (.ite (Int.tmod b.1 12 == 4)
 (.need ((bSn c.2.2.1 + 1) * 48 ≤ 140737488355328) <| .ok (((c.1, List.take (bTn c.2.1) (bT c.2.1), List.take (bSn c.2.2.1 + 1) (List.take (bSn c.2.2.1) (bS c.2.2.1) ++ [(1000000, 0, 0, 1, 1, 0, ())]), ()), ())))
 (.ite (Int.tmod b.1 12 == 5)
 (.loop 1 (.tt <| .lt (List.take (bSn c.2.2.1) (bS c.2.2.1) : List uc) fun z2 => .vL (vM (w64 b.2.1 : Int) <| uw ∧ um ∧ ui ∧ True) <| .vL (vK (vP 3 (bT c.2.1 : List Int)) <| vK (vS 42 (0 : Int) <| True ∧ True ∧ True) <| vK (vS 42 c.1 <| (vQ 14 0 (bTn c.2.1) true) ∧ vU z2) <| vK (vN 27 b.1 b.2.1 b.2.2.1) True) <| .ok ((z2, ()))) (aBk b c))
 (.ite (decide ((↑(bSn c.2.2.1) : Int) > 0))
 (.need ((↑(bSn c.2.2.1) : Int) ≠ 0) <| .need (inb (Int.tmod (w64 b.2.1) (↑(bSn c.2.2.1) : Int)) (↑(bSn c.2.2.1) : Int)) <| .triv (asT Int 12 ≠ 0) zf <| .need (inb (wu8 (Int.tmod b.1 12 - 6)) (↑6 : Int)) <| .ite (wu8 (Int.tmod b.1 12 - 6) == (↑5 : Int))
 (.ok (((c.1, List.take (bTn c.2.1) (bT c.2.1), List.take (bSn c.2.2.1) (List.set (bS c.2.2.1) (bI b c.2.2.1) ((bG b c.2.2.1).1, (bG b c.2.2.1).2.1, (bG b c.2.2.1).2.2.1, (bG b c.2.2.1).2.2.2.1, (bG b c.2.2.1).2.2.2.2.1, b.2.2.1, (bG b c.2.2.1).2.2.2.2.2.2)), ()), ())))
 (.ite (wu8 (Int.tmod b.1 12 - 6) == (↑4 : Int))
 (.ok (((c.1, List.take (bTn c.2.1) (bT c.2.1), List.take (bSn c.2.2.1) (List.set (bS c.2.2.1) (bI b c.2.2.1) ((bG b c.2.2.1).1, (bG b c.2.2.1).2.1, (bG b c.2.2.1).2.2.1, (bG b c.2.2.1).2.2.2.1, b.2.2.1, (bG b c.2.2.1).2.2.2.2.2)), ()), ())))
 (.ite (wu8 (Int.tmod b.1 12 - 6) == (↑3 : Int))
 (.ok (((c.1, List.take (bTn c.2.1) (bT c.2.1), List.take (bSn c.2.2.1) (List.set (bS c.2.2.1) (bI b c.2.2.1) ((bG b c.2.2.1).1, (bG b c.2.2.1).2.1, (bG b c.2.2.1).2.2.1, b.2.2.1, (bG b c.2.2.1).2.2.2.2)), ()), ())))
 (.ite (wu8 (Int.tmod b.1 12 - 6) == (↑2 : Int))
 (.ok (((c.1, List.take (bTn c.2.1) (bT c.2.1), List.take (bSn c.2.2.1) (List.set (bS c.2.2.1) (bI b c.2.2.1) ((bG b c.2.2.1).1, (bG b c.2.2.1).2.1, b.2.2.1, (bG b c.2.2.1).2.2.2)), ()), ())))
 (.ite (wu8 (Int.tmod b.1 12 - 6) == (↑1 : Int))
 (.ok (((c.1, List.take (bTn c.2.1) (bT c.2.1), List.take (bSn c.2.2.1) (List.set (bS c.2.2.1) (bI b c.2.2.1) ((bG b c.2.2.1).1, b.2.2.1, (bG b c.2.2.1).2.2)), ()), ())))
 (.ite (wu8 (Int.tmod b.1 12 - 6) == (↑0 : Int))
 (.ok (((c.1, List.take (bTn c.2.1) (bT c.2.1), List.take (bSn c.2.2.1) (List.set (bS c.2.2.1) (bI b c.2.2.1) (b.2.2.1, (bG b c.2.2.1).2)), ()), ())))
 (.bad)))))))
 (.ok (((c.1, List.take (bTn c.2.1) (bT c.2.1), List.take (bSn c.2.2.1) (bS c.2.2.1), ()), ())))))))))
end
noncomputable section
abbrev BeT := Int × Int × Int × Unit
def am8 (x : BeT × CvT × Unit) : Option (CvT × Unit) := (amP x.1 x.2.1).toO
end
set_option maxRecDepth 100000
open Go Go.Vg Go.Proofs
noncomputable section
def aKY : LTab := []
def aj4 (d : Int × List Int × List uc × Bool × Bool × Unit) (b : List (Int × Int × Int × Unit)) : TT (List uf × Unit) :=
 .call (akF ((d.1, d.2.1, d.2.2.1, d.2.2.2.1, d.2.2.2.2.1, ()), ())) aL6 fun y =>
 .triv (asT Int 0 ≤ 0 ∧ 0 < (↑2 : Int)) zf <| .call (am8 (((List.headD b (0, 0, 0, ())).1, (List.headD b (0, 0, 0, ())).2.1, (List.headD b (0, 0, 0, ())).2.2.1, ()), (y.1.1, y.1.2.1, y.1.2.2.1, ()), ())) aL6 fun y1 =>
 .triv (asT Int 0 ≤ 1 ∧ 1 < (↑2 : Int)) zf <| .call (am8 (((List.headD (List.tail b) (0, 0, 0, ())).1, (List.headD (List.tail b) (0, 0, 0, ())).2.1, (List.headD (List.tail b) (0, 0, 0, ())).2.2.1, ()), (y1.1.1, y1.1.2.1, y1.1.2.2.1, ()), ())) aL6 fun y2 =>
 .ok (([((List.headD [(y.1.1, y.1.2.1, y.1.2.2.1, ()), (y1.1.1, y1.1.2.1, y1.1.2.2.1, ()), (y2.1.1, y2.1.2.1, y2.1.2.2.1, ())] (0, [], [], ())).1, (List.headD [(y.1.1, y.1.2.1, y.1.2.2.1, ()), (y1.1.1, y1.1.2.1, y1.1.2.2.1, ()), (y2.1.1, y2.1.2.1, y2.1.2.2.1, ())] (0, [], [], ())).2.1, (List.headD [(y.1.1, y.1.2.1, y.1.2.2.1, ()), (y1.1.1, y1.1.2.1, y1.1.2.2.1, ()), (y2.1.1, y2.1.2.1, y2.1.2.2.1, ())] (0, [], [], ())).2.2.1, ()), ((List.headD (List.tail [(y.1.1, y.1.2.1, y.1.2.2.1, ()), (y1.1.1, y1.1.2.1, y1.1.2.2.1, ()), (y2.1.1, y2.1.2.1, y2.1.2.2.1, ())]) (0, [], [], ())).1, (List.headD (List.tail [(y.1.1, y.1.2.1, y.1.2.2.1, ()), (y1.1.1, y1.1.2.1, y1.1.2.2.1, ()), (y2.1.1, y2.1.2.1, y2.1.2.2.1, ())]) (0, [], [], ())).2.1, (List.headD (List.tail [(y.1.1, y.1.2.1, y.1.2.2.1, ()), (y1.1.1, y1.1.2.1, y1.1.2.2.1, ()), (y2.1.1, y2.1.2.1, y2.1.2.2.1, ())]) (0, [], [], ())).2.2.1, ()), ((List.headD (List.tail (List.tail [(y.1.1, y.1.2.1, y.1.2.2.1, ()), (y1.1.1, y1.1.2.1, y1.1.2.2.1, ()), (y2.1.1, y2.1.2.1, y2.1.2.2.1, ())])) (0, [], [], ())).1, (List.headD (List.tail (List.tail [(y.1.1, y.1.2.1, y.1.2.2.1, ()), (y1.1.1, y1.1.2.1, y1.1.2.2.1, ()), (y2.1.1, y2.1.2.1, y2.1.2.2.1, ())])) (0, [], [], ())).2.1, (List.headD (List.tail (List.tail [(y.1.1, y.1.2.1, y.1.2.2.1, ()), (y1.1.1, y1.1.2.1, y1.1.2.2.1, ()), (y2.1.1, y2.1.2.1, y2.1.2.2.1, ())])) (0, [], [], ())).2.2.1, ())], ()))
end
noncomputable section
def aoH (x : DrT × List BeT × Unit) : Option (List CvT × Unit) := (aj4 x.1 x.2.1).toO
end
end Go.Vs
