/-
  Trees of what the functions compute, and their laws. Own work; no condition.
-/
import Derived.Test.YtakjojajnblpoaaGreatDoorClL6
import Derived.Test.YtakjojajnblpoaaGreatDoorProg
set_option linter.unusedVariables false
set_option linter.unusedSimpArgs false
namespace Go.Vs
open Go Go.Vg
theorem aDP (n a b : Int) (y) (h : acL (n, a, b, ()) = some y) : (aqO n a b).toO = some y := by
 injection h with h
 subst h
 unfold aqO
 dsimp only
 by_cases c : a ≤ n
 ·refine uT (zo c) ?_
  rw [aaI]
  by_cases d : n ≤ b
  ·rw [zo d, zo (show inR n a b from ⟨c, d⟩)]
  ·rw [zn d, zn (fun h : inR n a b => d h.2)]
 ·refine uF (zn c) ?_
  rw [aaI, zn (fun h : inR n a b => c h.1)]
theorem adQ (n a b : Int) : acL (n, a, b, ()) = some (decide (inR n a b), ()) := rfl
theorem aDS (a b : Int) (y) (h : abH (a, b, ()) = some y) : (aqP a b).toO = some y := by
 unfold abH at h
 split at h
 case isFalse => cases h
 case isTrue hp =>
 injection h with h
 subst h
 obtain ⟨⟨a1, a2⟩, b1, b2⟩ := hp
 dsimp only at a1 a2 b1 b2 ⊢
 obtain ⟨m, rfl⟩ := zu (show 0 ≤ a by omega)
 obtain ⟨n, rfl⟩ := zu (show 0 ≤ b by omega)
 unfold aqP
 refine uO (2, ()) rfl ?_
 refine aaK (fun i : Int × Unit => ∃ k : Nat, 2 ≤ k ∧ k ≤ 50 ∧ i.1 = (k : Int) ∧ ∀ j, 2 ≤ j → j < k → ¬ (j ∣ m ∧ j ∣ n)) (fun i => ((60 : Int) - i.1).toNat) (fun _ => (!decide (Nat.gcd (m : Int).natAbs (n : Int).natAbs = 1), ())) ?_ _ ⟨2, by omega, by omega, rfl, fun j h1 h2 => by omega⟩
 rintro ⟨i, u⟩ ⟨k, h1, h1', h2, h3⟩
 dsimp only at h2
 subst h2
 simp only [awG, zK]
 have hstop : ¬ (k ≤ m ∧ k ≤ n) → (!decide (Nat.gcd m n = 1)) = false := by
  intro hk
  refine (fun hg : Nat.gcd m n = 1 => by rw [zo hg]; rfl) ?_
  have g1 : 0 < Nat.gcd m n := Nat.gcd_pos_of_pos_left _ zc
  have g2 := xP m n
  have g3 := xM m n
  have g4 := Nat.le_of_dvd zc g2
  have g5 := Nat.le_of_dvd zc g3
  rcases zr 1 (Nat.gcd m n) with g6 | g6
  ·exact absurd ⟨g2, g3⟩ (h3 _ zc zc)
  ·omega
 have hdiv : ∀ z : Nat, ((Int.tmod (z : Int) (k : Int)) == 0) = decide (k ∣ z) := by
  intro z
  rw [← Int.ofNat_tmod]
  by_cases c : k ∣ z
  ·rw [zo c, Nat.mod_eq_zero_of_dvd c]; rfl
  ·rw [zn c, beq_eq_false_iff_ne]
   intro h
   exact c (Nat.dvd_of_mod_eq_zero zc)
 by_cases c1 : k ≤ m
 ·by_cases c2 : k ≤ n
  ·by_cases d1 : k ∣ m
   ·by_cases d2 : k ∣ n
    ·right
     rw [zn (fun h : Nat.gcd m n = 1 => by have := Nat.dvd_gcd d1 d2; rw [h] at this; have := Nat.le_of_dvd zc this; omega)]
     exact uT sd (uT sd (uN zc (uT (by rw [hdiv]; exact zo d1) (uN zc (uT (by rw [hdiv]; exact zo d2) rfl)))))
    ·left
     refine ⟨(((k + 1 : Nat) : Int), ()), ?_, ⟨k + 1, by omega, by omega, rfl, fun j j1 j2 => ?_⟩, by dsimp only; omega, ze⟩
     ·refine uT sd (uT sd (uN zc (uT (by rw [hdiv]; exact zo d1) (uN zc (uF (by rw [hdiv]; exact zn d2) ?_)))))
      rw [aaA (x := (k : Int) + 1) zc]; rfl
     ·rcases zr j k with hj | hj
      ·exact h3 j j1 hj
      ·obtain rfl : j = k := zc
       exact fun h => d2 h.2
   ·left
    refine ⟨(((k + 1 : Nat) : Int), ()), ?_, ⟨k + 1, by omega, by omega, rfl, fun j j1 j2 => ?_⟩, by dsimp only; omega, ze⟩
    ·refine uT sd (uT sd (uN zc (uF (by rw [hdiv]; exact zn d1) ?_)))
     rw [aaA (x := (k : Int) + 1) zc]; rfl
    ·rcases zr j k with hj | hj
     ·exact h3 j j1 hj
     ·obtain rfl : j = k := zc
      exact fun h => d1 h.1
  ·right
   rw [hstop (fun h => c2 h.2)]
   exact uT sd (uF sd rfl)
 ·right
  rw [hstop (fun h => c1 h.1)]
  exact uF sd rfl
theorem aBt (s : adI) (y) (h : ajV (s, ()) = some y) : (anM s).toO = some y := by
 injection h with h
 subst h
 obtain ⟨till, mul, add, num, den, off, u⟩ := s
 unfold anM
 dsimp only
 refine uC _ (adQ _ _ _) ?_
 by_cases c1 : inR mul (-100000000) 100000000
 case neg => rw [zn (fun h : adL (till, mul, add, num, den, off, u) => c1 h.1)]; exact uF (zn c1) rfl
 refine uT (zo c1) (uC _ (adQ _ _ _) ?_)
 by_cases c2 : inR add (-100000000) 100000000
 case neg => rw [zn (fun h : adL (till, mul, add, num, den, off, u) => c2 h.2.1)]; exact uF (zn c2) rfl
 refine uT (zo c2) (uC _ (adQ _ _ _) ?_)
 by_cases c3 : inR off (-100000000) 100000000
 case neg => rw [zn (fun h : adL (till, mul, add, num, den, off, u) => c3 h.2.2.1)]; exact uF (zn c3) rfl
 refine uT (zo c3) (uC _ (adQ _ _ _) ?_)
 by_cases c4 : inR num 1 36
 case neg => rw [zn (fun h : adL (till, mul, add, num, den, off, u) => c4 h.2.2.2.1)]; exact uF (zn c4) rfl
 refine uT (zo c4) (uC _ (adQ _ _ _) ?_)
 by_cases c5 : inR den 1 12
 case neg => rw [zn (fun h : adL (till, mul, add, num, den, off, u) => c5 h.2.2.2.2.1)]; exact uF (zn c5) rfl
 refine uT (zo c5) (uC (!decide (Nat.gcd num.natAbs den.natAbs = 1), ()) (by unfold abH; rw [if_pos ⟨c4, c5⟩]) ?_)
 rw [aaI]
 by_cases c6 : Nat.gcd num.natAbs den.natAbs = 1
 ·rw [zo (show adL (till, mul, add, num, den, off, u) from ⟨c1, c2, c3, c4, c5, c6⟩), zo c6]; rfl
 ·rw [zn (fun h : adL (till, mul, add, num, den, off, u) => c6 h.2.2.2.2.2), zn c6]; rfl
theorem aDi {c : CvT} (h : shC c) : ag0 (c, ()) = some (decide (abJ c), ()) := by unfold ag0; rw [if_pos h]
theorem aO1 (n d : Int) (y) (h : abT (n, d, ()) = some y) : (aO0 n d).toO = some y := by
 unfold abT ab4 at h
 split at h
 ·rename_i hp
  exact uC (ofQ n d) (by unfold arJ am5; rw [if_pos hp]) h
 ·cases h
theorem adH {n : Int} {d : Nat} (hn : aa3 n) (hd : d ≠ 0) (h2 : d ≤ 9223372036854775807) : abT (n, (d : Int), ()) = some (fx (mkRat n d), ()) := agP hn hd h2
def aIp : Int → List adI → Prop
 | last, [] => last = 1000000
 | last, s :: r => (adL s ∧ last < s.1) ∧ aIp s.1 r
theorem aKB : ∀ (l : List adI) (last : Int), aIp last l → last ≤ 1000000
 | [], _, h => by have : _ = _ := h; omega
 | _ :: r, _, h => by have := aKB r _ h.2; have := h.1.2; omega
theorem anI : ∀ (l : List adI) (last : Int), aIp last l ↔ ahJ last l
 | [], _ => Iff.rfl
 | s :: r, last => by
  constructor
  ·intro h
   have := aKB r _ h.2
   exact ⟨⟨h.1.1, by have := h.1.2; omega, this⟩, (anI r _).1 h.2⟩
  ·intro h
   exact ⟨⟨h.1.1, by have := h.1.2.1; omega⟩, (anI r _).2 h.2⟩
theorem aLX {last : Int} {s : adI} {r : List adI} : aIp last (s :: r) ↔ (adL s ∧ last < s.1) ∧ aIp s.1 r := Iff.rfl
theorem aFI (c : CvT) (y) (h : ag0 (c, ()) = some y) : (auI c).toO = some y := by
 unfold ag0 at h
 split at h
 case isFalse => cases h
 case isTrue hp =>
 injection h with h
 subst h
 obtain ⟨kind, tab, l, u0⟩ := c
 obtain ⟨hs1, hs2⟩ := hp
 dsimp only at hs1 hs2
 unfold auI
 dsimp only
 by_cases k1 : kind = 1
 ·subst k1
  have hd : decide (abJ (1, tab, l, u0)) = decide (tab = [] ∧ l = []) := decide_eq_decide.2 ⟨fun h => by
   rcases h with h | h | h
   ·exact h.2
   ·exact absurd h.1 (by decide : ¬ (1 : Int) = 2)
   ·exact absurd h.1 (by decide : ¬ (1 : Int) = 3), fun h => Or.inl ⟨rfl, h⟩⟩
  rw [hd]
  refine uT rfl ?_
  simp only [al9]
  by_cases a1 : tab = []
  ·refine uT (zo a1) ?_
   rw [aaI]
   by_cases a2 : l = []
   ·rw [zo a2, zo (show tab = [] ∧ l = [] from ⟨a1, a2⟩)]
   ·rw [zn a2, zn (fun h : tab = [] ∧ l = [] => a2 h.2)]
  ·refine uF (zn a1) ?_
   rw [aaI, zn (fun h : tab = [] ∧ l = [] => a1 h.1)]
 refine uF (beq_eq_false_iff_ne.2 k1) ?_
 by_cases k2 : kind = 2
 ·subst k2
  have hd : decide (abJ (2, tab, l, u0)) = decide (adM tab ∧ l = []) := decide_eq_decide.2 ⟨fun h => by
   rcases h with h | h | h
   ·exact absurd h.1 (by decide : ¬ (2 : Int) = 1)
   ·exact h.2
   ·exact absurd h.1 (by decide : ¬ (2 : Int) = 3), fun h => Or.inr (Or.inl ⟨rfl, h⟩)⟩
  rw [hd]
  refine uT rfl (uO (0, ()) rfl ?_)
  refine aaK (fun i : Int × Unit => ∃ k : Nat, k ≤ tab.length ∧ i = ((k : Int), ()) ∧ ∀ v ∈ tab.take k, inR v 0 65535) (fun i => ((tab.length : Int) - i.1).toNat) (fun _ => (decide (adM tab ∧ l = []), ())) ?_ _ ⟨0, by omega, rfl, by simp⟩
  rintro i ⟨k, h3, rfl, h4⟩
  simp only [ayY, aaL]
  rcases zr k tab.length with hk | hk
  ·have e : tab.getD k 0 = tab[k] := by simp [hk]
   rw [e]
   by_cases c : inR tab[k] 0 65535
   ·left
    refine ⟨(((k + 1 : Nat) : Int), ()), ?_, ⟨k + 1, by omega, rfl, ?_⟩, by simp only; omega, ze⟩
    ·refine uT sd (uN sd (uC _ (adQ _ _ _) (uF (by rw [zo c]; rfl) ?_)))
     rw [aaA (x := (k : Int) + 1) zc]
     rfl
    ·intro v hv
     rw [zW hk] at hv
     rcases zJ.1 hv with hv | hv
     ·exact h4 v hv
     ·rw [ya.1 hv]; exact c
   ·right
    rw [zn (fun h : adM tab ∧ l = [] => c (h.1.2.2 _ (ym hk)))]
    exact uT sd (uN sd (uC _ (adQ _ _ _) (uT (by rw [zn c]; rfl) rfl)))
  ·right
   rw [zy hk] at h4
   refine uF sd (uC _ (adQ _ _ _) ?_)
   by_cases c1 : inR (len tab) 2 17
   ·refine uT (zo c1) ?_
    rw [aaI, al9]
    have ht : adM tab := ⟨by have := c1.1; rw [aaB] at this; omega, by have := c1.2; rw [aaB] at this; omega, h4⟩
    by_cases c2 : l = []
    ·rw [zo c2, zo (show adM tab ∧ l = [] from ⟨ht, c2⟩)]
    ·rw [zn c2, zn (fun h : adM tab ∧ l = [] => c2 h.2)]
   ·refine uF (zn c1) ?_
    rw [aaI, zn (fun h : adM tab ∧ l = [] => c1 ⟨by have := h.1.1; rw [aaB]; omega, by have := h.1.2.1; rw [aaB]; omega⟩)]
 refine uF (beq_eq_false_iff_ne.2 k2) ?_
 by_cases k3 : kind = 3
 ·subst k3
  have hd : decide (abJ (3, tab, l, u0)) = decide (tab = [] ∧ acA l) := decide_eq_decide.2 ⟨fun h => by
   rcases h with h | h | h
   ·exact absurd h.1 (by decide : ¬ (3 : Int) = 1)
   ·exact absurd h.1 (by decide : ¬ (3 : Int) = 2)
   ·exact h.2, fun h => Or.inr (Or.inr ⟨rfl, h⟩)⟩
  rw [hd]
  refine uT rfl (uO (0, 0, ()) rfl ?_)
  refine aaK (fun i : Int × Int × Unit => ∃ k : Nat, k ≤ l.length ∧ i.1 = (k : Int) ∧ (aIp 0 l ↔ aIp i.2.1 (l.drop k))) (fun i => ((l.length : Int) - i.1).toNat) (fun _ => (decide (tab = [] ∧ acA l), ())) ?_ _ ⟨0, by omega, rfl, Iff.rfl⟩
  rintro ⟨i, last, u⟩ ⟨k, h3, h4, h6⟩
  dsimp only at h4 h6
  subst h4
  simp only [ayX, aaL]
  rcases zr k l.length with hk | hk
  ·have e : l.getD k zs = l[k] := by simp [hk]
   rw [yu hk, aLX] at h6
   have hv : ajV (((l.getD k zs).1, (l.getD k zs).2.1, (l.getD k zs).2.2.1, (l.getD k zs).2.2.2.1, (l.getD k zs).2.2.2.2.1, (l.getD k zs).2.2.2.2.2.1, ()), ()) = some (decide (adL l[k]), ()) := by
    rw [← e]; rfl
   by_cases c : adL l[k]
   ·by_cases c2 : last < l[k].1
    ·left
     refine ⟨(((k + 1 : Nat) : Int), l[k].1, ()), ?_, ⟨k + 1, by omega, rfl, ⟨fun h => (h6.1 h).2, fun h => h6.2 ⟨⟨c, c2⟩, h⟩⟩⟩, by dsimp only; omega, ze⟩
     refine uT sd (uN sd (uC _ hv (uF (by rw [zo c]; rfl) (uF (zn (by rw [e]; omega)) ?_))))
     rw [aaA (x := (k : Int) + 1) zc, e]
     rfl
    ·right
     rw [zn (fun h : tab = [] ∧ acA l => c2 (h6.1 ((anI _ _).2 h.2.2.2)).1.2)]
     exact uT sd (uN sd (uC _ hv (uF (by rw [zo c]; rfl) (uT (zo (by rw [e]; omega)) rfl))))
   ·right
    rw [zn (fun h : tab = [] ∧ acA l => c (h6.1 ((anI _ _).2 h.2.2.2)).1.1)]
    exact uT sd (uN sd (uC _ hv (uT (by rw [zn c]; rfl) rfl)))
  ·right
   have hkl : k = l.length := zc
   subst hkl
   rw [List.drop_length] at h6
   have h7 : ahJ 0 l ↔ last = 1000000 := by rw [← anI]; exact h6
   refine uF sd (uC _ (adQ _ _ _) ?_)
   by_cases c1 : inR (len l) 1 4
   ·refine uT (zo c1) ?_
    by_cases c2 : last = 1000000
    ·refine uT (yA.2 c2) ?_
     have hs : acA l := ⟨by have := c1.1; rw [aaB] at this; omega, by have := c1.2; rw [aaB] at this; omega, h7.2 c2⟩
     rw [aaI, al9]
     by_cases c3 : tab = []
     ·rw [zo c3, zo (show tab = [] ∧ acA l from ⟨c3, hs⟩)]
     ·rw [zn c3, zn (fun h : tab = [] ∧ acA l => c3 h.1)]
    ·refine uF (beq_eq_false_iff_ne.2 c2) ?_
     rw [aaI, zn (fun h : tab = [] ∧ acA l => c2 (h7.1 h.2.2.2))]
   ·refine uF (zn c1) ?_
    rw [aaI, zn (fun h : tab = [] ∧ acA l => c1 ⟨by have := h.2.1; rw [aaB]; omega, by have := h.2.2.1; rw [aaB]; omega⟩)]
 ·refine uF (beq_eq_false_iff_ne.2 k3) ?_
  rw [aaI, zn (fun h : abJ (kind, tab, l, u0) => by
   rcases h with h | h | h
   ·exact k1 h.1
   ·exact k2 h.1
   ·exact k3 h.1)]
theorem aBv (x : FxT) (y) (h : ahT (x, ()) = some y) : (anR x).toO = some y := by
 unfold ahT acC at h
 obtain ⟨q, hp, hx, rfl⟩ := aaC h
 obtain ⟨rfl, -⟩ := Prod.mk.inj hx
 have i0 : aa3 0 := ⟨by omega, by omega⟩
 have i1 : aa3 1 := ⟨by omega, by omega⟩
 have e0 : mkRat 0 1 = (0 : Rat) := by rw [acJ]; rfl
 have e1 : mkRat 1 1 = (1 : Rat) := by rw [acJ]; rfl
 unfold anR
 refine uC _ (adH (d := 1) i0 zc zc) (uC _ (adH (d := 1) i1 zc zc) ?_)
 exact uC _ (aN6 hp (aa9 i0) (aa9 i1) (by rw [e0, e1]; decide)) (by rw [e0, e1]; rfl)
theorem am2 {q : Rat} (h : acB q) : shF (fx q) := by
 obtain ⟨h1, h2⟩ := h
 unfold Fit at h1 h2
 refine ⟨?_, ?_⟩
 ·show (dec q.num).length ≤ 1000000000000
  have := amH q.num
  omega
 ·show (dec (q.den : Int)).length ≤ 1000000000000
  have := amH (q.den : Int)
  omega
theorem aIx (a b : FxT) (y) (h : agK (a, b, ()) = some y) : (ayT a b).toO = some y := by
 obtain ⟨⟨p, q⟩, ⟨h1, h2⟩, hx, rfl⟩ := aaC h
 obtain ⟨rfl, hx2⟩ := Prod.mk.inj hx; obtain ⟨rfl, -⟩ := Prod.mk.inj hx2; dsimp only
 unfold ayT
 dsimp only at h1 h2 ⊢
 refine uC (axD p q, 0, ()) ?_ ?_
 ·unfold atF agO
  rw [if_pos ⟨am2 h1, am2 h2⟩]
  dsimp only
  rw [ae3 h1, ae3 h2]
 ·rw [aaI]
  by_cases c : p < q
  ·rw [zo c, zo ((ajF p q).2 c)]
  ·rw [zn c, zn (fun h => c ((ajF p q).1 h))]
theorem aIt (b : BdT) (y) (h : atB (b, ()) = some y) : (ayO b).toO = some y := by
 injection h with h
 subst h
 obtain ⟨lo, hi, u⟩ := b
 unfold ayO am6
 rw [aaI]
 dsimp only
 congr 3
 ·split <;> split <;> omega
 ·congr 1; split <;> split <;> omega
theorem aIy (a b : BdT) (y) (h : ak7 (a, b, ()) = some y) : (ayU a b).toO = some y := by
 injection h with h
 subst h
 obtain ⟨lo, hi, u⟩ := a
 obtain ⟨lo', hi', u'⟩ := b
 unfold ayU adA
 rw [aaI]
 dsimp only
 congr 3
 ·split <;> omega
 ·congr 1; split <;> omega
theorem aDT (x : FxT) (y) (h : adN (x, ()) = some y) : (aqQ x).toO = some y := by
 obtain ⟨q, hp, hx, rfl⟩ := aaC h
 obtain ⟨rfl, -⟩ := Prod.mk.inj hx
 unfold aqQ
 refine uC (aeV q q) ?_ rfl
 unfold ai1 ad2
 rw [if_pos (am2 hp)]
 dsimp only
 rw [ae3 hp]
set_option maxRecDepth 100000
open Go Go.Vg Go.Proofs
noncomputable section
def aQ8 : LTab := []
def aAu (p : uo × Int × Bool × Unit) (x : List UInt8 × List UInt8 × Unit) : TT uI :=
 .call (aaJ (p.1.2.1, ())) ac5 fun y =>
 .call (ad6 (y.1, (x.1, x.2.1, ()), ())) adZ fun y1 =>
 .ite (y1.2.1 != 0)
 (.ok (((#[].toList, #[].toList, ()), y1.2.1, ())))
 (.call (aaJ (p.1.2.2.1, ())) ac5 fun y2 =>
 .call (aeO ((y1.1.1, y1.1.2.1, ()), y2.1, ())) adZ fun y3 =>
 .ite (y3.2.1 != 0)
 (.ok (((#[].toList, #[].toList, ()), y3.2.1, ())))
 (.call (aaJ (1000000, ())) ac5 fun y4 =>
 .call (afA ((y3.1.1, y3.1.2.1, ()), y4.1, ())) adZ fun y5 =>
 .ok (((y5.1.1, y5.1.2.1, ()), y5.2.1, ()))))
def aES : LTab := []
def asX (c : uw × Unit) (x : List UInt8 × List UInt8 × Unit) : TT uI :=
 .ok (((x.1, x.2.1, ()), 0, ()))
def aHu : LTab := [(47, 27, 5120, ⟨0, (Int) × (Int) × (Int) × (Int) × (Int) × (Int) × (Int) × (Bool) × Unit, .dat (.c 4 0) uq <| .dat (.c 4 1) uq <| .dat (.c 4 2) uq <| .dat (.c 4 3) uq <| .dat (.c 4 4) uq <| .dat (.c 4 5) uq <| .dat (.c 4 6) uq <| .dat (.c 4 7) se <| .nil, [6, 5, 4, 3], [4, 2, 1, 0], 0⟩), (128, 14, 17408, ⟨1, (Int) × (Int) × (Int) × (Int) × (Int) × (Int) × (Int) × (Int) × (Int) × (Bool) × Unit, .dat (.s 9) uq <| .dat (.s 3) uq <| .dat (.c 4 0) uq <| .dat (.c 4 1) uq <| .dat (.c 4 2) uq <| .dat (.c 4 3) uq <| .dat (.c 4 4) uq <| .dat (.c 4 5) uq <| .dat (.c 4 6) uq <| .dat (.c 4 7) se <| .nil, [8, 7, 0], [11, 7, 4, 2, 1, 0], 0⟩), (47, 447, 19456, ⟨2, (List UInt8) × (List UInt8) × Unit, .dat (.c 15 0) sD <| .dat (.c 15 1) sD <| .nil, [10, 6, 5, 4], [15, 4, 2, 1, 0], 0⟩), (47, 28666, 28672, ⟨3, (Int) × (List UInt8) × (List UInt8) × Unit, .dat (.s 62) uq <| .dat (.c 20 0) sD <| .dat (.c 20 1) sD <| .nil, [61, 15, 14, 6, 4], [20, 15, 4, 2, 1, 0], 0⟩)]
def as0 (c : uw × Unit) (x : List UInt8 × List UInt8 × Unit) (i : (Int) × (Int) × (Int) × (Int) × (Int) × (Int) × (Int) × (Int) × (Int) × (Bool) × Unit) : TT (((Int) × (Int) × (Int) × (Int) × (Int) × (Int) × (Int) × (Int) × (Int) × (Bool) × Unit) ⊕ (((Int) × (Int) × (Int) × (Int) × (Int) × (Int) × (Int) × (Bool) × Unit) ⊕ uI)) :=
 .ite (decide (i.1 < len c.1.2.2.1))
 (.need (inb i.1 (len c.1.2.2.1)) <| .call (ab4 ((gi c.1.2.2.1 i.1 (0, 0, 0, 0, 0, 0, ())).1, 1000000, ())) ac5 fun y =>
 .call (agO ((x.1, x.2.1, ()), y.1, ())) aDr fun y1 =>
 .ite (decide (y1.1 ≤ 0))
 (.tt <| .lt ((gi c.1.2.2.1 i.1 (0, 0, 0, 0, 0, 0, ())).1 : Int) fun z => .lt ((gi c.1.2.2.1 i.1 (0, 0, 0, 0, 0, 0, ())).2.1 : Int) fun z1 => .lt ((gi c.1.2.2.1 i.1 (0, 0, 0, 0, 0, 0, ())).2.2.1 : Int) fun z2 => .lt ((gi c.1.2.2.1 i.1 (0, 0, 0, 0, 0, 0, ())).2.2.2.1 : Int) fun z3 => .lt ((gi c.1.2.2.1 i.1 (0, 0, 0, 0, 0, 0, ())).2.2.2.2.1 : Int) fun z4 => .lt ((gi c.1.2.2.1 i.1 (0, 0, 0, 0, 0, 0, ())).2.2.2.2.2.1 : Int) fun z5 => .lt (i.2.1 : Int) fun z6 => .lt (i.1 == 0 : Bool) fun z7 => .vW (tk ∧ (vX (0 : Int) <| uK ∧ uD ∧ True)) <| .vW (vV (ug 122 z z1 z2 z3 z4 z5 z6 <| uf z7) <| vV (vZ 36 (#[].toList : List UInt8) (#[].toList : List UInt8)) <| vV (vZ 36 x.1 x.2.1) <| vV (vY 96 c.1.1 c.1.2.1 c.1.2.2.1) True) <| .ok (.inr (.inl ((z, z1, z2, z3, z4, z5, z6, z7, ())))))
 (.tt <| .lt (w64 (i.1 + 1) : Int) fun z8 => .lt ((gi c.1.2.2.1 i.1 (0, 0, 0, 0, 0, 0, ())).1 : Int) fun z9 => .lt ((gi c.1.2.2.1 i.1 (0, 0, 0, 0, 0, 0, ())).2.1 : Int) fun z10 => .lt ((gi c.1.2.2.1 i.1 (0, 0, 0, 0, 0, 0, ())).2.2.1 : Int) fun z11 => .lt ((gi c.1.2.2.1 i.1 (0, 0, 0, 0, 0, 0, ())).2.2.2.1 : Int) fun z12 => .lt ((gi c.1.2.2.1 i.1 (0, 0, 0, 0, 0, 0, ())).2.2.2.2.1 : Int) fun z13 => .lt ((gi c.1.2.2.1 i.1 (0, 0, 0, 0, 0, 0, ())).2.2.2.2.2.1 : Int) fun z14 => .lt (i.2.1 : Int) fun z15 => .lt (i.1 == 0 : Bool) fun z16 => .vW (ue z9 z8 (len c.1.2.2.1) c.1.2.2.1 <| tP ∧ True) <| .vW (vV (ul (LoopState.ready : LoopState) (none : Option Code) 86 (#[20] : Array Tmp) (ap4 (aeB Tryz.f47) [1, 0, 1, 1, 0, 1, 0, 0]) (ap4 (aeB Tryz.f47) [1, 0, 1, 1, 0, 1, 0, 1]) <| (vX (128 : FuncId) <| True ∧ tQ ∧ True) ∧ (vX ((c.1.1, c.1.2.1, c.1.2.2.1, ()) : Int × List Int × List uo × Unit) <| ux ∧ (tk ∧ (vX (0 : Int) <| uK ∧ uD ∧ ux ∧ ui c x)))) <| vV (vY 42 c.1.1 c.1.2.1 c.1.2.2.1) <| vV (ug 122 z9 z10 z11 z12 z13 z14 z15 <| uf z16) <| vV (vZ 36 (#[].toList : List UInt8) (#[].toList : List UInt8)) <| vV (vZ 36 x.1 x.2.1) <| vV (vY 96 c.1.1 c.1.2.1 c.1.2.2.1) True) <| .ok (.inl ((z8, z9, z9, z10, z11, z12, z13, z14, z15, z16, ())))))
 (.tt <| .lt (i.2.2.1 : Int) fun z17 => .lt (i.2.2.2.1 : Int) fun z18 => .lt (i.2.2.2.2.1 : Int) fun z19 => .lt (i.2.2.2.2.2.1 : Int) fun z20 => .lt (i.2.2.2.2.2.2.1 : Int) fun z21 => .lt (i.2.2.2.2.2.2.2.1 : Int) fun z22 => .lt (i.2.2.2.2.2.2.2.2.1 : Int) fun z23 => .lt (i.2.2.2.2.2.2.2.2.2.1 : Bool) fun z24 => .vW (tk ∧ (vX (0 : Int) <| uK ∧ uD ∧ True)) <| .vW (vV (ug 122 z17 z18 z19 z20 z21 z22 z23 <| uf z24) <| vV (vZ 36 (#[].toList : List UInt8) (#[].toList : List UInt8)) <| vV (vZ 36 x.1 x.2.1) <| vV (vY 96 c.1.1 c.1.2.1 c.1.2.2.1) True) <| .ok (.inr (.inl ((z17, z18, z19, z20, z21, z22, z23, z24, ())))))
def amN (c : uw × Unit) (x : List UInt8 × List UInt8 × Unit) (j : Int × Int × Int × Int × Int × Int × Int × Bool × Unit) (y2 : ur × Int × Unit) (j1 : List UInt8 × List UInt8 × Unit) (i1 : (Int) × (List UInt8) × (List UInt8) × Unit) : TT so :=
 .ite (decide (i1.1 < w64 (j.2.2.2.1 - 1)))
 (.tt <| .tt <| .call (ad6 ((i1.2.1, i1.2.2.1, ()), (j1.1, j1.2.1, ()), ())) adZ fun y5 =>
 .ite (y5.2.1 != 0)
 (.ok (.inr (((#[].toList, #[].toList, ()), y5.2.1, ()))))
 (.tt <| .lt (w64 (i1.1 + 1) : Int) fun z30 => .lt (y5.1.1 : List UInt8) fun z31 => .lt (y5.1.2.1 : List UInt8) fun z32 => .vW (ud z30 (w64 (j.2.2.2.1 - 1)) <| (vX (103 : FuncId) <| True ∧ tY ∧ sf ∧ True) ∧ tY ∧ tk ∧ uK ∧ True) <| .vW (vV (vZ 36 z31 z32) <| vV (vZ 36 j1.1 j1.2.1) <| vV (ug 122 j.1 j.2.1 j.2.2.1 j.2.2.2.1 j.2.2.2.2.1 j.2.2.2.2.2.1 j.2.2.2.2.2.2.1 <| uf j.2.2.2.2.2.2.2.1) <| vV (vZ 36 (#[].toList : List UInt8) (#[].toList : List UInt8)) <| vV (vZ 36 x.1 x.2.1) <| vV (vY 96 c.1.1 c.1.2.1 c.1.2.2.1) True) <| .ok (.inl ((z30, z31, z32, ())))))
 (.call (ab4 (j.2.2.2.2.2.1, 1000000, ())) ac5 fun y6 =>
 .call (aeO ((i1.2.1, i1.2.2.1, ()), y6.1, ())) adZ fun y7 =>
 .ite (y7.2.1 != 0)
 (.ok (.inr (((#[].toList, #[].toList, ()), y7.2.1, ()))))
 (.call (acC ((y7.1.1, y7.1.2.1, ()), ())) ac5 fun y8 =>
 .ok (.inr (((y8.1.1, y8.1.2.1, ()), 0, ())))))
def asY (c : uw × Unit) (x : List UInt8 × List UInt8 × Unit) (j : Int × Int × Int × Int × Int × Int × Int × Bool × Unit) (y2 : ur × Int × Unit) (j1 : (List UInt8) × (List UInt8) × Unit) : TT uI :=
 .loop 3 (.tt <| .lt (j1.2.1 : List UInt8) fun z29 => .vW (ud (0 : Int) (w64 (j.2.2.2.1 - 1)) <| (vX (103 : FuncId) <| True ∧ tY ∧ sf ∧ True) ∧ tY ∧ tk ∧ uK ∧ True) <| .vW (vV (vZ 36 j1.1 z29) <| vV (vZ 36 j1.1 z29) <| vV (ug 122 j.1 j.2.1 j.2.2.1 j.2.2.2.1 j.2.2.2.2.1 j.2.2.2.2.2.1 j.2.2.2.2.2.2.1 <| uf j.2.2.2.2.2.2.2.1) <| vV (vZ 36 (#[].toList : List UInt8) (#[].toList : List UInt8)) <| vV (vZ 36 x.1 x.2.1) <| vV (vY 96 c.1.1 c.1.2.1 c.1.2.2.1) True) <| .ok ((0, j1.1, z29, ()))) (amN c x j y2 j1)
def asZ (c : uw × Unit) (x : List UInt8 × List UInt8 × Unit) (j : (Int) × (Int) × (Int) × (Int) × (Int) × (Int) × (Int) × (Bool) × Unit) : TT uI :=
 .ite (j.2.2.2.2.1 != 1)
 (.ok (((#[].toList, #[].toList, ()), 5, ())))
 (.call (alO (((j.1, j.2.1, j.2.2.1, j.2.2.2.1, j.2.2.2.2.1, j.2.2.2.2.2.1, ()), j.2.2.2.2.2.2.1, j.2.2.2.2.2.2.2.1, ()), (x.1, x.2.1, ()), ())) adZ fun y2 =>
 .ite (y2.2.1 != 0)
 (.ok (((#[].toList, #[].toList, ()), y2.2.1, ())))
 (.join 2 (ι := (List UInt8) × (List UInt8) × Unit) (.call (atP ((y2.1.1, y2.1.2.1, ()), ())) aDr fun y3 =>
 .ite (decide (y3.1 < 0))
 (.call (aaJ (0, ())) ac5 fun y4 =>
 .tt <| .lt (y4.1.1 : List UInt8) fun z25 => .lt (y4.1.2.1 : List UInt8) fun z26 => .vW sF <| .vW (vV (vZ 36 z25 z26) <| vV (ug 122 j.1 j.2.1 j.2.2.1 j.2.2.2.1 j.2.2.2.2.1 j.2.2.2.2.2.1 j.2.2.2.2.2.2.1 <| uf j.2.2.2.2.2.2.2.1) <| vV (vZ 36 (#[].toList : List UInt8) (#[].toList : List UInt8)) <| vV (vZ 36 x.1 x.2.1) <| vV (vY 96 c.1.1 c.1.2.1 c.1.2.2.1) True) <| .ok (.inl ((z25, z26, ()))))
 (.tt <| .lt (y2.1.1 : List UInt8) fun z27 => .lt (y2.1.2.1 : List UInt8) fun z28 => .vW sF <| .vW (vV (vZ 36 z27 z28) <| vV (ug 122 j.1 j.2.1 j.2.2.1 j.2.2.2.1 j.2.2.2.2.1 j.2.2.2.2.2.1 j.2.2.2.2.2.2.1 <| uf j.2.2.2.2.2.2.2.1) <| vV (vZ 36 (#[].toList : List UInt8) (#[].toList : List UInt8)) <| vV (vZ 36 x.1 x.2.1) <| vV (vY 96 c.1.1 c.1.2.1 c.1.2.2.1) True) <| .ok (.inl ((z27, z28, ()))))) (asY c x j y2)))
def aoA (c : uw × Unit) (x : List UInt8 × List UInt8 × Unit) : TT uI :=
 .join 0 (ι := (Int) × (Int) × (Int) × (Int) × (Int) × (Int) × (Int) × (Bool) × Unit) (.tt <| .tt <| .tt <| .tt <| .loop 1 (.tt <| .vW (ue (0 : Int) (0 : Int) (len c.1.2.2.1) c.1.2.2.1 <| tP ∧ True) <| .vW (vV (ul (LoopState.ready : LoopState) (none : Option Code) 86 (#[20] : Array Tmp) (ap4 (aeB Tryz.f47) [1, 0, 1, 1, 0, 1, 0, 0]) (ap4 (aeB Tryz.f47) [1, 0, 1, 1, 0, 1, 0, 1]) <| (vX (128 : FuncId) <| True ∧ tQ ∧ True) ∧ (vX ((c.1.1, c.1.2.1, c.1.2.2.1, ()) : Int × List Int × List uo × Unit) <| ux ∧ (tk ∧ (vX (0 : Int) <| uK ∧ uD ∧ ux ∧ ui c x)))) <| vV (vY 42 c.1.1 c.1.2.1 c.1.2.2.1) <| vV (ug 122 (0 : Int) (0 : Int) (0 : Int) (0 : Int) (0 : Int) (0 : Int) (0 : Int) <| uf false) <| vV (vZ 36 (#[].toList : List UInt8) (#[].toList : List UInt8)) <| vV (vZ 36 x.1 x.2.1) <| vV (vY 96 c.1.1 c.1.2.1 c.1.2.2.1) True) <| .ok ((0, 0, 0, 0, 0, 0, 0, 0, 0, false, ()))) (as0 c x)) (asZ c x)
def aTy : LTab := []
def aEW (c : Int × List Int × List uo × Unit) (x : List UInt8 × List UInt8 × Unit) : TT uI :=
 .call (ahV ((c.1, c.2.1, c.2.2.1, ()), ())) Dd6 fun y =>
 .ite (y.1 != 0)
 (.ok (((#[].toList, #[].toList, ()), y.1, ())))
 (.call (alN ((x.1, x.2.1, ()), ())) Dd6 fun y1 =>
 .ite (y1.1 != 0)
 (.ok (((#[].toList, #[].toList, ()), y1.1, ())))
 (.need (inb (w64 (c.1 - 1)) (↑3 : Int)) <| .ite (w64 (c.1 - 1) == (↑2 : Int))
 (.call (acC ((x.1, x.2.1, ()), ())) ac5 fun y2 =>
 .call (aj1 (((c.1, c.2.1, c.2.2.1, ()), ()), y2.1, ())) adZ fun y3 =>
 .ok (((y3.1.1, y3.1.2.1, ()), y3.2.1, ())))
 (.ite (w64 (c.1 - 1) == (↑1 : Int))
 (.call (acC ((x.1, x.2.1, ()), ())) ac5 fun y4 =>
 .call (ag5 (((c.1, c.2.1, c.2.2.1, ()), ()), y4.1, ())) adZ fun y5 =>
 .ok (((y5.1.1, y5.1.2.1, ()), y5.2.1, ())))
 (.ite (w64 (c.1 - 1) == (↑0 : Int))
 (.call (acC ((x.1, x.2.1, ()), ())) ac5 fun y6 =>
 .call (ah7 (((c.1, c.2.1, c.2.2.1, ()), ()), y6.1, ())) adZ fun y7 =>
 .ok (((y7.1.1, y7.1.2.1, ()), y7.2.1, ())))
 (.bad)))))
def aO4 : LTab := []
def ayW (s : Int × Int × Int × Int × Int × Int × Unit) (x : List UInt8 × List UInt8 × Unit) : TT uI :=
 .call (abT (s.2.1, 1, ())) ac5 fun y =>
 .call (ah5 (y.1, (x.1, x.2.1, ()), ())) adZ fun y1 =>
 .ite (y1.2.1 != 0)
 (.ok (((#[].toList, #[].toList, ()), y1.2.1, ())))
 (.call (abT (s.2.2.1, 1, ())) ac5 fun y2 =>
 .call (ajY ((y1.1.1, y1.1.2.1, ()), y2.1, ())) adZ fun y3 =>
 .ite (y3.2.1 != 0)
 (.ok (((#[].toList, #[].toList, ()), y3.2.1, ())))
 (.call (abT (1000000, 1, ())) ac5 fun y4 =>
 .call (amX ((y3.1.1, y3.1.2.1, ()), y4.1, ())) adZ fun y5 =>
 .ok (((y5.1.1, y5.1.2.1, ()), y5.2.1, ()))))
def aFH : LTab := [(54, 15, 14336, ⟨0, (List UInt8) × (List UInt8) × Unit, .dat (.c 10 0) sD <| .dat (.c 10 1) sD <| .nil, [6, 5, 4, 2], [10, 2, 1, 0], 0⟩), (54, 506, 17408, ⟨1, (Int) × (List UInt8) × (List UInt8) × Unit, .dat (.s 9) uq <| .dat (.c 15 0) sD <| .dat (.c 15 1) sD <| .nil, [8, 6, 4, 2], [15, 10, 2, 0], 0⟩)]
def arU (s : Int × Int × Int × Int × Int × Int × Unit) (x : List UInt8 × List UInt8 × Unit) (y : ur × Int × Unit) (j : List UInt8 × List UInt8 × Unit) (i : (Int) × (List UInt8) × (List UInt8) × Unit) : TT so :=
 .ite (decide (i.1 < s.2.2.2.1))
 (.call (ah5 ((i.2.1, i.2.2.1, ()), (j.1, j.2.1, ()), ())) adZ fun y4 =>
 .ite (y4.2.1 != 0)
 (.ok (.inr (((#[].toList, #[].toList, ()), y4.2.1, ()))))
 (.tt <| .lt (w64 (i.1 + 1) : Int) fun z5 => .lt (y4.1.1 : List UInt8) fun z6 => .lt (y4.1.2.1 : List UInt8) fun z7 => .vW (vX z5 <| sf ∧ (uk 10 0 true) ∧ uK ∧ ux ∧ True) <| .vW (vV (vZ 36 z6 z7) <| vV (vZ 36 j.1 j.2.1) <| vV (vZ 36 (#[].toList : List UInt8) (#[].toList : List UInt8)) <| vV (un 64 s.1 s.2.1 s.2.2.1 s.2.2.2.1 s.2.2.2.2.1 s.2.2.2.2.2.1) True) <| .ok (.inl ((z5, z6, z7, ())))))
 (.call (abT (s.2.2.2.2.2.1, 1000000, ())) ac5 fun y5 =>
 .call (ajY ((i.2.1, i.2.2.1, ()), y5.1, ())) adZ fun y6 =>
 .ite (y6.2.1 != 0)
 (.ok (.inr (((#[].toList, #[].toList, ()), y6.2.1, ()))))
 (.call (ahT ((y6.1.1, y6.1.2.1, ()), ())) ac5 fun y7 =>
 .ok (.inr (((y7.1.1, y7.1.2.1, ()), 0, ())))))
def arV (s : Int × Int × Int × Int × Int × Int × Unit) (x : List UInt8 × List UInt8 × Unit) (y : ur × Int × Unit) (j : (List UInt8) × (List UInt8) × Unit) : TT uI :=
 .loop 1 (.tt <| .lt (j.2.1 : List UInt8) fun z4 => .vW (vX (1 : Int) <| sf ∧ (uk 10 0 true) ∧ uK ∧ ux ∧ True) <| .vW (vV (vZ 36 j.1 z4) <| vV (vZ 36 j.1 z4) <| vV (vZ 36 (#[].toList : List UInt8) (#[].toList : List UInt8)) <| vV (un 64 s.1 s.2.1 s.2.2.1 s.2.2.2.1 s.2.2.2.2.1 s.2.2.2.2.2.1) True) <| .ok ((1, j.1, z4, ()))) (arU s x y j)
def anN (s : Int × Int × Int × Int × Int × Int × Unit) (x : List UInt8 × List UInt8 × Unit) : TT uI :=
 .call (ak8 ((s.1, s.2.1, s.2.2.1, s.2.2.2.1, s.2.2.2.2.1, s.2.2.2.2.2.1, ()), (x.1, x.2.1, ()), ())) adZ fun y =>
 .ite (y.2.1 != 0)
 (.ok (((#[].toList, #[].toList, ()), y.2.1, ())))
 (.join 0 (ι := (List UInt8) × (List UInt8) × Unit) (.call (abT (0, 1, ())) ac5 fun y1 =>
 .call (agK ((y.1.1, y.1.2.1, ()), y1.1, ())) Dd1 fun y2 =>
 .ite (y2.1)
 (.call (abT (0, 1, ())) ac5 fun y3 =>
 .tt <| .lt (y3.1.1 : List UInt8) fun z => .lt (y3.1.2.1 : List UInt8) fun z1 => .vW si <| .vW (vV (vZ 36 z z1) <| vV (vZ 36 (#[].toList : List UInt8) (#[].toList : List UInt8)) <| vV (vZ 36 x.1 x.2.1) <| vV (un 64 s.1 s.2.1 s.2.2.1 s.2.2.2.1 s.2.2.2.2.1 s.2.2.2.2.2.1) True) <| .ok (.inl ((z, z1, ()))))
 (.tt <| .lt (y.1.1 : List UInt8) fun z2 => .lt (y.1.2.1 : List UInt8) fun z3 => .vW si <| .vW (vV (vZ 36 z2 z3) <| vV (vZ 36 (#[].toList : List UInt8) (#[].toList : List UInt8)) <| vV (vZ 36 x.1 x.2.1) <| vV (un 64 s.1 s.2.1 s.2.2.1 s.2.2.2.1 s.2.2.2.2.1 s.2.2.2.2.2.1) True) <| .ok (.inl ((z2, z3, ()))))) (arV s x y))
def aOZ : LTab := [(53, 26, 4096, ⟨0, (Int) × Unit, .dat (.s 5) uq <| .nil, [3, 2], [1, 0], 0⟩)]
def aB8 (c : Int × List Int × List uo × Unit) (x : List UInt8 × List UInt8 × Unit) (i : (Int) × Unit) : TT (uY ⊕ uS) :=
 .ite (decide (i.1 < len c.2.2.1))
 (.need (inb i.1 (len c.2.2.1)) <| .call (abT ((gi c.2.2.1 i.1 (0, 0, 0, 0, 0, 0, ())).1, 1000000, ())) ac5 fun y =>
 .call (agK (y.1, (x.1, x.2.1, ()), ())) Dd1 fun y1 =>
 .ite (!y1.1)
 (.ok (.inr ((i.1, ()))))
 (.tt <| .lt (w64 (i.1 + 1) : Int) fun z => .vW (vX z <| uD ∧ ux ∧ True) <| .vW (vV (vZ 36 x.1 x.2.1) <| vV (vY 42 c.1 c.2.1 c.2.2.1) True) <| .ok (.inl ((z, ())))))
 (.ok (.inr ((0, ()))))
def ayS (c : Int × List Int × List uo × Unit) (x : List UInt8 × List UInt8 × Unit) : TT uS :=
 .loop 0 (.tt <| .vW (vX (0 : Int) <| uD ∧ ux ∧ True) <| .vW (vV (vZ 36 x.1 x.2.1) <| vV (vY 42 c.1 c.2.1 c.2.2.1) True) <| .ok ((0, ()))) (aB8 c x)
def aL1 : LTab := [(52, 124, 18432, ⟨0, (Int) × Unit, .dat (.s 8) uq <| .nil, [7, 6, 5, 4, 0], [12, 1], 0⟩)]
def aj7 (i : (Int) × Unit) (y1 : ur × Int × Unit) (l : List Int) : TT (uY ⊕ uI) :=
 .call (abT (i.1, 1, ())) ac5 fun y4 =>
 .call (apT ((y1.1.1, y1.1.2.1, ()), y4.1, ())) adZ fun y5 =>
 .ite (y5.2.1 != 0)
 (.ok (.inr (((#[].toList, #[].toList, ()), y5.2.1, ()))))
 (.need (inb (w64 (i.1 + 1)) (len l)) <| .need (inb i.1 (len l)) <| .call (abT (w64 (gi l (w64 (i.1 + 1)) 0 - gi l i.1 0), 1, ())) ac5 fun y6 =>
 .call (ah5 ((y5.1.1, y5.1.2.1, ()), y6.1, ())) adZ fun y7 =>
 .ite (y7.2.1 != 0)
 (.ok (.inr (((#[].toList, #[].toList, ()), y7.2.1, ()))))
 (.need (inb i.1 (len l)) <| .call (abT (gi l i.1 0, 1, ())) ac5 fun y8 =>
 .call (ajY (y8.1, (y7.1.1, y7.1.2.1, ()), ())) adZ fun y9 =>
 .ite (y9.2.1 != 0)
 (.ok (.inr (((#[].toList, #[].toList, ()), y9.2.1, ()))))
 (.call (abT (65535, 1, ())) ac5 fun y10 =>
 .call (amX ((y9.1.1, y9.1.2.1, ()), y10.1, ())) adZ fun y11 =>
 .ok (.inr (((y11.1.1, y11.1.2.1, ()), y11.2.1, ()))))))
def ayP (l : List Int) (x : List UInt8 × List UInt8 × Unit) (y : ur × Unit) (y1 : ur × Int × Unit) (i : (Int) × Unit) : TT (uY ⊕ uI) :=
 .ite (decide (i.1 < w64 (len l - 2)))
 (.call (abT (w64 (i.1 + 1), 1, ())) ac5 fun y2 =>
  .call (agK ((y1.1.1, y1.1.2.1, ()), y2.1, ())) Dd1 fun y3 =>
  .ite (!y3.1)
  (.tt <| .lt (w64 (i.1 + 1) : Int) fun z => .vW (ud z y1.2.1 <| (uk 12 0 true) ∧ (vX (0 : Int) <| uD ∧ uf l)) <| .vW (vV (vZ 36 y1.1.1 y1.1.2.1) <| vV (vZ 36 (#[].toList : List UInt8) (#[].toList : List UInt8)) True) <| .ok (.inl ((z, ()))))
  (aj7 i y1 l))
 (aj7 i y1 l)
def auH (l : List Int) (x : List UInt8 × List UInt8 × Unit) : TT uI :=
 .call (abT (w64 (len l - 1), 1, ())) ac5 fun y =>
 .call (ah5 ((x.1, x.2.1, ()), y.1, ())) adZ fun y1 =>
 .ite (y1.2.1 != 0)
 (.ok (((#[].toList, #[].toList, ()), y1.2.1, ())))
 (.loop 0 (.tt <| .vW (ud (0 : Int) y1.2.1 <| (uk 12 0 true) ∧ (vX (0 : Int) <| uD ∧ uf l)) <| .vW (vV (vZ 36 y1.1.1 y1.1.2.1) <| vV (vZ 36 (#[].toList : List UInt8) (#[].toList : List UInt8)) True) <| .ok ((0, ()))) (ayP l x y y1))
def aO5 : LTab := []
def ayZ (c : Int × List Int × List uo × Unit) (x : List UInt8 × List UInt8 × Unit) : TT uI :=
 .call (ag0 ((c.1, c.2.1, c.2.2.1, ()), ())) Dd1 fun y =>
 .ite (!y.1)
 (.ok (((#[].toList, #[].toList, ()), 90, ())))
 (.call (alC ((x.1, x.2.1, ()), ())) Dd6 fun y1 =>
 .ite (y1.1 != 0)
 (.ok (((#[].toList, #[].toList, ()), y1.1, ())))
 (.call (ahT ((x.1, x.2.1, ()), ())) ac5 fun y2 =>
 .ite (c.1 == 1)
 (.ok (((y2.1.1, y2.1.2.1, ()), 0, ())))
 (.ite (c.1 == 2)
 (.call (apS (c.2.1, (y2.1.1, y2.1.2.1, ()), ())) adZ fun y3 =>
 .ok (((y3.1.1, y3.1.2.1, ()), y3.2.1, ())))
 (.call (ak6 ((c.1, c.2.1, c.2.2.1, ()), (y2.1.1, y2.1.2.1, ()), ())) Dd6 fun y4 =>
 .need (inb y4.1 (len c.2.2.1)) <| .ite ((gi c.2.2.1 y4.1 (0, 0, 0, 0, 0, 0, ())).2.2.2.2.1 != 1)
 (.ok (((#[].toList, #[].toList, ()), 5, ())))
 (.call (ajW (((gi c.2.2.1 y4.1 (0, 0, 0, 0, 0, 0, ())).1, (gi c.2.2.1 y4.1 (0, 0, 0, 0, 0, 0, ())).2.1, (gi c.2.2.1 y4.1 (0, 0, 0, 0, 0, 0, ())).2.2.1, (gi c.2.2.1 y4.1 (0, 0, 0, 0, 0, 0, ())).2.2.2.1, (gi c.2.2.1 y4.1 (0, 0, 0, 0, 0, 0, ())).2.2.2.2.1, (gi c.2.2.1 y4.1 (0, 0, 0, 0, 0, 0, ())).2.2.2.2.2.1, ()), (y2.1.1, y2.1.2.1, ()), ())) adZ fun y5 =>
 .ok (((y5.1.1, y5.1.2.1, ()), y5.2.1, ())))))))
end
theorem axN (q : Rat) : wrF q = anU (abQ q) := by
 unfold wrF abQ
 by_cases c : acB q
 ·rw [if_pos c, if_pos c]; rfl
 ·rw [if_neg c, if_neg c]; rfl
theorem abE {q p : Rat} (h : abQ q = some p) : acB p ∧ p = q := by
 unfold abQ at h
 split at h
 ·injection h with h; subst h; exact ⟨by assumption, rfl⟩
 ·cases h
theorem ap3 {p q : Rat} (h1 : acB p) (h2 : acB q) : ad6 (fx p, fx q, ()) = some (anU (abQ (p * q))) := by
 unfold ad6 aOf; dsimp only; rw [ae3 h1, ae3 h2, ← axN]
theorem ax4 {p q : Rat} (h1 : acB p) (h2 : acB q) : aeO (fx p, fx q, ()) = some (anU (abQ (p + q))) := by
 unfold aeO aOf; dsimp only; rw [ae3 h1, ae3 h2, ← axN]
theorem aLz {p q : Rat} (h1 : acB p) (h2 : acB q) : afS (fx p, fx q, ()) = some (anU (abQ (p - q))) := by
 unfold afS aOf; dsimp only; rw [ae3 h1, ae3 h2, ← axN]
theorem aFd {p q : Rat} (h1 : acB p) (h2 : acB q) (h3 : q ≠ 0) : afA (fx p, fx q, ()) = some (anU (abQ (p / q))) := by
 unfold afA; dsimp only; rw [ae3 h1, ae3 h2]; dsimp only; rw [if_neg h3, ← axN]
theorem alS {p q : Rat} (h1 : acB p) (h2 : acB q) : ah5 (fx p, fx q, ()) = some (anU (abQ (p * q))) := by
 unfold ah5; rw [if_pos ⟨am2 h1, am2 h2⟩]; exact ap3 h1 h2
theorem atX {p q : Rat} (h1 : acB p) (h2 : acB q) : ajY (fx p, fx q, ()) = some (anU (abQ (p + q))) := by
 unfold ajY; rw [if_pos ⟨am2 h1, am2 h2⟩]; exact ax4 h1 h2
theorem aHR {p q : Rat} (h1 : acB p) (h2 : acB q) : apT (fx p, fx q, ()) = some (anU (abQ (p - q))) := by
 unfold apT; rw [if_pos ⟨am2 h1, am2 h2⟩]; exact aLz h1 h2
theorem aBc {p q : Rat} (h1 : acB p) (h2 : acB q) (h3 : q ≠ 0) : amX (fx p, fx q, ()) = some (anU (abQ (p / q))) := by
 unfold amX; rw [if_pos ⟨am2 h1, am2 h2⟩]; exact aFd h1 h2 h3
theorem az1 {n : Int} (h : n ≠ 0) : mkRat n 1 ≠ 0 := by
 rw [acJ]; intro e; exact h (Rat.intCast_eq_zero_iff.1 e)
theorem af9 {n a b : Int} (h : inR n a b) (h1 : -9223372036854775808 ≤ a) (h2 : b ≤ 9223372036854775807) : aa3 n := ⟨by have := h.1; omega, by have := h.2; omega⟩
theorem aJY (p : PcT) (x : FxT) (y) (h : alO (p, x, ()) = some y) : (aAu p x).toO = some y := by
 obtain ⟨⟨p', q⟩, ⟨hq, hn⟩, hx, rfl⟩ := aaC h
 obtain ⟨rfl, hx2⟩ := Prod.mk.inj hx; obtain ⟨rfl, -⟩ := Prod.mk.inj hx2; dsimp only
 dsimp only at hq hn
 have im := af9 hn.1 zc zc
 have ia := af9 hn.2.1 zc zc
 have i6 : aa3 1000000 := ⟨by omega, by omega⟩
 unfold aAu
 unfold asG
 refine uC _ (acN im) (uC _ (ap3 (aa9 im) hq) ?_)
 cases h1 : abQ (mkRat p.1.2.1 1 * q) with
 | none => exact uT rfl rfl
 | some u =>
  have hu := (abE h1).1
  refine uF rfl (uC _ (acN ia) (uC _ (ax4 hu (aa9 ia)) ?_))
  simp only [zP]
  cases h2 : abQ (u + mkRat p.1.2.2.1 1) with
  | none => exact uT rfl rfl
  | some v =>
   have hv := (abE h2).1
   exact uF rfl (uC _ (acN i6) (uC _ (aFd hv (aa9 i6) (az1 zc)) rfl))
theorem ac4 {n : Int} (hn : aa3 n) : abT (n, 1, ()) = some (fx (mkRat n 1), ()) := adH (d := 1) hn zc zc
theorem aIB (s : adI) (x : FxT) (y) (h : ak8 (s, x, ()) = some y) : (ayW s x).toO = some y := by
 obtain ⟨⟨s', q⟩, ⟨hq, hn⟩, hx, rfl⟩ := aaC h
 obtain ⟨rfl, hx2⟩ := Prod.mk.inj hx; obtain ⟨rfl, -⟩ := Prod.mk.inj hx2; dsimp only
 dsimp only at hq hn
 have im := af9 hn.1 zc zc
 have ia := af9 hn.2.1 zc zc
 have i6 : aa3 1000000 := ⟨by omega, by omega⟩
 unfold ayW
 unfold asG
 refine uC _ (ac4 im) (uC _ (alS (aa9 im) hq) ?_)
 cases h1 : abQ (mkRat s.2.1 1 * q) with
 | none => exact uT rfl rfl
 | some u =>
  have hu := (abE h1).1
  refine uF rfl (uC _ (ac4 ia) (uC _ (atX hu (aa9 ia)) ?_))
  simp only [zP]
  cases h2 : abQ (u + mkRat s.2.2.1 1) with
  | none => exact uT rfl rfl
  | some v =>
   have hv := (abE h2).1
   exact uF rfl (uC _ (ac4 i6) (uC _ (aBc hv (aa9 i6) (az1 zc)) rfl))
theorem aG8 : acB 0 := by have := aa9 (n := 0) ⟨by omega, by omega⟩; rwa [acJ] at this
theorem aVZ : mkRat 0 1 = (0 : Rat) := by rw [acJ]; rfl
theorem aKS {u : Rat} (h : acB u) : acB (aI0 u) := by
 unfold aI0; split
 ·exact aG8
 ·exact h
theorem afX {n : Int} (h : aa3 n) : acB (mkRat n 1000000) := aeL zc (abK h) (abK ⟨by omega, by omega⟩)
theorem awE (u : Rat) : u.num.sign < 0 ↔ u < 0 := by
 have e : u < 0 ↔ u.num < 0 := by rw [← wy, ← Rat.num_nonneg]; omega
 rw [e]
 constructor
 ·intro h
  rcases xn u.num 0 with g | g | g
  ·exact g
  ·rw [g] at h; exact absurd h zf
  ·rw [xh g] at h; omega
 ·intro h; rw [yH h]; omega
noncomputable def aTZ (off : Int) (y : Rat) : Option Rat := (abQ (y + mkRat off 1000000)).map afF
theorem aqM : ∀ (l : List adI) (last : Int), ahJ last l → last ≠ 1000000 → ∃ s ∈ l, s.1 = 1000000
 | [], _, h, hn => absurd h hn
 | s :: r, last, h, _ => by
  by_cases c : s.1 = 1000000
  ·exact ⟨s, zZ .., c⟩
  ·obtain ⟨t, ht, e⟩ := aqM r s.1 h.2 c
   exact ⟨t, zM _ ht, e⟩
theorem aQa : mkRat 1000000 1000000 = (1 : Rat) := zf
theorem aD4 {x : Rat} {l : List adI} (h : acA l) (hx : x ≤ 1) : afL x l < l.length := by
 obtain ⟨s, hs, e⟩ := aqM l 0 h.2.2 zc
 exact List.findIdx_lt_length_of_exists ⟨s, hs, zo (by rw [e, aQa]; exact hx)⟩
theorem aB2 : ∀ (l : List adI) (last : Int), 0 ≤ last → ahJ last l → ∀ s ∈ l, adL s ∧ inR s.1 0 1000000
 | [], _, _, _, s, hs => by cases hs
 | t :: r, last, h0, h, s, hs => by
  have a := h.1.2.1
  rcases zx.1 hs with e | e
  ·subst e; exact ⟨h.1.1, by omega, h.1.2.2⟩
  ·exact aB2 r t.1 zc h.2 s e
theorem avP (c : CvT × Unit) (x : FxT) (j : Int × Int × Int × Int × Int × Int × Int × Bool × Unit) (y2 : FxT × Int × Unit) (u : Rat) (hu : acB u) (h1 : inR j.2.2.2.1 1 36) (io : aa3 j.2.2.2.2.2.1) :
  adK (fun i1 => (amN c x j y2 (fx u) i1).toO) (0, dec u.num, aa4 u.den, ()) = some (anU ((acX u (j.2.2.2.1 - 1).toNat u).bind (aTZ j.2.2.2.2.2.1))) := by
 obtain ⟨n, hn⟩ : ∃ n : Nat, j.2.2.2.1 - 1 = (n : Int) := zu (by have := h1.1; omega)
 have hn2 : n ≤ 35 := by have := h1.2; omega
 have hw : w64 (j.2.2.2.1 - 1) = (n : Int) := by rw [aaA zc]; exact hn
 rw [hn, zp]
 refine aaK (fun i : Int × List UInt8 × List UInt8 × Unit => ∃ (k : Nat) (q : Rat), k ≤ n ∧ i = ((k : Int), dec q.num, aa4 q.den, ()) ∧ acB q ∧ acX u n u = acX u (n - k) q) (fun i => ((n : Int) - i.1).toNat) (fun _ => anU ((acX u n u).bind (aTZ j.2.2.2.2.2.1))) ?_ _ ⟨0, u, by omega, rfl, hu, rfl⟩
 rintro i ⟨k, q, k1, rfl, hq, k2⟩
 simp only [amN, hw]
 rcases zr k n with hk | hk
 ·obtain ⟨m, hm⟩ : ∃ m, n - k = m + 1 := ⟨n - k - 1, by omega⟩
  rw [hm, show acX u (m + 1) q = (abQ (q * u)).bind (acX u m) from rfl] at k2
  cases h2 : abQ (q * u) with
  | none =>
   right
   rw [h2] at k2
   rw [k2]
   exact uT sd (uC _ (ap3 hq hu) (by rw [h2]; exact uT rfl rfl))
  | some w =>
   left
   rw [h2] at k2
   refine ⟨(((k + 1 : Nat) : Int), dec w.num, aa4 w.den, ()), ?_, ⟨k + 1, w, by omega, rfl, (abE h2).1, ?_⟩, by dsimp only; omega, ze⟩
   ·refine uT sd (uC _ (ap3 hq hu) ?_)
    rw [h2]
    refine uF rfl ?_
    rw [aaA (x := (k : Int) + 1) zc]
    rfl
   ·rw [k2, show n - (k + 1) = m by omega]; rfl
 ·right
  obtain rfl : k = n := zc
  rw [Nat.sub_self, show acX u 0 q = some q from rfl] at k2
  rw [k2]
  refine uF sd (uC _ (agP (d := 1000000) io zc zc) (uC _ (ax4 hq (afX io)) ?_))
  simp only [zP, aTZ]
  cases h3 : abQ (q + mkRat j.2.2.2.2.2.1 1000000) with
  | none => exact uT rfl rfl
  | some w => exact uF rfl (uC _ (ae2 (abE h3).1) rfl)
theorem aBu (s : adI) (x : FxT) (y) (h : ajW (s, x, ()) = some y) : (anN s x).toO = some y := by
 obtain ⟨⟨s', q⟩, ⟨hq, hn⟩, hx, rfl⟩ := aaC h
 obtain ⟨rfl, hx2⟩ := Prod.mk.inj hx; obtain ⟨rfl, -⟩ := Prod.mk.inj hx2; dsimp only
 dsimp only at hq hn
 have io := af9 hn.2.2.1 zc zc
 have h1 := hn.2.2.2.1
 have i0 : aa3 0 := ⟨by omega, by omega⟩
 unfold anN aEr
 refine uC _ (aaE (enc := fun p : adI × Rat => (p.1, fx p.2, ())) (s, q) ⟨hq, hn⟩ (fun b hb => by
  obtain ⟨e1, e2⟩ := Prod.mk.inj hb
  obtain ⟨e2, -⟩ := Prod.mk.inj e2
  exact Prod.ext e1 (ad8 e2))) ?_
 dsimp only
 cases hl : asG s.2.1 s.2.2.1 q with
 | none => exact uT rfl rfl
 | some u =>
  have hu : acB u := by
   unfold asG at hl
   cases g1 : abQ (mkRat s.2.1 1 * q) with
   | none => rw [g1] at hl; cases hl
   | some w =>
    rw [g1] at hl; simp only [zP] at hl
    cases g2 : abQ (w + mkRat s.2.2.1 1) with
    | none => rw [g2] at hl; cases hl
    | some v => rw [g2] at hl; exact (abE hl).1
  refine uF rfl ?_
  have hp := aKS hu
  have hless : agK (fx u, fx (mkRat 0 1), ()) = some (decide (u < mkRat 0 1), ()) := aaE (enc := fun p : Rat × Rat => (fx p.1, fx p.2, ())) (u, mkRat 0 1) ⟨hu, aa9 i0⟩ (fun b hb => by
   obtain ⟨e1, e2⟩ := Prod.mk.inj hb
   obtain ⟨e2, -⟩ := Prod.mk.inj e2
   exact Prod.ext (ad8 e1) (ad8 e2))
  refine uL (fx (aI0 u)) ?_ ?_
  ·refine uC _ (ac4 i0) (uC _ hless ?_)
   unfold aI0
   by_cases c : u < 0
   ·rw [if_pos c]
    exact uT (zo (by rw [aVZ]; exact c)) (uC _ (ac4 i0) (by rw [aVZ]; rfl))
   ·rw [if_neg c]
    exact uF (zn (by rw [aVZ]; exact c)) rfl
  ·simp only [zP]
   generalize aI0 u = u at hp ⊢
   unfold arV
   obtain ⟨n, hn'⟩ : ∃ n : Nat, s.2.2.2.1 - 1 = (n : Int) := zu (by have := h1.1; omega)
   have hn2 : n ≤ 35 := by have := h1.2; omega
   have hs : s.2.2.2.1 = (n : Int) + 1 := zc
   rw [hn', zp]
   refine uO (1, dec u.num, aa4 u.den, ()) rfl ?_
   refine aaK (fun i : Int × List UInt8 × List UInt8 × Unit => ∃ (k : Nat) (q : Rat), k ≤ n ∧ i = ((k : Int) + 1, dec q.num, aa4 q.den, ()) ∧ acB q ∧ acX u n u = acX u (n - k) q) (fun i => ((n : Int) + 1 - i.1).toNat) (fun _ => anU ((acX u n u).bind (aTZ s.2.2.2.2.2.1))) ?_ _ ⟨0, u, by omega, rfl, hp, rfl⟩
   rintro i ⟨k, q, k1, rfl, hq, k2⟩
   simp only [arU, hs]
   rcases zr k n with hk | hk
   ·obtain ⟨m, hm⟩ : ∃ m, n - k = m + 1 := ⟨n - k - 1, by omega⟩
    rw [hm, show acX u (m + 1) q = (abQ (q * u)).bind (acX u m) from rfl] at k2
    cases h2 : abQ (q * u) with
    | none =>
     right
     rw [h2] at k2
     rw [k2]
     exact uT sd (uC _ (alS hq hp) (by rw [h2]; exact uT rfl rfl))
    | some w =>
     left
     rw [h2] at k2
     refine ⟨(((k + 1 : Nat) : Int) + 1, dec w.num, aa4 w.den, ()), ?_, ⟨k + 1, w, by omega, rfl, (abE h2).1, ?_⟩, by dsimp only; omega, ze⟩
     ·refine uT sd (uC _ (alS hq hp) ?_)
      rw [h2]
      refine uF rfl ?_
      rw [aaA (x := (k : Int) + 1 + 1) zc]
      rfl
     ·rw [k2, show n - (k + 1) = m by omega]; rfl
   ·right
    obtain rfl : k = n := zc
    rw [Nat.sub_self, show acX u 0 q = some q from rfl] at k2
    rw [k2]
    refine uF sd (uC _ (adH (d := 1000000) io zc zc) (uC _ (atX hq (afX io)) ?_))
    simp only [zP, aTZ]
    cases h3 : abQ (q + mkRat s.2.2.2.2.2.1 1000000) with
    | none => exact uT rfl rfl
    | some w => exact uF rfl (uC _ (ae2 (abE h3).1) rfl)
theorem avB {l : List adI} {k : Nat} (hk : k < l.length) : l.getD k zs = l[k] := by simp [hk]
theorem aKU {x : Rat} {l : List adI} {k : Nat} (hk : k < l.length) (h1 : x ≤ mkRat (l.getD k zs).1 1000000) (h2 : ∀ j, j < k → ¬ x ≤ mkRat (l.getD j zs).1 1000000) : afL x l = k := by
 unfold afL
 refine (List.findIdx_eq hk).2 ⟨?_, fun j hj => ?_⟩
 ·rw [avB hk] at h1
  exact zo h1
 ·have := h2 j hj
  rw [avB (show j < l.length by omega)] at this
  exact zn this
theorem aKT {x : Rat} {l : List adI} {k : Nat} (h2 : ∀ j, j < k → ¬ x ≤ mkRat (l.getD j zs).1 1000000) (hp : afL x l < l.length) : k ≤ afL x l := by
 rcases zr (afL x l) k with h | h
 ·refine absurd ?_ (h2 _ h)
  have := List.findIdx_getElem (p := fun s : adI => decide (x ≤ mkRat s.1 1000000)) (xs := l) (w := hp)
  rw [avB hp]
  exact of_decide_eq_true this
 ·exact h
theorem aqN {l : List adI} (h : acA l) {k : Nat} (hk : k < l.length) : adL (l.getD k zs) ∧ inR (l.getD k zs).1 0 1000000 := by
 refine aB2 l 0 zc h.2.2 _ ?_
 rw [avB hk]
 exact ym hk
theorem alQ {p q : Rat} (h1 : acB p) (h2 : acB q) : agK (fx p, fx q, ()) = some (decide (p < q), ()) := aaE (enc := fun p : Rat × Rat => (fx p.1, fx p.2, ())) (p, q) ⟨h1, h2⟩ (fun b hb => by
 obtain ⟨e1, e2⟩ := Prod.mk.inj hb
 obtain ⟨e2, -⟩ := Prod.mk.inj e2
 exact Prod.ext (ad8 e1) (ad8 e2))
theorem aIw (c : CvT) (x : FxT) (y) (h : ak6 (c, x, ()) = some y) : (ayS c x).toO = some y := by
 obtain ⟨⟨c', q⟩, ⟨hq, hx1, hl⟩, hx, rfl⟩ := aaC h
 obtain ⟨rfl, hx2⟩ := Prod.mk.inj hx; obtain ⟨rfl, -⟩ := Prod.mk.inj hx2; dsimp only
 dsimp only at hq hx1 hl
 have hlen := hl.2.1
 have hp := aD4 hl hx1
 unfold ayS
 refine uO (0, ()) rfl ?_
 refine aaK (fun i : Int × Unit => ∃ k : Nat, k ≤ c.2.2.1.length ∧ i = ((k : Int), ()) ∧ ∀ j, j < k → ¬ q ≤ mkRat (c.2.2.1.getD j zs).1 1000000) (fun i => ((c.2.2.1.length : Int) - i.1).toNat) (fun _ => ((afL q c.2.2.1 : Int), ())) ?_ _ ⟨0, by omega, rfl, fun j hj => by omega⟩
 rintro i ⟨k, h3, rfl, h4⟩
 simp only [aB8, aaL]
 have hk := aKT h4 hp
 have hk' : k < c.2.2.1.length := zc
 have hi := af9 (aqN hl hk').2 zc zc
 by_cases g : q ≤ mkRat (c.2.2.1.getD k zs).1 1000000
 ·right
  rw [aKU hk' g h4]
  exact uT sd (uN sd (uC _ (adH (d := 1000000) hi zc zc) (uC _ (alQ (afX hi) hq) (uT (by rw [zn (vP.2 g)]; rfl) rfl))))
 ·left
  refine ⟨(((k + 1 : Nat) : Int), ()), ?_, ⟨k + 1, by omega, rfl, fun j hj => ?_⟩, by dsimp only; omega, ze⟩
  ·refine uT sd (uN sd (uC _ (adH (d := 1000000) hi zc zc) (uC _ (alQ (afX hi) hq) (uF (by rw [zo (wy.1 g)]; rfl) ?_))))
   rw [aaA (x := (k : Int) + 1) zc]; rfl
  ·rcases zr j k with g2 | g2
   ·exact h4 j g2
   ·obtain rfl : j = k := zc
    exact g
theorem aBj {p : PcT} {q : Rat} (h1 : acB q) (h2 : adL p.1) : alO (p, fx q, ()) = some (anU (asG p.1.2.1 p.1.2.2.1 q)) := aaE (enc := fun p : PcT × Rat => (p.1, fx p.2, ())) (p, q) ⟨h1, h2⟩ (fun b hb => by
 obtain ⟨e1, e2⟩ := Prod.mk.inj hb
 obtain ⟨e2, -⟩ := Prod.mk.inj e2
 exact Prod.ext e1 (ad8 e2))
theorem aQd {m a : Int} {x u : Rat} (hl : asG m a x = some u) : acB u := by
 unfold asG at hl
 cases g1 : abQ (mkRat m 1 * x) with
 | none => rw [g1] at hl; cases hl
 | some w =>
  rw [g1] at hl; simp only [zP] at hl
  cases g2 : abQ (w + mkRat a 1) with
  | none => rw [g2] at hl; cases hl
  | some v => rw [g2] at hl; exact (abE hl).1
theorem aBJ (c : CvT × Unit) (x : FxT) (y) (h : aj1 (c, x, ()) = some y) : (aoA c x).toO = some y := by
 obtain ⟨⟨c', q⟩, ⟨hq, hx1, hl⟩, hx, rfl⟩ := aaC h
 obtain ⟨rfl, hx2⟩ := Prod.mk.inj hx; obtain ⟨rfl, -⟩ := Prod.mk.inj hx2; dsimp only
 dsimp only at hq hx1 hl
 have hlen := hl.2.1
 have hp := aD4 hl hx1
 obtain ⟨kind, tab, l, u0⟩ := c'
 dsimp only at hl hlen hp
 unfold aoA
 dsimp only
 have hsg := aqN hl hp
 refine uL ((l.getD (afL q l) zs).1, (l.getD (afL q l) zs).2.1, (l.getD (afL q l) zs).2.2.1, (l.getD (afL q l) zs).2.2.2.1, (l.getD (afL q l) zs).2.2.2.2.1, (l.getD (afL q l) zs).2.2.2.2.2.1, abC l (afL q l), (afL q l : Int) == 0, ()) ?_ ?_
 ·refine uO (0, 0, 0, 0, 0, 0, 0, 0, 0, false, ()) rfl ?_
  refine aaK (fun i : Int × Int × Int × Int × Int × Int × Int × Int × Int × Bool × Unit => ∃ k : Nat, k ≤ l.length ∧ i.1 = (k : Int) ∧ i.2.1 = abC l k ∧ ∀ j, j < k → ¬ q ≤ mkRat (l.getD j zs).1 1000000) (fun i => ((l.length : Int) - i.1).toNat) (fun _ => Sum.inl ((l.getD (afL q l) zs).1, (l.getD (afL q l) zs).2.1, (l.getD (afL q l) zs).2.2.1, (l.getD (afL q l) zs).2.2.2.1, (l.getD (afL q l) zs).2.2.2.2.1, (l.getD (afL q l) zs).2.2.2.2.2.1, abC l (afL q l), (afL q l : Int) == 0, ())) ?_ _ ⟨0, by omega, rfl, rfl, fun j hj => by omega⟩
  rintro ⟨i, last, r⟩ ⟨k, h3, h5, h6, h4⟩
  dsimp only at h5 h6
  subst h5
  simp only [as0, aaL]
  have hk := aKT h4 hp
  have hk' : k < l.length := zc
  have hi := af9 (aqN hl hk').2 zc zc
  by_cases g : q ≤ mkRat (l.getD k zs).1 1000000
  ·right
   rw [aKU hk' g h4, ← h6]
   exact uT sd (uN sd (uC _ (agP (d := 1000000) hi zc zc) (uC _ (aFe hq (afX hi)) (uT (zo ((aD9 _ _).2 g)) rfl))))
  ·left
   refine ⟨(((k + 1 : Nat) : Int), (l.getD k zs).1, (l.getD k zs).1, (l.getD k zs).2.1, (l.getD k zs).2.2.1, (l.getD k zs).2.2.2.1, (l.getD k zs).2.2.2.2.1, (l.getD k zs).2.2.2.2.2.1, last, (k : Int) == 0, ()), ?_, ⟨k + 1, by omega, rfl, ?_, fun j hj => ?_⟩, by dsimp only; omega, ze⟩
   ·refine uT sd (uN sd (uC _ (agP (d := 1000000) hi zc zc) (uC _ (aFe hq (afX hi)) (uF (zn (fun h => g ((aD9 _ _).1 h))) ?_))))
    rw [aaA (x := (k : Int) + 1) zc]; rfl
   ·unfold abC; rw [if_neg zc, xB]
   ·rcases zr j k with g2 | g2
    ·exact h4 j g2
    ·obtain rfl : j = k := zc
     exact g
 ·unfold az6
  generalize l.getD (afL q l) zs = s at hsg ⊢
  obtain ⟨hn, hr⟩ := hsg
  have io := af9 hn.2.2.1 zc zc
  unfold asZ
  dsimp only
  by_cases hd : s.2.2.2.2.1 = 1
  ·rw [if_pos hd]
   refine uF (by rw [hd]; rfl) (uC _ (aBj hq hn) ?_)
   dsimp only
   unfold aEr
   cases hl : asG s.2.1 s.2.2.1 q with
   | none => exact uT rfl rfl
   | some u =>
    have hu := aQd hl
    refine uF rfl ?_
    have hp := aKS hu
    refine uL (fx (aI0 u)) ?_ ?_
    ·refine uC (u.num.sign, 0, ()) (by unfold atP; dsimp only [anU]; rw [ae3 hu]) ?_
     unfold aI0
     by_cases c : u < 0
     ·rw [if_pos c]
      exact uT (zo ((awE u).2 c)) (uC _ (acN ⟨by omega, by omega⟩) (by rw [aVZ]; rfl))
     ·rw [if_neg c]
      exact uF (zn (fun h => c ((awE u).1 h))) rfl
    ·simp only [zP]
     unfold asY
     exact uO (0, dec (aI0 u).num, aa4 (aI0 u).den, ()) rfl (avP _ _ _ _ _ hp hn.2.2.2.1 io)
  ·rw [if_neg hd]
   exact uT (by simpa using hd) rfl
theorem aC4 {q : Rat} (h : acB q) : acB (afF q) := by
 have e1 : mkRat 1 1 = (1 : Rat) := by rw [acJ]; rfl
 unfold afF
 split
 ·exact aG8
 ·split
  ·rw [← e1]; exact aa9 ⟨by omega, by omega⟩
  ·exact h
theorem aHr (q : Rat) : afF q ≤ 1 := by
 unfold afF
 split
 ·decide
 ·split
  ·exact Rat.le_refl
  ·rename_i h; exact vP.1 h
theorem asW (q : Rat) : 0 ≤ afF q := by
 unfold afF
 split
 ·exact Rat.le_refl
 ·split
  ·decide
  ·rename_i h _; exact vP.1 h
theorem aJU {p q : CvT × Rat} (hb : ((p.1, ()), fx p.2, ()) = ((q.1, ()), fx q.2, ())) : p = q := by
 obtain ⟨e1, e2⟩ := Prod.mk.inj hb
 obtain ⟨e2, -⟩ := Prod.mk.inj e2
 exact Prod.ext (Prod.mk.inj e1).1 (ad8 e2)
theorem aHY {c : CvT} {q : Rat} (h1 : acB q) (h2 : q ≤ 1) (h3 : acA c.2.2.1) : aj1 ((c, ()), fx q, ()) = some (az6 c.2.2.1 q) := aaE (enc := fun p : CvT × Rat => ((p.1, ()), fx p.2, ())) (c, q) ⟨h1, h2, h3⟩ (fun b hb => aJU hb)
theorem aDq {c : CvT} {q : Rat} (h1 : acB q) (h0 : 0 ≤ q) (h2 : q ≤ 1) (h3 : adM c.2.1) : ag5 ((c, ()), fx q, ()) = some (anU (aKu c.2.1 q)) := aaE (enc := fun p : CvT × Rat => ((p.1, ()), fx p.2, ())) (c, q) ⟨h1, h0, h2, h3⟩ (fun b hb => aJU hb)
theorem aFf {c : CvT} {q : Rat} (h1 : acB q) : ah7 ((c, ()), fx q, ()) = some (fx q, 0, ()) := aaE (enc := fun p : CvT × Rat => ((p.1, ()), fx p.2, ())) (c, q) h1 (fun b hb => aJU hb)
theorem aAF (c : CvT × Unit) (x : FxT) (y) (h : ah7 (c, x, ()) = some y) : (asX c x).toO = some y := by
 obtain ⟨⟨c', q⟩, hq, hx, rfl⟩ := aaC h
 obtain ⟨rfl, hx2⟩ := Prod.mk.inj hx; obtain ⟨rfl, -⟩ := Prod.mk.inj hx2; dsimp only
 rfl
theorem aNK (c : CvT) (x : FxT) (y) (h : acR (c, x, ()) = some y) : (aEW c x).toO = some y := by
 injection h with h
 subst h
 obtain ⟨kind, tab, l, u0⟩ := c
 unfold aEW
 dsimp only
 refine uC _ (aBk (kind, tab, l, ())) ?_
 by_cases hr : abJ (kind, tab, l, ())
 case neg =>
  have hr' : ¬ abJ (kind, tab, l, u0) := hr
  rw [if_neg hr', if_neg hr]
  exact uT rfl rfl
 have hr' : abJ (kind, tab, l, u0) := hr
 rw [if_pos hr', if_pos hr]
 refine uF rfl (uC (if (rdF x).isSome then 0 else 20, ()) rfl ?_)
 cases hx : rdF x with
 | none => exact uT rfl rfl
 | some q =>
  obtain ⟨hq, rfl⟩ := acW hx
  refine uF rfl ?_
  have hc := aC4 hq
  have hl := aHr q
  have h0 := asW q
  unfold axH
  dsimp only
  rcases hr with ⟨k1, k2, k3⟩ | ⟨k1, k2, k3⟩ | ⟨k1, k2, k3⟩
  ·dsimp only at k1; subst k1
   refine uN ⟨by decide, by decide⟩ (uF rfl (uF rfl (uT rfl (uC _ (ae2 hq) (uC _ (aFf hc) ?_)))))
   rfl
  ·dsimp only at k1; subst k1
   refine uN ⟨by decide, by decide⟩ (uF rfl (uT rfl (uC _ (ae2 hq) (uC _ (aDq (c := (2, tab, l, ())) hc h0 hl k2) ?_))))
   rfl
  ·dsimp only at k1; subst k1
   refine uN ⟨by decide, by decide⟩ (uT rfl (uC _ (ae2 hq) (uC _ (aHY (c := (3, tab, l, ())) hc hl k3) ?_)))
   rfl
theorem aBb {c : CvT} {q : Rat} (h1 : acB q) (h2 : q ≤ 1) (h3 : acA c.2.2.1) : ak6 (c, fx q, ()) = some ((afL q c.2.2.1 : Int), ()) := aaE (enc := fun p : CvT × Rat => (p.1, fx p.2, ())) (c, q) ⟨h1, h2, h3⟩ (fun b hb => by
 obtain ⟨e1, e2⟩ := Prod.mk.inj hb
 obtain ⟨e2, -⟩ := Prod.mk.inj e2
 exact Prod.ext e1 (ad8 e2))
theorem aHN {s : adI} {q : Rat} (h1 : acB q) (h2 : adL s) : ajW (s, fx q, ()) = some (anU (aEr s q)) := aaE (enc := fun p : adI × Rat => (p.1, fx p.2, ())) (s, q) ⟨h1, h2⟩ (fun b hb => by
 obtain ⟨e1, e2⟩ := Prod.mk.inj hb
 obtain ⟨e2, -⟩ := Prod.mk.inj e2
 exact Prod.ext e1 (ad8 e2))
theorem aN4 {l : List Int} {q : Rat} (h1 : acB q) (h0 : 0 ≤ q) (h2 : q ≤ 1) (h3 : adM l) : apS (l, fx q, ()) = some (anU (aKu l q)) := aaE (enc := fun p : List Int × Rat => (p.1, fx p.2, ())) (l, q) ⟨h1, h0, h2, h3⟩ (fun b hb => by
 obtain ⟨e1, e2⟩ := Prod.mk.inj hb
 obtain ⟨e2, -⟩ := Prod.mk.inj e2
 exact Prod.ext e1 (ad8 e2))
theorem aID (c : CvT) (x : FxT) (y) (h : ahS (c, x, ()) = some y) : (ayZ c x).toO = some y := by
 unfold ahS at h
 split at h
 case isFalse => cases h
 case isTrue hp =>
 obtain ⟨hs1, hs2⟩ := hp
 injection h with h
 subst h
 obtain ⟨kind, tab, l, u0⟩ := c
 dsimp only at hs1 hs2
 unfold ayZ
 dsimp only
 refine uC _ (aDi (c := (kind, tab, l, ())) hs1) ?_
 by_cases hr : abJ (kind, tab, l, ())
 case neg =>
  have hr' : ¬ abJ (kind, tab, l, u0) := hr
  rw [if_neg hr']
  exact uT (by rw [zn hr]; rfl) rfl
 have hr' : abJ (kind, tab, l, u0) := hr
 rw [if_pos hr']
 refine uF (by rw [zo hr]; rfl) (uC (if (rdF x).isSome then 0 else 20, ()) (by unfold alC; rw [if_pos hs2]; rfl) ?_)
 cases hx : rdF x with
 | none => exact uT rfl rfl
 | some q =>
  obtain ⟨hq, rfl⟩ := acW hx
  refine uF rfl (uC _ (ae2 hq) ?_)
  have hc := aC4 hq
  have hl := aHr q
  have h0 := asW q
  unfold axH
  dsimp only
  rcases hr with ⟨k1, k2, k3⟩ | ⟨k1, k2, k3⟩ | ⟨k1, k2, k3⟩
  ·dsimp only at k1; subst k1
   exact uT rfl rfl
  ·dsimp only at k1; subst k1
   exact uF rfl (uT rfl (uC _ (aN4 hc h0 hl k2) rfl))
  ·dsimp only at k1; subst k1
   dsimp only at k3
   have hpn := aD4 k3 hl
   have hlen := k3.2.1
   refine uF rfl (uF rfl (uC _ (aBb (c := (3, tab, l, ())) hc hl k3) (uN ⟨by exact sn, by exact sn⟩ ?_)))
   dsimp only
   simp only [aaL]
   have hsg := (aqN k3 hpn).1
   unfold az6
   have e32 : ¬ (3 : Int) = 1 := zf
   have e33 : ¬ (3 : Int) = 2 := zf
   rw [if_neg e32, if_neg e33]
   by_cases hd : (l.getD (afL (afF q) l) zs).2.2.2.2.1 = 1
   ·rw [if_pos hd]
    exact uF (by rw [hd]; rfl) (uC _ (aHN hc hsg) rfl)
   ·rw [if_neg hd]
    exact uT (by simpa using hd) rfl
theorem ahW {l : List Int} (h : adM l) {k : Nat} (hk : k < l.length) : inR (l.getD k 0) 0 65535 := by
 refine h.2.2 _ ?_
 have : l.getD k 0 = l[k] := by simp [hk]
 rw [this]
 exact ym hk
theorem aFF (l : List Int) (x : FxT) (y) (h : apS (l, x, ()) = some y) : (auH l x).toO = some y := by
 obtain ⟨⟨l', q⟩, ⟨hq, h0, h1, ht⟩, hx, rfl⟩ := aaC h
 obtain ⟨rfl, hx2⟩ := Prod.mk.inj hx; obtain ⟨rfl, -⟩ := Prod.mk.inj hx2; dsimp only
 dsimp only at hq h0 h1 ht
 have hl1 := ht.1
 have hl2 := ht.2.1
 have w1 : w64 (len l - 1) = ((l.length - 1 : Nat) : Int) := by rw [aaB, aaA zc]; omega
 have w2 : w64 (len l - 2) = ((l.length - 2 : Nat) : Int) := by rw [aaB, aaA zc]; omega
 have in1 : aa3 ((l.length - 1 : Nat) : Int) := ⟨by omega, by omega⟩
 have i6 : aa3 65535 := ⟨by omega, by omega⟩
 unfold auH aKu
 rw [w1]
 refine uC _ (ac4 in1) (uC _ (alS hq (aa9 in1)) ?_)
 cases hs : abQ (q * mkRat ((l.length - 1 : Nat) : Int) 1) with
 | none => exact uT rfl rfl
 | some p =>
 obtain ⟨hp, e⟩ := abE hs
 have hp0 : 0 ≤ p := by
  rw [e, acJ]
  refine Rat.mul_nonneg h0 ?_
  have := xR.2 (show (0 : Int) ≤ ((l.length - 1 : Nat) : Int) by omega)
  exact this
 clear e hs
 simp only [zP]
 have hf0 : 0 ≤ p.floor := Rat.le_floor_iff.2 hp0
 refine uF rfl (uO (0, ()) rfl ?_)
 refine aaK (fun i : Int × Unit => ∃ k : Nat, k ≤ l.length - 2 ∧ i = ((k : Int), ()) ∧ (k : Int) ≤ p.floor) (fun i => ((l.length : Int) - i.1).toNat) (fun _ => _) ?_ _ ⟨0, by omega, rfl, by omega⟩
 rintro i ⟨k, k1, rfl, k2⟩
 simp only [ayP, aj7, w2]
 have ik : aa3 (k : Int) := ⟨by omega, by omega⟩
 have ik1 : aa3 (((k + 1 : Nat) : Int)) := ⟨by omega, by omega⟩
 have wk : w64 ((k : Int) + 1) = ((k + 1 : Nat) : Int) := by rw [aaA zc]; omega
 have hless : (decide (p < mkRat ((k + 1 : Nat) : Int) 1)) = decide (p.floor < ((k + 1 : Nat) : Int)) := by rw [acJ]; exact decide_eq_decide.2 Rat.floor_lt_iff.symm
 have bv := ahW ht (show k < l.length by omega)
 have bv1 := ahW ht (show k + 1 < l.length by omega)
 have iv := af9 bv zc zc
 have id : aa3 (l.getD (k + 1) 0 - l.getD k 0) := ⟨by have := bv.1; have := bv.2; have := bv1.1; have := bv1.2; omega, by have := bv.1; have := bv.2; have := bv1.1; have := bv1.2; omega⟩
 have wd : w64 (gi l ((k + 1 : Nat) : Int) 0 - gi l (k : Int) 0) = l.getD (k + 1) 0 - l.getD k 0 := by
  rw [aaL, aaL, aaA (by have := bv.1; have := bv.2; have := bv1.1; have := bv1.2; omega)]
 rw [wk, wd, aaL]
 by_cases c : k < l.length - 2
 ·by_cases d : p.floor < ((k + 1 : Nat) : Int)
  ·right
   have hpl : ahK l p = k := by unfold ahK; omega
   rw [hpl]
   refine uT sd (uC _ (ac4 ik1) (uC _ (alQ hp (aa9 ik1)) (uF (by rw [hless, zo d]; rfl) ?_)))
   refine uC _ (ac4 ik) (uC _ (aHR hp (aa9 ik)) ?_)
   cases g1 : abQ (p - mkRat (k : Int) 1) with
   | none => exact uT rfl rfl
   | some r =>
    have hr := (abE g1).1
    simp only [zP]
    refine uF rfl (uN ⟨by exact sn, by exact sn⟩ (uN ⟨by exact sn, by exact sn⟩ (uC _ (ac4 id) (uC _ (alS hr (aa9 id)) ?_))))
    cases g2 : abQ (r * mkRat (l.getD (k + 1) 0 - l.getD k 0) 1) with
    | none => exact uT rfl rfl
    | some t =>
     have ht' := (abE g2).1
     simp only [zP]
     refine uF rfl (uN ⟨by exact sn, by exact sn⟩ (uC _ (ac4 iv) (uC _ (atX (aa9 iv) ht') ?_)))
     cases g3 : abQ (mkRat (l.getD k 0) 1 + t) with
     | none => exact uT rfl rfl
     | some y =>
      have hy := (abE g3).1
      exact uF rfl (uC _ (ac4 i6) (uC _ (aBc hy (aa9 i6) (az1 zc)) rfl))
  ·left
   refine ⟨(((k + 1 : Nat) : Int), ()), ?_, ⟨k + 1, by omega, rfl, by omega⟩, by dsimp only; omega, ze⟩
   exact uT sd (uC _ (ac4 ik1) (uC _ (alQ hp (aa9 ik1)) (uT (by rw [hless, zn d]; rfl) rfl)))
 ·right
  have hpl : ahK l p = k := by unfold ahK; omega
  rw [hpl]
  refine uF sd ?_
  refine uC _ (ac4 ik) (uC _ (aHR hp (aa9 ik)) ?_)
  cases g1 : abQ (p - mkRat (k : Int) 1) with
  | none => exact uT rfl rfl
  | some r =>
   have hr := (abE g1).1
   simp only [zP]
   refine uF rfl (uN ⟨by exact sn, by exact sn⟩ (uN ⟨by exact sn, by exact sn⟩ (uC _ (ac4 id) (uC _ (alS hr (aa9 id)) ?_))))
   cases g2 : abQ (r * mkRat (l.getD (k + 1) 0 - l.getD k 0) 1) with
   | none => exact uT rfl rfl
   | some t =>
    have ht' := (abE g2).1
    simp only [zP]
    refine uF rfl (uN ⟨by exact sn, by exact sn⟩ (uC _ (ac4 iv) (uC _ (atX (aa9 iv) ht') ?_)))
    cases g3 : abQ (mkRat (l.getD k 0) 1 + t) with
    | none => exact uT rfl rfl
    | some y =>
     have hy := (abE g3).1
     exact uF rfl (uC _ (ac4 i6) (uC _ (aBc hy (aa9 i6) (az1 zc)) rfl))
set_option maxRecDepth 100000
open Go Go.Vg Go.Proofs
noncomputable section
def aTx : LTab := [(120, 58, 11264, ⟨0, (Int) × (Int) × (Int) × (Int) × Unit, .dat (.s 14) uq <| .dat (.s 5) uq <| .dat (.c 5 0) uq <| .dat (.c 5 1) uq <| .nil, [13, 12, 4, 2], [5, 0], 0⟩)]
def aHw (bands : List uv) (i : (Int) × (Int) × (Int) × (Int) × Unit) : TT (((Int) × (Int) × (Int) × (Int) × Unit) ⊕ uH) :=
 .ite (decide (i.1 < len (List.take (List.length bands - Int.toNat 1) (List.drop (Int.toNat 1) bands))))
 (.need (inb i.1 (len (List.take (List.length bands - Int.toNat 1) (List.drop (Int.toNat 1) bands)))) <| .call (atS ((i.2.2.1, i.2.2.2.1, ()), ((gi (List.take (List.length bands - Int.toNat 1) (List.drop (Int.toNat 1) bands)) i.1 (0, 0, ())).1, (gi (List.take (List.length bands - Int.toNat 1) (List.drop (Int.toNat 1) bands)) i.1 (0, 0, ())).2.1, ()), ())) am9 fun y =>
 .ite (y.2.1 != 0)
 (.ok (.inr (((0, 0, ()), y.2.1, ()))))
 (.tt <| .lt (w64 (i.1 + 1) : Int) fun z2 => .lt (y.2.1 : Int) fun z3 => .lt (y.1.1 : Int) fun z4 => .lt (y.1.2.1 : Int) fun z5 => .vW (ue z3 z2 (len (List.take (List.length bands - Int.toNat 1) (List.drop (Int.toNat 1) bands)) : Int) (List.take (List.length bands - Int.toNat 1) (List.drop (Int.toNat 1) bands)) <| (uk 5 0 true) ∧ ux ∧ True) <| .vW (vV (vZ 53 z4 z5) <| vV uz True) <| .ok (.inl ((z2, z3, z4, z5, ())))))
 (.ok (.inr (((i.2.2.1, i.2.2.2.1, ()), 0, ()))))
def aEU (bands : List uv) : TT uH :=
 .need (asT Int 0 ≤ 0 ∧ 0 < len bands) <| .need (asT Int 0 ≤ 1 ∧ 1 ≤ len bands) <| .loop 0 (.tt <| .lt ((gi bands 0 (0, 0, ())).1 : Int) fun z => .lt ((gi bands 0 (0, 0, ())).2.1 : Int) fun z1 => .vW (ue (0 : Int) (0 : Int) (len (List.take (List.length bands - Int.toNat 1) (List.drop (Int.toNat 1) bands)) : Int) (List.take (List.length bands - Int.toNat 1) (List.drop (Int.toNat 1) bands)) <| (uk 5 0 true) ∧ ux ∧ True) <| .vW (vV (vZ 53 z z1) <| vV uz True) <| .ok ((0, 0, z, z1, ()))) (aHw bands)
def aNJ : LTab := [(118, 58, 9216, ⟨0, (Int) × (List uv) × Unit, .dat (.s 14) uq <| .row 4 sb <| .nil, [13, 12, 4, 2], [4, 0], 0⟩)]
def aAJ (values : List ur) (i : (Int) × (List uv) × Unit) : TT (((Int) × (List uv) × Unit) ⊕ uH) :=
 .ite (decide (i.1 < len values))
 (.need (inb i.1 (len values)) <| .call (ad2 (((gi values i.1 ([], [], ())).1, (gi values i.1 ([], [], ())).2.1, ()), ())) am9 fun y =>
 .ite (y.2.1 != 0)
 (.ok (.inr (((0, 0, ()), y.2.1, ()))))
 (.need (inb i.1 (↑(Int.toNat (len values)) : Int)) <| .tt <| .lt (w64 (i.1 + 1) : Int) fun z1 => .lt (List.set i.2.1 (0 + Int.toNat i.1) (y.1.1, y.1.2.1, ()) : List uv) fun z2 => .vW (uh z1 (len values) values <| (ub 4 0 (Int.toNat (len values)) true) ∧ ux ∧ True) <| .vW (vV (ua 53 z2) <| vV uz True) <| .ok (.inl ((z1, z2, ())))))
 (.call (aj2 (List.take (Int.toNat (len values)) i.2.1, ())) am9 fun y1 =>
 .ok (.inr (((y1.1.1, y1.1.2.1, ()), y1.2.1, ()))))
def avS (values : List ur) : TT uH :=
 .need (0 ≤ len values ∧ len values ≤ len values ∧ len values * (↑16 : Int) ≤ 140737488355328) <| .loop 0 (.tt <| .lt (List.replicate (Int.toNat (len values)) (0, 0, ()) : List uv) fun z => .vW (uh (0 : Int) (len values) values <| (ub 4 0 (Int.toNat (len values)) true) ∧ ux ∧ True) <| .vW (vV (ua 53 z) <| vV uz True) <| .ok ((0, z, ()))) (aAJ values)
def aJW : LTab := []
def arD (p : uo × Int × Bool × Unit) (lo : Int) (hi : Int) : TT uH :=
 .call (ab4 (lo, 1000000000000, ())) ac5 fun y =>
 .call (alO (((p.1.1, p.1.2.1, p.1.2.2.1, p.1.2.2.2.1, p.1.2.2.2.2.1, p.1.2.2.2.2.2.1, ()), p.2.1, p.2.2.1, ()), y.1, ())) adZ fun y1 =>
 .ite (y1.2.1 != 0)
 (.ok (((0, 0, ()), y1.2.1, ())))
 (.call (ab4 (hi, 1000000000000, ())) ac5 fun y2 =>
 .call (alO (((p.1.1, p.1.2.1, p.1.2.2.1, p.1.2.2.2.1, p.1.2.2.2.2.1, p.1.2.2.2.2.2.1, ()), p.2.1, p.2.2.1, ()), y2.1, ())) adZ fun y3 =>
 .ite (y3.2.1 != 0)
 (.ok (((0, 0, ()), y3.2.1, ())))
 (.call (af2 (List.take 2 [(y1.1.1, y1.1.2.1, ()), (y3.1.1, y3.1.2.1, ())], ())) am9 fun y4 =>
 .ite (y4.2.1 != 0)
 (.ok (((0, 0, ()), y4.2.1, ())))
 (.call (aA4 ((if 0 > y4.1.1 then 0 else y4.1.1, if 0 > y4.1.2.1 then 0 else y4.1.2.1, ()), p.1.2.2.2.1, p.1.2.2.2.2.1, ())) am9 fun y5 =>
 .ite (y5.2.1 != 0)
 (.ok (((0, 0, ()), y5.2.1, ())))
 (.call (ab4 (p.1.2.2.2.2.2.1, 1000000, ())) ac5 fun y6 =>
 .call (ad2 (y6.1, ())) am9 fun y7 =>
 .ite (y7.2.1 != 0)
 (.ok (((0, 0, ()), y7.2.1, ())))
 (.call (aKi ((y5.1.1, y5.1.2.1, ()), (y7.1.1, y7.1.2.1, ()), ())) am9 fun y8 =>
 .ite (y8.2.1 != 0)
 (.ok (((0, 0, ()), y8.2.1, ())))
 (.call (alP ((y8.1.1, y8.1.2.1, ()), 0, 1000000000000, ())) am9 fun y9 =>
 .ok (((y9.1.1, y9.1.2.1, ()), y9.2.1, ()))))))))
def avO : LTab := []
def akZ (c : uw × Unit) (x : Int × Int × Unit) : TT uH :=
 .ok (((x.1, x.2.1, ()), 0, ()))
def aOY : LTab := []
def ayR (s : Int × Int × Int × Int × Int × Int × Unit) (low : List UInt8 × List UInt8 × Unit) (high : List UInt8 × List UInt8 × Unit) : TT uH :=
 .call (ak8 ((s.1, s.2.1, s.2.2.1, s.2.2.2.1, s.2.2.2.2.1, s.2.2.2.2.2.1, ()), (low.1, low.2.1, ()), ())) adZ fun y =>
 .call (ak8 ((s.1, s.2.1, s.2.2.1, s.2.2.2.1, s.2.2.2.2.1, s.2.2.2.2.2.1, ()), (high.1, high.2.1, ()), ())) adZ fun y1 =>
 .call (adN ((y.1.1, y.1.2.1, ()), ())) aOd fun y2 =>
 .call (adN ((y1.1.1, y1.1.2.1, ()), ())) aOd fun y3 =>
 .call (ak7 (y2.1, y3.1, ())) aOd fun y4 =>
 .call (av1 ((if 0 > y4.1.1 then 0 else y4.1.1, if 0 > y4.1.2.1 then 0 else y4.1.2.1, ()), s.2.2.2.1, s.2.2.2.2.1, ())) am9 fun y5 =>
 .ite (y5.2.1 != 0)
 (.ok (((0, 0, ()), y5.2.1, ())))
 (.call (abT (s.2.2.2.2.2.1, 1000000, ())) ac5 fun y6 =>
 .call (adN (y6.1, ())) aOd fun y7 =>
 .call (aE7 ((y5.1.1, y5.1.2.1, ()), y7.1, ())) am9 fun y8 =>
 .ite (y8.2.1 != 0)
 (.ok (((0, 0, ()), y8.2.1, ())))
 (.call (atB ((y8.1.1, y8.1.2.1, ()), ())) aOd fun y9 =>
 .ok (((y9.1.1, y9.1.2.1, ()), 0, ()))))
end
theorem aSE {a b : BdT} (h1 : okB a.1 a.2.1) (h2 : okB b.1 b.2.1) : okB (adA a b).1 (adA a b).2.1 := by
 obtain ⟨a1, a2, u⟩ := a
 obtain ⟨b1, b2, w⟩ := b
 unfold okB adA at *
 dsimp only at *
 omega
theorem aS9 {a b : BdT} (h1 : okB a.1 a.2.1) (h2 : okB b.1 b.2.1) : aUL a b = (adA a b, 0, ()) := by
 unfold aUL; rw [if_pos ⟨h1, h2⟩]; rfl
theorem aRS {a b : BdT} (h1 : okB a.1 a.2.1) (h2 : okB b.1 b.2.1) : atS (a, b, ()) = some (adA a b, 0, ()) := by
 unfold atS; dsimp only; rw [aS9 h1 h2]
theorem aNI (l : List BdT) (y) (h : aj2 (l, ()) = some y) : (aEU l).toO = some y := by
 unfold aj2 at h
 split at h
 case isFalse => cases h
 case isTrue hp =>
 injection h with h
 subst h
 obtain ⟨hn, hl, ho⟩ := hp
 dsimp only at hn hl ho ⊢
 cases l with
 | nil => exact absurd rfl hn
 | cons b r =>
  have hr : r.length ≤ 1000000 := by simp only [zG] at hl; omega
  unfold aEU
  refine uN ⟨by decide, by simp only [aaB, zG]; omega⟩ (uN ⟨by decide, by simp only [aaB, zG]; omega⟩ ?_)
  refine uO (0, 0, b.1, b.2.1, ()) rfl ?_
  have hb := ho b (zZ ..)
  have htail : List.take ((b :: r).length - Int.toNat 1) (List.drop (Int.toNat 1) (b :: r)) = r := by
   show List.take ((b :: r).length - 1) r = r
   simp
  refine aaK (fun i : Int × Int × Int × Int × Unit => ∃ (k : Nat) (w : BdT), k ≤ r.length ∧ i = ((k : Int), 0, w.1, w.2.1, ()) ∧ okB w.1 w.2.1 ∧ ad4 (b :: r) = (r.drop k).foldl adA w) (fun i => ((r.length : Int) - i.1).toNat) (fun _ => (ad4 (b :: r), 0, ())) ?_ _ ⟨0, b, by omega, rfl, hb, rfl⟩
  rintro i ⟨k, w, k1, rfl, hw, k2⟩
  simp only [aHw, htail, aaL]
  rcases zr k r.length with hk | hk
  ·have e : r.getD k (0, 0, ()) = r[k] := by simp [hk]
   have ho2 := ho r[k] (zM _ (ym hk))
   left
   refine ⟨(((k + 1 : Nat) : Int), 0, (adA w r[k]).1, (adA w r[k]).2.1, ()), ?_, ⟨k + 1, adA w r[k], by omega, rfl, aSE hw ho2, ?_⟩, by dsimp only; omega, ze⟩
   ·refine uT sd (uN sd (uC (adA w r[k], 0, ()) (by rw [e]; exact aRS hw ho2) (uF rfl ?_)))
    rw [aaA (x := (k : Int) + 1) zc]
    rfl
   ·rw [k2, yu hk]; rfl
  ·right
   obtain rfl : k = r.length := zc
   rw [List.drop_length] at k2
   refine uF sd ?_
   rw [aaI, k2]; rfl
theorem aSc {q : Rat} (h : (aeV q q).2.1 = 0) : okB (aeV q q).1.1 (aeV q q).1.2.1 := by
 unfold aeV mkB at *
 split at h
 ·rename_i c; rw [if_pos c]; exact c
 ·exact absurd h zf
theorem aBl {q : Rat} (h : acB q) : ad2 (fx q, ()) = some (aeV q q) := by
 unfold ad2; dsimp only; rw [ae3 h]
theorem aHx (l : List FxT) (y) (h : af2 (l, ()) = some y) : (avS l).toO = some y := by
 obtain ⟨r, ⟨hn, hl, ho⟩, hx, rfl⟩ := aaC h
 obtain ⟨rfl, -⟩ := Prod.mk.inj hx
 have hlen : len (r.map (fun q => fx q)) = (r.length : Int) := by rw [aaB, vK]
 unfold avS
 simp only [hlen, zp]
 refine uN ⟨by omega, by omega, by omega⟩ (uO (0, List.replicate r.length (0, 0, ()), ()) rfl ?_)
 refine aaK (fun i : Int × List BdT × Unit => ∃ k : Nat, k ≤ r.length ∧ i.1 = (k : Int) ∧ i.2.1.length = r.length ∧ i.2.1.take k = (r.take k).map (fun q => (aeV q q).1)) (fun i => ((r.length : Int) - i.1).toNat) (fun _ => (ad4 (r.map fun q => (aeV q q).1), 0, ())) ?_ _ ⟨0, by omega, rfl, by simp, by simp⟩
 rintro ⟨i, bs, u⟩ ⟨k, k1, k2, k3, k4⟩
 dsimp only at k2 k3 k4
 subst k2
 simp only [aAJ, hlen, aaL, zp]
 rcases zr k r.length with hk | hk
 ·have e : (r.map (fun q => fx q)).getD k ([], [], ()) = fx r[k] := by simp [hk]
  obtain ⟨f1, f2⟩ := ho r[k] (ym hk)
  left
  refine ⟨(((k + 1 : Nat) : Int), bs.set k (aeV r[k] r[k]).1, ()), ?_, ⟨k + 1, by omega, rfl, by simp [k3], ?_⟩, by dsimp only; omega, ze⟩
  ·refine uT sd (uN ⟨by omega, by omega⟩ (uC (aeV r[k] r[k]) (by rw [e]; exact aBl f1) (uF (by rw [f2]; rfl) (uN ⟨by omega, by omega⟩ ?_))))
   rw [aaA (x := (k : Int) + 1) zc, zv]
   rfl
  ·rw [zW hk, xH, ← k4]
   rw [zW (by rw [yY]; omega), List.take_set_of_le (zq k)]
   simp
 ·right
  obtain rfl : k = r.length := zc
  rw [zt] at k4
  refine uF sd (uC (ad4 (r.map fun q => (aeV q q).1), 0, ()) ?_ rfl)
  rw [k4]
  unfold aj2
  refine if_pos ⟨by simpa using hn, by simpa using hl, fun b hb => ?_⟩
  obtain ⟨q, hq, rfl⟩ := zN.1 hb
  exact aSc (ho q hq).2
theorem afW {z : Int} (h1 : -1000000000000000000000000 ≤ z) (h2 : z ≤ 1000000000000000000000000) : Fit z := by
 unfold Fit
 refine zz ((adC (k := 30) zc).2 ?_) zc
 omega
theorem apG {m a n : Int} (hm : inR m (-100000000) 100000000) (ha : inR a (-100000000) 100000000) (hn : inU n) : -200000000000000000000 ≤ af8 m a n ∧ af8 m a n ≤ 200000000000000000000 := by
 obtain ⟨m1, m2⟩ := hm
 obtain ⟨a1, a2⟩ := ha
 obtain ⟨n1, n2⟩ := hn
 unfold af8
 have c1 : (m + 100000000) * n ≥ 0 := yh zc n1
 have c2 : (100000000 - m) * n ≥ 0 := yh zc n1
 rw [wY] at c1
 rw [Int.sub_mul] at c2
 constructor <;> omega
theorem aEa : adJ = mkRat 1000000000000 1 := by rw [acJ]; rfl
theorem axP (N : Int) {d : Nat} (hd : d ≠ 0) : aeV (mkRat N d) (mkRat N d) = mkB 6 (N * 1000000000000 / d) (-(-(N * 1000000000000) / d)) := by
 unfold aeV
 rw [aEa, yO, xE, Rat.neg_mkRat, asN _ hd, asN _ hd]
theorem agU {m a n : Int} (hm : inR m (-100000000) 100000000) (ha : inR a (-100000000) 100000000) (hn : inU n) :
  asG m a (mkRat n 1000000000000) = some (mkRat (af8 m a n) 1000000000000000000) ∧ acB (mkRat (af8 m a n) 1000000000000000000) := by
 obtain ⟨b1, b2⟩ := apG hm ha hn
 have c := apG hm (a := 0) ⟨by omega, by omega⟩ hn
 obtain ⟨c1, c2⟩ := c
 have e : af8 m 0 n = m * n := by unfold af8; omega
 rw [e] at c1 c2
 have f1 : acB (mkRat (m * n) 1000000000000) := aeL zc (afW zc zc) (afW zc zc)
 have f2 : acB (mkRat (af8 m a n) 1000000000000) := aeL zc (afW zc zc) (afW zc zc)
 have f3 : acB (mkRat (af8 m a n) 1000000000000000000) := aeL zc (afW zc zc) (afW zc zc)
 refine ⟨?_, f3⟩
 unfold asG
 rw [yO, Nat.one_mul]
 unfold abQ
 rw [if_pos f1]
 simp only [zP]
 have g2 : mkRat (m * n) 1000000000000 + mkRat a 1 = mkRat (af8 m a n) 1000000000000 := by
  rw [xN _ _ zc zc]
  unfold af8
  rw [xE]; simp
 rw [g2, if_pos f2]
 simp only [zP]
 have g3 : mkRat (af8 m a n) 1000000000000 / mkRat 1000000 1 = mkRat (af8 m a n) 1000000000000000000 := by
  have hm : mkRat (af8 m a n) 1000000000000 = mkRat (af8 m a n) 1000000000000000000 * mkRat 1000000 1 := by
   rw [yO, yd zc zc]; omega
  rw [hm, Rat.div_def, Rat.mul_assoc, Rat.mul_inv_cancel _ (az1 zc), Rat.mul_one]
 rw [g3, if_pos f3]
theorem ao2 {N : Int} (h1 : -200000000000000000000 ≤ N) (h2 : N ≤ 200000000000000000000) : aeV (mkRat N 1000000000000000000) (mkRat N 1000000000000000000) = ((N / 1000000, -(-N / 1000000), ()), 0, ()) := by
 rw [axP _ zc]
 have e1 : N * 1000000000000 / ((1000000000000000000 : Nat) : Int) = N / 1000000 := zc
 have e2 : -(N * 1000000000000) / ((1000000000000000000 : Nat) : Int) = -N / 1000000 := zc
 rw [e1, e2]
 unfold mkB
 rw [if_pos ⟨by omega, by omega, by omega⟩]
theorem aFr {n : Int} (h : inR n (-100000000) 100000000) : aeV (mkRat n 1000000) (mkRat n 1000000) = ((n * 1000000, n * 1000000, ()), 0, ()) := by
 obtain ⟨h1, h2⟩ := h
 rw [axP _ zc]
 have e1 : n * 1000000000000 / ((1000000 : Nat) : Int) = n * 1000000 := zc
 have e2 : -(-(n * 1000000000000) / ((1000000 : Nat) : Int)) = n * 1000000 := zc
 rw [e1, e2]
 unfold mkB
 rw [if_pos ⟨by omega, by omega, by omega⟩]
theorem aq1 {n : Int} (h : inU n) : aa3 n := ⟨by have := h.1; omega, by have := h.2; omega⟩
theorem adS {n : Int} (h : inU n) : acB (mkRat n 1000000000000) := aeL zc (abK (aq1 h)) (abK ⟨by omega, by omega⟩)
theorem axW (a : Int) : (if 0 > a then 0 else a) = max a 0 := by split <;> omega
theorem aLq {a b : BdT} (h : (aKh a b).2.1 = 0) : okB (aKh a b).1.1 (aKh a b).1.2.1 := by
 unfold aKh mkB at *
 split
 ·rename_i c
  rw [if_pos c] at h
  split
  ·assumption
  ·rename_i d; rw [if_neg d] at h; exact absurd h zf
 ·rename_i c; rw [if_neg c] at h; exact absurd h zf
theorem aAy {b : BdT} (h : okB b.1 b.2.1) : aC5 b 0 1000000000000 = (am6 b, 0, ()) := by
 unfold aC5
 rw [if_pos h, if_pos ⟨by omega, by omega, by omega⟩]; rfl
theorem aEN (p : PcT) (lo hi : Int) (y) (h : aeP (p, lo, hi, ()) = some y) : (arD p lo hi).toO = some y := by
 unfold aeP at h
 split at h
 case isFalse => cases h
 case isTrue hp =>
 obtain ⟨hn, hlo, hhi⟩ := hp
 dsimp only at hn hlo hhi h
 injection h with h
 subst h
 obtain ⟨l1, f1⟩ := agU hn.1 hn.2.1 hlo
 obtain ⟨l2, f2⟩ := agU hn.1 hn.2.1 hhi
 obtain ⟨b1, b2⟩ := apG hn.1 hn.2.1 hlo
 obtain ⟨b3, b4⟩ := apG hn.1 hn.2.1 hhi
 have io := af9 hn.2.2.1 zc zc
 unfold arD
 refine uC _ (agP (d := 1000000000000) (aq1 hlo) zc zc) ?_
 refine uC _ (aBj (p := p) (adS hlo) hn) ?_
 rw [l1]
 refine uF rfl ?_
 refine uC _ (agP (d := 1000000000000) (aq1 hhi) zc zc) ?_
 refine uC _ (aBj (p := p) (adS hhi) hn) ?_
 rw [l2]
 refine uF rfl ?_
 have t1 := ao2 b1 b2
 have t2 := ao2 b3 b4
 have ha : af2 ([fx (mkRat (af8 p.1.2.1 p.1.2.2.1 lo) 1000000000000000000), fx (mkRat (af8 p.1.2.1 p.1.2.2.1 hi) 1000000000000000000)], ()) = some (adA (aeV (mkRat (af8 p.1.2.1 p.1.2.2.1 lo) 1000000000000000000) (mkRat (af8 p.1.2.1 p.1.2.2.1 lo) 1000000000000000000)).1 (aeV (mkRat (af8 p.1.2.1 p.1.2.2.1 hi) 1000000000000000000) (mkRat (af8 p.1.2.1 p.1.2.2.1 hi) 1000000000000000000)).1, 0, ()) := by
  refine aaE (enc := fun l : List Rat => (l.map (fun q => fx q), ())) [mkRat (af8 p.1.2.1 p.1.2.2.1 lo) 1000000000000000000, mkRat (af8 p.1.2.1 p.1.2.2.1 hi) 1000000000000000000] ⟨by simp, by simp, fun q hq => ?_⟩ (fun b hb => ?_)
  ·rcases zx.1 hq with e | e
   ·subst e; exact ⟨f1, by rw [t1]⟩
   ·rw [ya.1 e]; exact ⟨f2, by rw [t2]⟩
  ·have := (Prod.mk.inj hb).1
   exact List.map_inj_right (fun a b hab => ad8 hab) |>.1 this
 refine uC _ ha (uF rfl ?_)
 rw [t1, t2]
 simp only [adA]
 refine uC (aH2 (auD p.1 lo hi) p.1.2.2.2.1 p.1.2.2.2.2.1) (by unfold auD; rw [← axW, ← axW]; rfl) ?_
 unfold auE
 generalize aH2 (auD p.1 lo hi) p.1.2.2.2.1 p.1.2.2.2.2.1 = w
 by_cases c1 : w.2.1 = 0
 case neg => rw [if_pos c1]; exact uT (by simpa using c1) rfl
 rw [if_neg (fun h => h c1)]
 refine uF (by simpa using c1) (uC _ (agP (d := 1000000) io zc zc) (uC _ (aBl (afX io)) ?_))
 rw [aFr hn.2.2.1]
 refine uF rfl (uC (aKh w.1 (p.1.2.2.2.2.2.1 * 1000000, p.1.2.2.2.2.2.1 * 1000000, ())) rfl ?_)
 have hok := @aLq w.1 (p.1.2.2.2.2.2.1 * 1000000, p.1.2.2.2.2.2.1 * 1000000, ())
 generalize aKh w.1 (p.1.2.2.2.2.2.1 * 1000000, p.1.2.2.2.2.2.1 * 1000000, ()) = z at hok
 by_cases c2 : z.2.1 = 0
 case neg => rw [if_pos c2]; exact uT (by simpa using c2) rfl
 rw [if_neg (fun h => h c2)]
 refine uF (by simpa using c2) (uC (aC5 z.1 0 1000000000000) rfl ?_)
 rw [aAy (hok c2)]; rfl
theorem aHO {s : adI} {q : Rat} (h1 : acB q) (h2 : adL s) : ak8 (s, fx q, ()) = some (anU (asG s.2.1 s.2.2.1 q)) := aaE (enc := fun p : adI × Rat => (p.1, fx p.2, ())) (s, q) ⟨h1, h2⟩ (fun b hb => by
 obtain ⟨e1, e2⟩ := Prod.mk.inj hb
 obtain ⟨e2, -⟩ := Prod.mk.inj e2
 exact Prod.ext e1 (ad8 e2))
theorem aeS {q : Rat} (h : acB q) : adN (fx q, ()) = some ((aeV q q).1, ()) := aaE (enc := fun q : Rat => (fx q, ())) q h (fun b hb => ad8 (Prod.mk.inj hb).1)
theorem aIv (s : adI) (a b : FxT) (y) (h : ahR (s, a, b, ()) = some y) : (ayR s a b).toO = some y := by
 obtain ⟨⟨s', lo, hi⟩, ⟨hn, hlo, hhi⟩, hx, rfl⟩ := aaC h
 obtain ⟨rfl, hx2⟩ := Prod.mk.inj hx; obtain ⟨rfl, hx3⟩ := Prod.mk.inj hx2; obtain ⟨rfl, -⟩ := Prod.mk.inj hx3
 dsimp only at hn hlo hhi ⊢
 obtain ⟨l1, f1⟩ := agU hn.1 hn.2.1 hlo
 obtain ⟨l2, f2⟩ := agU hn.1 hn.2.1 hhi
 obtain ⟨b1, b2⟩ := apG hn.1 hn.2.1 hlo
 obtain ⟨b3, b4⟩ := apG hn.1 hn.2.1 hhi
 have io := af9 hn.2.2.1 zc zc
 have t1 := ao2 b1 b2
 have t2 := ao2 b3 b4
 unfold ayR
 refine uC _ (aHO (s := s) (adS hlo) hn) (uC _ (aHO (s := s) (adS hhi) hn) ?_)
 rw [l1, l2]
 refine uC _ (aeS f1) (uC _ (aeS f2) ?_)
 rw [t1, t2]
 refine uC _ rfl ?_
 simp only [adA]
 refine uC (aH2 (auD s lo hi) s.2.2.2.1 s.2.2.2.2.1) (by unfold auD; rw [← axW, ← axW]; rfl) ?_
 unfold auE
 generalize aH2 (auD s lo hi) s.2.2.2.1 s.2.2.2.2.1 = w
 by_cases c1 : w.2.1 = 0
 case neg => rw [if_pos c1]; exact uT (by simpa using c1) rfl
 rw [if_neg (fun h => h c1)]
 refine uF (by simpa using c1) (uC _ (adH (d := 1000000) io zc zc) (uC _ (aeS (afX io)) ?_))
 rw [aFr hn.2.2.1]
 refine uC (aKh w.1 (s.2.2.2.2.2.1 * 1000000, s.2.2.2.2.2.1 * 1000000, ())) rfl ?_
 generalize aKh w.1 (s.2.2.2.2.2.1 * 1000000, s.2.2.2.2.2.1 * 1000000, ()) = z
 by_cases c2 : z.2.1 = 0
 case neg => rw [if_pos c2]; exact uT (by simpa using c2) rfl
 rw [if_neg (fun h => h c2)]
 exact uF (by simpa using c2) (uC (am6 z.1, ()) rfl rfl)
end Go.Vs
