/-
  Trees of what the functions compute, and their laws. Own work; no condition.
-/
import Derived.Test.YtlmjbmgabddkiaaGreatDoorClL3
import Derived.Lib.Fields
import Derived.Test.YtlmjbmgabddkiaaGreatDoorProg
import Derived.Lib.SplitLaws
import Derived.Lib.SmallJoins
import Derived.KernelRfl
set_option linter.unusedVariables false
set_option linter.unusedSimpArgs false
namespace Go.Vs
open Go Go.Vg
theorem ayQ {q : Rat} (h : al4 q) {s : Nat} (hs : s ≤ 10000000000000000000000000) : (mag (ajO q s).natAbs).length ≤ 200 := by
 rw [aGC]
 have h1 := at0 h.1
 have h2 := at0 h.2
 have hs2 : (mag (s * 2)).length ≤ 3 := mag_length_le_iff.2 zb
 have e1 : (mag (q.num * (s * 2 : Nat) + q.den).natAbs).length ≤ 100 := by
  have a1 := Int.natAbs_add_le (q.num * (s * 2 : Nat)) q.den
  have a2 := abG a1
  have a3 := agN (q.num * (s * 2 : Nat)).natAbs (q.den : Int).natAbs
  rw [yB] at a3 a2
  have a4 := agM q.num.natAbs ((s * 2 : Nat) : Int).natAbs
  simp only [ym] at a1 a2 a3 a4 h2 ⊢
  omega
 have := aNT (d := q.den * 2) e1 zb
 omega
theorem aJ6 (n : Nat) : (List.replicate n ([48] : List UInt8)).flatten = List.replicate n 48 := by
 induction n with
 | zero => rfl
 | succ n ih => rw [xf, xH, ih]; rfl
theorem aLy {n : Nat} (h : n ≤ 100000) : auV (#[48].toList, (n : Int), ()) = some (List.replicate n 48, ()) := by
 unfold auV
 rw [if_pos ⟨by show 0 ≤ (n : Int); omega, by show (n : Int) ≤ 100000; omega, by show 1 ≤ 1000; omega⟩]
 rw [← aJ6 n]
 rfl
theorem aBu : aaY 0 = [48] := abK zb
theorem ayF {n r : Nat} (hn : 1 ≤ n) (h : r < 10 ^ n) : (asB n r).length = n := by
 unfold asB
 have := (aa2 hn).2 h
 rw [zu, yo]; omega
theorem aNx {n m : Nat} (hn : 1 ≤ n) : (List.replicate (n + 1 - (aaY m).length) 48 ++ aaY m).length - n ≤ (List.replicate (n + 1 - (aaY m).length) 48 ++ aaY m).length ∧
  (List.replicate (n + 1 - (aaY m).length) 48 ++ aaY m).take ((List.replicate (n + 1 - (aaY m).length) 48 ++ aaY m).length - n) ++ 46 :: (List.replicate (n + 1 - (aaY m).length) 48 ++ aaY m).drop ((List.replicate (n + 1 - (aaY m).length) 48 ++ aaY m).length - n) = aJe n m := by
 refine ⟨Nat.sub_le _ _, ?_⟩
 unfold aJe
 rw [if_neg zb]
 have hp : 0 < 10 ^ n := Nat.pow_pos zb
 rcases zv m (10 ^ n) with h | h
 ·have hl := (aa2 hn).2 h
  have hd : m / 10 ^ n = 0 := yN h
  have hm : m % 10 ^ n = m := yr h
  rw [hd, hm, aBu]
  have e : n + 1 - (aaY m).length = (n - (aaY m).length) + 1 := zb
  have hlen : (List.replicate (n + 1 - (aaY m).length) (48 : UInt8) ++ aaY m).length - n = 1 := by rw [zu, yo]; omega
  rw [hlen, e, xf]
  rfl
 ·have hl : n + 1 ≤ (aaY m).length := by
   rcases zv n (aaY m).length with h2 | h2
   ·omega
   ·have := (aa2 hn).1 h2; omega
  have e : n + 1 - (aaY m).length = 0 := zb
  rw [e, List.replicate_zero, yk]
  have hq : m / 10 ^ n ≠ 0 := by
   have := Nat.div_pos h hp
   omega
  have hs := auM hq hn (yz m hp)
  have hdm : m / 10 ^ n * 10 ^ n + m % 10 ^ n = m := by rw [yV]; exact Nat.div_add_mod m (10 ^ n)
  rw [hdm] at hs
  have hpl := ayF hn (yz m hp)
  generalize asB n (m % 10 ^ n) = pp at *
  rw [hs]
  have hlen : (aaY (m / 10 ^ n) ++ pp).length - n = (aaY (m / 10 ^ n)).length := by rw [zu]; omega
  rw [hlen, wG, List.drop_left]
theorem aEg (a : FxT) (p : Int) (y) (h : agH (a, p, ()) = some y) : (awB a p).toO = some y := by
 unfold agH at h
 dsimp only at h
 unfold awB
 cases ha : rdF a with
 | none =>
  simp only [ha] at h
  exact uC _ (abA ha) (uT rfl h)
 | some q =>
  simp only [ha] at h
  have hq := (ahE ha).1
  have hb := ajQ ha
  refine uC _ (aa9 ha) (uF rfl ?_)
  by_cases c1 : p < 0
  ·rw [if_pos (Or.inl c1)] at h
   exact uT (zn c1) h
  by_cases c2 : p > 20
  ·rw [if_pos (Or.inr c2)] at h
   exact uF (zl c1) (uT (zn c2) h)
  rw [if_neg zb] at h
  obtain ⟨n, rfl⟩ := zG (show 0 ≤ p by omega)
  rw [zj] at h
  injection h with h
  subst h
  have hn : n ≤ 20 := zb
  have h10 : 10 ^ n ≤ 10 ^ 20 := zP zb hn
  have h10' : 10 ^ n ≤ 100000000000000000000 := h10
  have hl := ayQ hq (s := 10 ^ n) zb
  refine uF (zl c1) (uF (zl c2) (uC _ (aLy zb) (uN (by simp [lim]; omega) ?_)))
  refine uC (mag (10 ^ n), ()) (by have := au2 (n := 10 ^ n) (aaO (abL zb) zb); rw [aKk] at this; exact this) ?_
  refine uC _ (aIq (ah1 hb zb) (aaO (abL zb) zb)) ?_
  refine uC _ (akY (aOe zb)) ?_
  unfold anN aM9
  have hlm : (aaY (ajO q (10 ^ n)).natAbs).length ≤ 9 * 200 + 1 := adO hl
  have hpos := aeA (ajO q (10 ^ n)).natAbs
  generalize ajO q (10 ^ n) = z at *
  by_cases c3 : n = 0
  ·subst c3
   refine uF rfl ?_
   unfold aJe
   rw [if_pos rfl]
   by_cases c4 : z < 0
   ·rw [if_pos c4]
    refine uT (zn c4) (uN (by simp [lim]; omega) rfl)
   ·rw [if_neg c4]
    exact uF (zl c4) rfl
  refine uT sd ?_
  have e1 : w64 ((n : Int) + 1) = n + 1 := aaA zb
  have e2 : w64 (w64 ((n : Int) + 1) - len (aaY z.natAbs)) = (n : Int) + 1 - (aaY z.natAbs).length := by rw [e1, aaD]; exact aaA zb
  have e3 : (if 0 > w64 (w64 ((n : Int) + 1) - len (aaY z.natAbs)) then 0 else w64 (w64 ((n : Int) + 1) - len (aaY z.natAbs))) = ((n + 1 - (aaY z.natAbs).length : Nat) : Int) := by
   rw [e2]; split <;> omega
  refine uC (List.replicate (n + 1 - (aaY z.natAbs).length) 48, ()) (by dsimp only; rw [e3]; exact aLy zb) ?_
  obtain ⟨p1, p2⟩ := aNx (n := n) (m := z.natAbs) zb
  dsimp only
  have hsl : (List.replicate (n + 1 - (aaY z.natAbs).length) (48 : UInt8) ++ aaY z.natAbs).length ≤ 2000 ∧ n ≤ (List.replicate (n + 1 - (aaY z.natAbs).length) (48 : UInt8) ++ aaY z.natAbs).length := by
   rw [zu, yo]; omega
  have hsum : (List.replicate (n + 1 - (aaY z.natAbs).length) (48 : UInt8)).length + (aaY z.natAbs).length ≤ 2000 := by rw [← zu]; exact hsl.1
  generalize hs : List.replicate (n + 1 - (aaY z.natAbs).length) (48 : UInt8) ++ aaY z.natAbs = s at *
  obtain ⟨s1, s2⟩ := hsl
  have g46 : ([(46 : UInt8)] : List UInt8).length = 1 := rfl
  have g45 : ([(45 : UInt8)] : List UInt8).length = 1 := rfl
  have e4 : w64 (len s - n) = ((s.length - n : Nat) : Int) := by rw [aaD, aaA zb]; omega
  rw [e4, zj]
  have e5 : List.take (s.length - (s.length - n)) (List.drop (s.length - n) s) = s.drop (s.length - n) := zq (by rw [ye]; omega)
  rw [e5]
  have lt1 : (List.take (s.length - n) s).length ≤ 2000 := by rw [zR]; omega
  have lt2 : (List.drop (s.length - n) s).length ≤ 2000 := by rw [ye]; omega
  have e6 : List.take (s.length - n) s ++ #[46].toList ++ List.drop (s.length - n) s = aJe n z.natAbs := by rw [← p2, zW]; rfl
  have le6 : (aJe n z.natAbs).length ≤ 5000 := by rw [← e6]; simp only [zu]; have : (#[(46 : UInt8)].toList).length = 1 := rfl; omega
  refine uN (by unfold lim; omega) (uN ⟨by omega, by rw [aaD]; omega⟩ (uN (by unfold lim; have : (#[(46 : UInt8)].toList).length = 1 := rfl; omega) (uN ⟨by omega, by rw [aaD]; omega⟩ (uN (by rw [zu]; unfold lim; have : (#[(46 : UInt8)].toList).length = 1 := rfl; omega) ?_))))
  by_cases c4 : z < 0
  ·rw [if_pos c4]
   refine uT (zn c4) ?_
   rw [e6]
   exact uN (by unfold lim; have : (#[(45 : UInt8)].toList).length = 1 := rfl; omega) rfl
  ·rw [if_neg c4]
   refine uF (zl c4) ?_
   rw [e6]; rfl
theorem aCR {t : TrT} (h : aEo t = true) : 0 ≤ t.1 ∧ t.1 ≤ 1000000 ∧ 0 ≤ t.2.1 ∧ t.2.1 ≤ t.1 ∧ (∃ g, rdF t.2.2.1 = some g) ∧ (∃ m, rdF t.2.2.2.1 = some m) ∧ t.2.2.2.2.1.length ≤ 4 ∧ ∀ a ∈ t.2.2.2.2.1, ∃ q, rdF a = some q := by
 unfold aEo at h
 cases hg : rdF t.2.2.1 with
 | none => simp [hg] at h
 | some g =>
  cases hm : rdF t.2.2.2.1 with
  | none => simp [hg, hm] at h
  | some m =>
   simp only [hg, hm, zk, zV] at h
   obtain ⟨⟨a, b, c, d⟩, _, h2⟩ := h
   refine ⟨a, b, c, d, ⟨g, rfl⟩, ⟨m, rfl⟩, ?_⟩
   by_cases e : t.2.1 = t.1
   ·rw [if_pos e] at h2
    have := (of_decide_eq_true h2).1
    rw [this]
    exact ⟨by simp, by simp⟩
   ·rw [if_neg e] at h2
    simp only [zk, zV, wO] at h2
    exact ⟨h2.1.2, fun a ha => xa.1 (h2.2 a ha)⟩
theorem aMx {K m s : Nat} (hK : 1 ≤ K) (h : (aaY m).length ≤ K) : (aaY (m / s)).length ≤ K :=
 (aa2 hK).2 (xT (xk _ _) ((aa2 hK).1 h))
theorem aLz {q : Rat} (hq : al4 q) : (anN q 6).length ≤ 5000 := by
 have hl := ayQ hq (s := 10 ^ 6) ze
 have hlm : (aaY (ajO q (10 ^ 6)).natAbs).length ≤ 9 * 200 + 1 := adO hl
 have h2 := aMx (s := 10 ^ 6) zb hlm
 have h3 := ayF (n := 6) (r := (ajO q (10 ^ 6)).natAbs % 10 ^ 6) zb (yz _ ze)
 unfold anN aJe
 rw [if_neg zb, zu, zu, zE, h3]
 have h4 : (aM9 (ajO q (10 ^ 6))).length ≤ 1 := by unfold aM9; split <;> simp
 omega
theorem aBN {a : FxT} {q : Rat} (h : rdF a = some q) : agH (a, 6, ()) = some (anN (rdQ a) 6, 0, ()) := by
 unfold agH rdQ
 dsimp only
 rw [h]
 rfl
theorem aj3 {a : FxT} {q : Rat} (h : rdF a = some q) : (anN (rdQ a) 6).length ≤ 5000 := by
 unfold rdQ
 rw [h]
 exact aLz (ahE h).1
theorem aCw {l : List (List UInt8)} (h : ∀ x ∈ l, x.length ≤ 5000) : (aeX [32] l).length ≤ 5001 * l.length := by
 have H : ∀ r : List (List UInt8), (∀ x ∈ r, x.length ≤ 5000) → ((r.map fun y => ([32] : List UInt8) ++ y).flatten).length ≤ 5001 * r.length := by
  intro r
  induction r with
  | nil => intro _; simp
  | cons x r ih =>
   intro hr
   have h1 := ih fun y hy => hr y (zt _ hy)
   have h2 := hr x zx
   simp only [xP, xH, zu, zE, xA] at h1 ⊢
   omega
 cases l with
 | nil => exact zN _
 | cons x r =>
  have h1 := H r fun y hy => h y (zt _ hy)
  have h2 := h x zx
  show (x ++ _).length ≤ _
  rw [zu, zE]
  omega
theorem aIp {l : List (List UInt8)} (h1 : 1 ≤ l.length) (h2 : l.length ≤ 6) (h : ∀ x ∈ l, x.length ≤ 5000) : ac4 (l, ()) = some (aiC l, ()) ∧ (aiC l).length ≤ 30100 := by
 have h3 := aCw h
 refine ⟨if_pos ⟨h1, by show l.length ≤ 1000; omega, by show (aeX [32] l).length ≤ 1000000; omega⟩, ?_⟩
 unfold aiC
 rw [zu]
 have : ([10] : List UInt8).length = 1 := rfl
 omega
theorem ahY {a b : List UInt8} (h1 : a.length ≤ 5000) (h2 : b.length ≤ 5000) : ac4 ([a, b], ()) = some (aiC [a, b], ()) ∧ (aiC [a, b]).length ≤ 30100 := by
 refine aIp (by show 1 ≤ 2; omega) (by show 2 ≤ 6; omega) fun x hx => ?_
 rcases zm.1 hx with rfl | hx
 ·exact h1
 ·rcases zm.1 hx with rfl | hx
  ·exact h2
  ·cases hx
theorem axA {z : Int} (h0 : 0 ≤ z) (h1 : z ≤ 1000000) : ar5 (z, ()) = some (dec z, ()) ∧ (dec z).length ≤ 5000 := by
 refine ⟨if_pos ⟨by show -9223372036854775808 ≤ z; omega, by show z ≤ 9223372036854775807; omega⟩, ?_⟩
 have h2 := ahR z
 have h3 := abT (k := 6) (n := z.natAbs) (by show z.natAbs < 10000000; omega)
 omega
theorem axH (v : List UInt8) (e : Int) (y) (h : afH (v, e, ()) = some y) : (al7 v e).toO = some y := by
 unfold afH at h
 dsimp only at h
 unfold al7
 by_cases c : e = 0
 ·rw [if_pos c] at h
  subst c
  exact uF rfl h
 ·rw [if_neg c] at h; cases h
theorem aAs (l : List (List UInt8)) (y) (h : ac4 (l, ()) = some y) : (ao9 l).toO = some y := by
 unfold ac4 at h
 dsimp only at h
 unfold ao9
 by_cases c : 1 ≤ l.length ∧ l.length ≤ 1000 ∧ (aeX [32] l).length ≤ 1000000
 ·rw [if_pos c] at h
  refine uC (aeX [32] l, ()) (if_pos c) (uN ?_ h)
  have : ([(10 : UInt8)] : List UInt8).length = 1 := rfl
  unfold lim
  dsimp only
  omega
 ·rw [if_neg c] at h; cases h
theorem aE4 (t : TrT) (hc : aEo t = true) (y : Int × Unit) (y1 y2 y3 y4 : List UInt8 × Unit) (y5 : List UInt8 × Int × Unit) (y6 y7 : List UInt8 × Unit) (y8 : List UInt8 × Int × Unit) (y9 y10 : List UInt8 × Unit)
  (g2 : y2.1.length ≤ 30100) (g4 : y4.1.length ≤ 30100) (g7 : y7.1.length ≤ 30100) (g10 : y10.1.length ≤ 30100) :
  ac0 (fun i => (aiX t y y1 y2 y3 y4 y5 y6 y7 y8 y9 y10 i).toO) (0, [wAt], ()) = some (y2.1 ++ y4.1 ++ (y7.1 ++ y10.1) ++ aiC (wAt :: atT t.2.2.2.2.1), 0, ()) := by
 obtain ⟨_, _, _, _, _, _, hl, ha⟩ := aCR hc
 have hb : (y2.1 ++ y4.1 ++ (y7.1 ++ y10.1)).length ≤ 120400 := by
  simp only [zu]; omega
 have hat : wAt.length ≤ 5000 := by show 2 ≤ 5000; omega
 refine aaM (f := fun _ => (y2.1 ++ y4.1 ++ (y7.1 ++ y10.1) ++ aiC (wAt :: atT t.2.2.2.2.1), 0, ())) (fun (i : Int × List (List UInt8) × Unit) => ∃ n : Nat, i.1 = (n : Int) ∧ n ≤ t.2.2.2.2.1.length ∧ i.2.1 = wAt :: (t.2.2.2.2.1.take n).map fun x => anN (rdQ x) 6) (fun i => t.2.2.2.2.1.length - i.1.toNat) ?_ _ ⟨0, rfl, zN _, rfl⟩
 rintro ⟨k, ws, ⟨⟩⟩ ⟨n, hk, hn, hw⟩
 dsimp only at hk hw
 subst hk hw
 rcases zv n t.2.2.2.2.1.length with hlt | hge
 ·left
  have hmem : t.2.2.2.2.1[n] ∈ t.2.2.2.2.1 := yw hlt
  obtain ⟨q, hq⟩ := ha _ hmem
  refine ⟨((n + 1 : Nat), wAt :: (t.2.2.2.2.1.take (n + 1)).map fun x => anN (rdQ x) 6, ()), ?_, ⟨n + 1, rfl, hlt, rfl⟩, by show t.2.2.2.2.1.length - ((n + 1 : Nat) : Int).toNat < t.2.2.2.2.1.length - (n : Int).toNat; omega, rfl⟩
  unfold aiX
  dsimp only
  refine uT (zn (by rw [aaD]; omega)) (uN (aGY zb (by rw [aaD]; omega)) ?_)
  rw [aNR (k := n) rfl hlt]
  refine uC _ (aBN hq) (uC (anN (rdQ t.2.2.2.2.1[n]) 6, ()) (if_pos rfl) ?_)
  have e1 : w64 ((n : Int) + 1) = ((n + 1 : Nat) : Int) := by rw [aaA zb]; omega
  have e2 : List.take ((wAt :: (t.2.2.2.2.1.take n).map fun x => anN (rdQ x) 6).length) (wAt :: (t.2.2.2.2.1.take n).map fun x => anN (rdQ x) 6) ++ [anN (rdQ t.2.2.2.2.1[n]) 6] = wAt :: (t.2.2.2.2.1.take (n + 1)).map fun x => anN (rdQ x) 6 := by
   rw [zp, yU, ← List.map_singleton (f := fun x => anN (rdQ x) 6), ← xR, List.take_append_getElem]
  have e3 : (wAt :: (t.2.2.2.2.1.take n).map fun x => anN (rdQ x) 6).length = n + 1 := by rw [zE, yD, zR]; omega
  have e4 : (wAt :: (t.2.2.2.2.1.take (n + 1)).map fun x => anN (rdQ x) 6).length = n + 1 + 1 := by rw [zE, yD, zR]; omega
  dsimp only
  rw [e1, e2]
  refine uN (by rw [e3]; omega) (uB (uB (uN ⟨⟨rfl, rfl, by rw [e3, e4], rfl⟩, rfl, rfl, rfl, ⟨rfl, rfl, rfl⟩, ⟨rfl, rfl, rfl⟩, ⟨rfl, rfl, rfl⟩, trivial⟩ rfl)))
 ·right
  have he : n = t.2.2.2.2.1.length := zb
  subst he
  unfold aiX
  dsimp only
  refine uF (zl (by rw [aaD]; omega)) ?_
  rw [zp]
  generalize t.2.2.2.2.1 = l at *
  by_cases h0 : l = []
  ·subst h0
   have hL := ahY (a := wAt) (b := [45]) hat (by show 1 ≤ 5000; omega)
   refine uT rfl (uN (by show (1 + 1) * 16 ≤ 140737488355328; omega) (uC _ hL.1 (uN (by dsimp only; unfold lim; omega) ?_)))
   have : atT [] = [[45]] := if_pos rfl
   rw [this]
   rfl
  ·have hL := aIp (l := wAt :: l.map fun x => anN (rdQ x) 6) (by rw [zE]; omega) (by rw [zE, yD]; omega) (fun x hx => by
    rcases zm.1 hx with rfl | hx
    ·exact hat
    ·obtain ⟨a, h1, rfl⟩ := zz.1 hx
     obtain ⟨q, hq⟩ := ha a h1
     exact aj3 hq)
   have hne : (len l == 0) = false := by
    cases l with
    | nil => exact absurd rfl h0
    | cons a r => exact beq_eq_false_iff_ne.2 (by rw [aaD, zE]; omega)
   have : atT l = l.map fun x => anN (rdQ x) 6 := if_neg h0
   rw [this, zp]
   exact uF hne (uC _ hL.1 (uN (by dsimp only; unfold lim; omega) rfl))
theorem aAt (t : TrT) (y) (h : ag4 (t, ()) = some y) : (apA t).toO = some y := by
 unfold ag4 at h
 dsimp only at h
 ·injection h with h
  subst h
  unfold apA
  by_cases hc : aEo t = true
  ·rw [if_pos hc]
   have hck : ad1 (t, ()) = some (0, ()) := by unfold ad1; dsimp only; rw [if_pos hc]
   obtain ⟨p0, p1, f0, f1, ⟨g, hg⟩, ⟨m, hm⟩, _, _⟩ := aCR hc
   have I1 := axA p0 p1
   have I2 := axA f0 (by omega : t.2.1 ≤ 1000000)
   have l1 := ahY (a := aj0) (by show 6 ≤ 5000; omega) I1.2
   have l2 := ahY (a := aj1) (by show 6 ≤ 5000; omega) I2.2
   have l3 := ahY (a := afJ) (by show 8 ≤ 5000; omega) (aj3 hg)
   have l4 := ahY (a := aAq) (by show 4 ≤ 5000; omega) (aj3 hm)
   refine uC _ hck (uF rfl (uC _ I1.1 (uC _ l1.1 (uC _ I2.1 (uC _ l2.1 (uN (by dsimp only; unfold lim; omega) (uC _ (aBN hg) (uC _ (if_pos rfl) (uC _ l3.1 (uC _ (aBN hm) (uC _ (if_pos rfl) (uC _ l4.1 (uN (by dsimp only; unfold lim; omega) (uN (by dsimp only; simp only [zu]; unfold lim; omega) (uO (0, [wAt], ()) rfl ?_)))))))))))))))
   rw [aE4 t hc _ _ _ _ _ _ _ _ _ _ _ l1.2 l2.2 l3.2 l4.2]
   rfl
  ·rw [if_neg hc]
   have hck : ad1 (t, ()) = some (410, ()) := by unfold ad1; dsimp only; rw [if_neg hc]
   exact uC _ hck (uT rfl rfl)
def acV (c : UInt8) : List UInt8 → List (List UInt8)
 | [] => [[]]
 | x :: r => if x = c then [] :: acV c r else (x :: (acV c r).headD []) :: (acV c r).tail
def aw0 (x : List UInt8 × List UInt8 × Unit) : Option (List (List UInt8) × Unit) := if x.2.1 = [10] ∧ x.1.length ≤ 1000000 then some (acV 10 x.1, ()) else none
def al1 (x : List UInt8 × Unit) : Option (List (List UInt8) × Unit) := if (∀ b ∈ x.1, b.toNat < 128) ∧ x.1.length ≤ 1000000 then some (Lib.fields x.1, ()) else none
noncomputable def aBL (x : List UInt8 × List UInt8 × Unit) : Option (Bool × Unit) := some (eqb (x.1.take x.2.1.length) x.2.1, ())
set_option maxRecDepth 100000
open Go Go.Vg Go.Proofs
noncomputable section
def aOS : LTab := []
def aLU (s : List UInt8) (prefix0 : List UInt8) : TT ud :=
 .triv (true = true) rfl <| .triv (true = true) rfl <| .ite (decide (len s ≥ len prefix0))
 (.need (inc (len prefix0) (len s)) <| .ok ((List.take (Int.toNat (len prefix0)) s == prefix0, ())))
 (.ok ((false, ())))
def aBK : LTab := [(6, 1018, 32768, ⟨0, (Int) × Unit, .dat (.s 34) vG <| .nil, [33, 6, 3], [6, 0], 0⟩)]
def agG (a : Int × Int × Int × vP × List vP × Unit) (y : Bool × Unit) (y1 : vX × Unit) (y2 : List UInt8 × Int × Unit) (y3 : List (List UInt8) × Unit) (i : (Int) × Unit) : TT (ua ⊕ ud) :=
 .ite (decide (i.1 < 5))
 (.need (inb i.1 (↑5 : Int)) <| .need (inb i.1 (len y3.1)) <| .call (aBL (gi y3.1 i.1 [], gi [#[112, 111, 105, 110, 116, 115, 32].toList, #[102, 97, 105, 108, 101, 100, 32].toList, #[103, 114, 101, 97, 116, 101, 115, 116, 32].toList, #[109, 101, 97, 110, 32].toList, #[97, 116, 32].toList] i.1 [], ())) (Ty.dflt vN) fun y4 =>
 .ite (!y4.1)
 (.ok (.inr ((false, ()))))
 (.triv (true = true) rfl <| .lt (w64 (i.1 + 1) : Int) fun z => .triv (((z : Int) = z) ∧ (([#[112, 111, 105, 110, 116, 115, 32].toList, #[102, 97, 105, 108, 101, 100, 32].toList, #[103, 114, 101, 97, 116, 101, 115, 116, 32].toList, #[109, 101, 97, 110, 32].toList, #[97, 116, 32].toList] : List (List UInt8)) = [#[112, 111, 105, 110, 116, 115, 32].toList, #[102, 97, 105, 108, 101, 100, 32].toList, #[103, 114, 101, 97, 116, 101, 115, 116, 32].toList, #[109, 101, 97, 110, 32].toList, #[97, 116, 32].toList]) ∧ ((y3.1 : List (List UInt8)) = y3.1) ∧ (((6) = (6)) ∧ (((0) = (0)) ∧ ((true) = (true)))) ∧ True) ⟨rfl, rfl, rfl, ⟨rfl, ⟨rfl, rfl⟩⟩, trivial⟩ <| .triv ((((39 : TypeId) = 39) ∧ (((y1.1.1 : Int) = y1.1.1) ∧ (((y1.1.2.1 : Int) = y1.1.2.1) ∧ (((y1.1.2.2.1.1 : List UInt8) = y1.1.2.2.1.1) ∧ (((y1.1.2.2.1.2.1 : List UInt8) = y1.1.2.2.1.2.1) ∧ (((y1.1.2.2.2.1.1 : List UInt8) = y1.1.2.2.2.1.1) ∧ (((y1.1.2.2.2.1.2.1 : List UInt8) = y1.1.2.2.2.1.2.1) ∧ (((y1.1.2.2.2.2.1 : List (List UInt8 × List UInt8 × Unit)) = y1.1.2.2.2.2.1) ∧ True)))))))) ∧ (true = true) ∧ (((28 : TypeId) = 28) ∧ (((a.1 : Int) = a.1) ∧ (((a.2.1 : Int) = a.2.1) ∧ (((a.2.2.1 : Int) = a.2.2.1) ∧ (((a.2.2.2.1.1 : Int) = a.2.2.2.1.1) ∧ (((a.2.2.2.1.2.1 : Int) = a.2.2.2.1.2.1) ∧ (((a.2.2.2.2.1 : List (Int × Int × Unit)) = a.2.2.2.2.1) ∧ True))))))) ∧ (true = true) ∧ True) ⟨⟨rfl, ⟨rfl, ⟨rfl, ⟨rfl, ⟨rfl, ⟨rfl, ⟨rfl, ⟨rfl, trivial⟩⟩⟩⟩⟩⟩⟩⟩, rfl, ⟨rfl, ⟨rfl, ⟨rfl, ⟨rfl, ⟨rfl, ⟨rfl, ⟨rfl, trivial⟩⟩⟩⟩⟩⟩⟩, rfl, trivial⟩ <| .ok (.inl ((z, ())))))
 (.need (asT Int 0 ≤ 4 ∧ 4 < len y3.1) <| .call (al1 (gi y3.1 4 [], ())) (Ty.dflt (Ty.pair (Ty.sl Ty.str) Ty.unit)) fun y5 =>
 .ite (len y5.1 == w64 (1 + if len y1.1.2.2.2.2.1 > 1 then len y1.1.2.2.2.2.1 else 1))
 (.ite (decide (len y1.1.2.2.2.2.1 > 0))
 (.ok (.inr ((true, ()))))
 (.need (asT Int 0 ≤ 4 ∧ 4 < len y3.1) <| .ok (.inr ((gi y3.1 4 [] == #[97, 116, 32, 45].toList, ())))))
 (.ok (.inr ((false, ())))))
def ahV (a : Int × Int × Int × vP × List vP × Unit) : TT ud :=
 .call (aAa ()) (Ty.dflt vN) fun y =>
 .ite (!y.1)
 (.ok ((false, ())))
 (.call (afI ((a.1, a.2.1, a.2.2.1, (a.2.2.2.1.1, a.2.2.2.1.2.1, ()), a.2.2.2.2.1, ()), ())) (Ty.dflt (Ty.pair (Ty.pair vG (Ty.pair vG (Ty.pair vT (Ty.pair vT (Ty.pair (Ty.sl vT) Ty.unit))))) Ty.unit)) fun y1 =>
 .call (ag4 ((y1.1.1, y1.1.2.1, (y1.1.2.2.1.1, y1.1.2.2.1.2.1, ()), (y1.1.2.2.2.1.1, y1.1.2.2.2.1.2.1, ()), y1.1.2.2.2.2.1, ()), ())) (Ty.dflt (Ty.pair Ty.str ue)) fun y2 =>
 .call (aw0 (y2.1, #[10].toList, ())) (Ty.dflt (Ty.pair (Ty.sl Ty.str) Ty.unit)) fun y3 =>
 .ite (y2.2.1 != 0)
 (.ok ((false, ())))
 (.ite (len y3.1 != 6)
 (.ok ((false, ())))
 (.need (asT Int 0 ≤ 5 ∧ 5 < len y3.1) <| .ite (!gi y3.1 5 [] == #[].toList)
 (.ok ((false, ())))
 (.loop 0 (.triv (true = true) rfl <| .triv (((0 : Int) = 0) ∧ (([#[112, 111, 105, 110, 116, 115, 32].toList, #[102, 97, 105, 108, 101, 100, 32].toList, #[103, 114, 101, 97, 116, 101, 115, 116, 32].toList, #[109, 101, 97, 110, 32].toList, #[97, 116, 32].toList] : List (List UInt8)) = [#[112, 111, 105, 110, 116, 115, 32].toList, #[102, 97, 105, 108, 101, 100, 32].toList, #[103, 114, 101, 97, 116, 101, 115, 116, 32].toList, #[109, 101, 97, 110, 32].toList, #[97, 116, 32].toList]) ∧ ((y3.1 : List (List UInt8)) = y3.1) ∧ (((6) = (6)) ∧ (((0) = (0)) ∧ ((true) = (true)))) ∧ True) ⟨rfl, rfl, rfl, ⟨rfl, ⟨rfl, rfl⟩⟩, trivial⟩ <| .triv ((((39 : TypeId) = 39) ∧ (((y1.1.1 : Int) = y1.1.1) ∧ (((y1.1.2.1 : Int) = y1.1.2.1) ∧ (((y1.1.2.2.1.1 : List UInt8) = y1.1.2.2.1.1) ∧ (((y1.1.2.2.1.2.1 : List UInt8) = y1.1.2.2.1.2.1) ∧ (((y1.1.2.2.2.1.1 : List UInt8) = y1.1.2.2.2.1.1) ∧ (((y1.1.2.2.2.1.2.1 : List UInt8) = y1.1.2.2.2.1.2.1) ∧ (((y1.1.2.2.2.2.1 : List (List UInt8 × List UInt8 × Unit)) = y1.1.2.2.2.2.1) ∧ True)))))))) ∧ (true = true) ∧ (((28 : TypeId) = 28) ∧ (((a.1 : Int) = a.1) ∧ (((a.2.1 : Int) = a.2.1) ∧ (((a.2.2.1 : Int) = a.2.2.1) ∧ (((a.2.2.2.1.1 : Int) = a.2.2.2.1.1) ∧ (((a.2.2.2.1.2.1 : Int) = a.2.2.2.1.2.1) ∧ (((a.2.2.2.2.1 : List (Int × Int × Unit)) = a.2.2.2.2.1) ∧ True))))))) ∧ (true = true) ∧ True) ⟨⟨rfl, ⟨rfl, ⟨rfl, ⟨rfl, ⟨rfl, ⟨rfl, ⟨rfl, ⟨rfl, trivial⟩⟩⟩⟩⟩⟩⟩⟩, rfl, ⟨rfl, ⟨rfl, ⟨rfl, ⟨rfl, ⟨rfl, ⟨rfl, ⟨rfl, trivial⟩⟩⟩⟩⟩⟩⟩, rfl, trivial⟩ <| .ok ((0, ()))) (agG a y y1 y2 y3)))))
end
def clW (w : List UInt8) : Prop := w ≠ [] ∧ ∀ b ∈ w, 33 ≤ b.toNat ∧ b.toNat < 127
theorem aN8 {w : List UInt8} (h : w ≠ []) (h2 : isD w) : clW w := ⟨h, fun b hb => by have := h2 b hb; omega⟩
theorem aHQ {z : Int} (h : 0 ≤ z) : clW (dec z) := by rw [ab4 h]; exact aN8 (aeF _) (agE _)
theorem aJi (k n : Nat) : isD (asB k n) := by
 intro b hb
 unfold asB at hb
 rcases zD.1 hb with h | h
 ·rw [(List.mem_replicate.1 h).2]; decide
 ·exact agE n b h
theorem aBB (q : Rat) : clW (anN q 6) := by
 have hp : aJe 6 (ajO q (10 ^ 6)).natAbs = aaY ((ajO q (10 ^ 6)).natAbs / 10 ^ 6) ++ 46 :: asB 6 ((ajO q (10 ^ 6)).natAbs % 10 ^ 6) := by
  unfold aJe; rw [if_neg zb]
 constructor
 ·unfold anN
  rw [hp]
  simp
 ·intro b hb
  unfold anN at hb
  rw [hp] at hb
  rcases zD.1 hb with h | h
  ·unfold aM9 at h
   split at h
   ·rw [zL.1 h]; decide
   ·cases h
  rcases zD.1 h with h | h
  ·have := agE _ b h; omega
  rcases zm.1 h with h | h
  ·rw [h]; decide
  ·have := aJi _ _ b h; omega
theorem avF {c : UInt8} {r : List UInt8} : ∀ {w : List UInt8}, (∀ b ∈ w, b ≠ c) → acV c (w ++ c :: r) = w :: acV c r
 | [], _ => by rw [yk, acV, if_pos rfl]
 | x :: w, h => by
  rw [yU, acV, if_neg (h x zx), avF fun b hb => h b (zt _ hb)]
  rfl
theorem aGO {ws : List (List UInt8)} (h : ∀ w ∈ ws, clW w) : ∀ b ∈ aeX [32] ws, 32 ≤ b.toNat ∧ b.toNat < 127 := by
 intro b hb
 cases ws with
 | nil => cases hb
 | cons x r =>
  rcases zD.1 hb with h1 | h1
  ·have := (h x zx).2 b h1; omega
  ·obtain ⟨l, h2, h3⟩ := List.mem_flatten.1 h1
   obtain ⟨y, h4, rfl⟩ := zz.1 h2
   rcases zD.1 h3 with h5 | h5
   ·rw [zL.1 h5]; decide
   ·have := (h y (zt _ h4)).2 b h5; omega
theorem agR {ws : List (List UInt8)} (h : ∀ w ∈ ws, clW w) (r : List UInt8) : acV 10 (aiC ws ++ r) = aeX [32] ws :: acV 10 r := by
 unfold aiC
 rw [zW]
 exact avF fun b hb e => by have := (aGO h b hb).1; rw [e] at this; exact absurd this ze
theorem aMc {b : UInt8} (h : 33 ≤ b.toNat) : Lib.isSp b = false := by
 unfold Lib.isSp
 have H : ∀ c : UInt8, c.toNat < 33 → (b == c) = false := fun c hc => beq_eq_false_iff_ne.2 fun e => by rw [e] at h; omega
 rw [H 9 ze, H 10 ze, H 11 ze, H 12 ze, H 13 ze, H 32 ze]
 rfl
theorem aBd {r : List UInt8} : ∀ {w cur : List UInt8}, (∀ b ∈ w, 33 ≤ b.toNat ∧ b.toNat < 127) → Lib.fieldsGo cur (w ++ r) = Lib.fieldsGo (cur ++ w) r
 | [], cur, _ => by rw [yk, xe]
 | x :: w, cur, h => by
  rw [yU, Lib.fieldsGo, aMc (h x zx).1, if_neg ze, aBd fun b hb => h b (zt _ hb), zW]
  rfl
theorem aCG : ∀ {r : List (List UInt8)} {x : List UInt8}, clW x → (∀ w ∈ r, clW w) → Lib.fieldsGo [] (x ++ (r.map fun y => [32] ++ y).flatten) = x :: r
 | [], x, hx, _ => by
  rw [aBd hx.2, yk, List.map_nil, List.flatten_nil, Lib.fieldsGo]
  have : x.isEmpty = false := by
   cases x with
   | nil => exact absurd rfl hx.1
   | cons a b => rfl
  rw [this]; rfl
 | y :: r, x, hx, h => by
  have ih := aCG (h y zx) fun w hw => h w (zt _ hw)
  have : x.isEmpty = false := by
   cases x with
   | nil => exact absurd rfl hx.1
   | cons a b => rfl
  rw [aBd hx.2, yk, xP, xH, zW, List.singleton_append, Lib.fieldsGo, this]
  show x :: Lib.fieldsGo [] _ = _
  rw [ih]
theorem aHR (l : List FxT) : ∀ w ∈ atT l, clW w := by
 intro w hw
 unfold atT at hw
 split at hw
 ·rw [zL.1 hw]; exact ⟨by simp, by decide⟩
 ·obtain ⟨x, _, rfl⟩ := zz.1 hw
  exact aBB _
theorem cl2 {a b : List UInt8} (h1 : clW a) (h2 : clW b) : ∀ w ∈ [a, b], clW w := by
 intro w hw
 rcases zm.1 hw with rfl | hw
 ·exact h1
 ·rw [zL.1 hw]; exact h2
theorem clW_words : clW aj0 ∧ clW aj1 ∧ clW afJ ∧ clW aAq ∧ clW wAt := by
 refine ⟨⟨by decide, by decide⟩, ⟨by decide, by decide⟩, ⟨by decide, by decide⟩, ⟨by decide, by decide⟩, ⟨by decide, by decide⟩⟩
theorem aC9 {t : TrT} (h0 : 0 ≤ t.1) (h1 : 0 ≤ t.2.1) : acV 10 (avA t) = [aeX [32] [aj0, dec t.1], aeX [32] [aj1, dec t.2.1], aeX [32] [afJ, anN (rdQ t.2.2.1) 6], aeX [32] [aAq, anN (rdQ t.2.2.2.1) 6], aeX [32] (wAt :: atT t.2.2.2.2.1), []] := by
 obtain ⟨c1, c2, c3, c4, c5⟩ := clW_words
 unfold avA
 rw [← xe (aiC (wAt :: atT t.2.2.2.2.1))]
 simp only [zW]
 rw [agR (cl2 c1 (aHQ h0)), agR (cl2 c2 (aHQ h1)), agR (cl2 c3 (aBB _)), agR (cl2 c4 (aBB _)), agR]
 ·rfl
 ·intro w hw
  rcases zm.1 hw with rfl | hw
  ·exact c5
  ·exact aHR _ w hw
theorem aGR {c : UInt8} : ∀ {w : List UInt8}, (∀ b ∈ w, b ≠ c) → Lib.indexByte w c = -1
 | [], _ => rfl
 | x :: w, h => by
  have h1 : (x == c) = false := beq_eq_false_iff_ne.2 (h x zx)
  have h2 := aGR fun b hb => h b (zt _ hb)
  rw [Lib.indexByte, h1, h2]
  rfl
theorem aNO {c : UInt8} {r : List UInt8} : ∀ {w : List UInt8}, (∀ b ∈ w, b ≠ c) → Lib.indexByte (w ++ c :: r) c = w.length
 | [], _ => by rw [yk, Lib.indexByte, if_pos (beq_self_eq_true c)]; rfl
 | x :: w, h => by
  have h1 : (x == c) = false := beq_eq_false_iff_ne.2 (h x zx)
  have h2 := aNO (r := r) fun b hb => h b (zt _ hb)
  have h3 : (((w.length : Nat) : Int) == -1) = false := beq_eq_false_iff_ne.2 zb
  rw [yU, Lib.indexByte, h1, h2, h3, zE]
  show ((w.length : Nat) : Int) + 1 = _
  omega
theorem atA {c : UInt8} : ∀ {w : List UInt8}, (∀ b ∈ w, b ≠ c) → acV c w = [w]
 | [], _ => rfl
 | x :: w, h => by
  rw [acV, if_neg (h x zx), atA fun b hb => h b (zt _ hb)]
  rfl
theorem aLr (c : UInt8) : ∀ s : List UInt8, (∀ b ∈ s, b ≠ c) ∨ ∃ w r, s = w ++ c :: r ∧ ∀ b ∈ w, b ≠ c
 | [] => Or.inl fun _ h => absurd h List.not_mem_nil
 | x :: s => by
  by_cases e : x = c
  ·subst e
   exact Or.inr ⟨[], s, rfl, fun _ h => absurd h List.not_mem_nil⟩
  ·rcases aLr c s with h | ⟨w, r, h1, h2⟩
   ·refine Or.inl fun b hb => ?_
    rcases zm.1 hb with rfl | hb
    ·exact e
    ·exact h b hb
   ·refine Or.inr ⟨x :: w, r, by rw [h1]; rfl, fun b hb => ?_⟩
    rcases zm.1 hb with rfl | hb
    ·exact e
    ·exact h2 b hb
theorem aGL (c : UInt8) : ∀ (n : Nat) (s : List UInt8), s.length ≤ n → Lib.splitK [c] 0 (Lib.count s [c]) s = acV c s := by
 intro n
 induction n with
 | zero =>
  intro s hs
  cases s with
  | nil =>
   rw [Lib.count_miss (by rw [Lib.index_one]; rfl)]; rfl
  | cons x r => rw [zE] at hs; omega
 | succ n ih =>
  intro s hs
  rcases aLr c s with h | ⟨w, r, rfl, h⟩
  ·rw [Lib.count_miss (by rw [Lib.index_one, aGR h]), atA h]; rfl
  ·have hi : Lib.index (w ++ c :: r) [c] = w.length := by rw [Lib.index_one, aNO h]
   rw [zu, zE] at hs
   have hd : (w ++ c :: r).drop (w.length + [c].length) = r := by
    rw [← zQ, List.drop_left]; rfl
   rw [Lib.count_hit zg hi, yK, Lib.splitK, hi, hd, avF h]
   have h3 : (((w.length : Nat) : Int) == -1) = false := beq_eq_false_iff_ne.2 zb
   rw [h3, zj, hd, Nat.add_zero, wG, ih r zb]
   rfl
theorem aDZ (s sep : ByteArray) (h : sep.data.toList = [10]) : (Lib.splitB sep 0 (Lib.countB s sep) s).map (·.data.toList) = acV 10 s.data.toList := by
 rw [Lib.splitB_data, h]
 show Lib.splitK [10] 0 (Lib.count s.data.toList sep.data.toList) _ = _
 rw [h]
 exact aGL 10 _ _ (zi _)
end Go.Vs
namespace Go.Vg
open Go Go.Proofs
theorem as7 {ok : Nat → Prop} {w : World} : ∀ ls : List ByteArray, (∀ x ∈ ls, x.size ≤ lim) → RdL (Rd ok w .str) (ls.map (·.data.toList)) (ls.map Value.string)
 | [], _ => rfl
 | x :: ls, h => ⟨[.string x], ls.map Value.string, rfl, ⟨rfl, h x zx⟩, as7 ls fun y hy => h y (zt _ hy)⟩
theorem aE9 {ok : Nat → Prop} {w : World} (ls : List ByteArray) (t : TypeId) (l : List Ty.str.T) (hs : l.length = ls.length) (hn : ls.length ≤ lim)
  (hl : RdL (Rd (alC ok w (w.alloc (.cells (ls.map Value.string).toArray t))) (w.alloc (.cells (ls.map Value.string).toArray t)) .str) l (ls.map Value.string)) :
  RdVs (alC ok w (w.alloc (.cells (ls.map Value.string).toArray t))) (w.alloc (.cells (ls.map Value.string).toArray t)) (.pair (.sl .str) .unit) (l, ()) [.slice (some ⟨w.heap.size, 0, none⟩) ls.length ls.length] := by
 have e : ((ls.map Value.string).toArray.toList.drop 0).take (l.length * Ty.str.size) = ls.map Value.string := by
  rw [hs, show Ty.str.size = 1 from rfl, wy, yv, zq zg]
 have h1 : [Value.slice (some ⟨w.heap.size, 0, none⟩) ls.length ls.length] = [Value.slice (some ⟨w.heap.size, 0, none⟩) l.length ls.length] := by rw [hs]
 have h2 : 0 + l.length * Ty.str.size ≤ (ls.map Value.string).toArray.size := by
  rw [hs, show Ty.str.size = 1 from rfl]; simp
 have h3 : w.heap.size < (w.alloc (.cells (ls.map Value.string).toArray t)).heap.size := by unfold World.alloc; simp
 have h4 : (w.alloc (.cells (ls.map Value.string).toArray t)).heap[w.heap.size]? = some (.cells (ls.map Value.string).toArray t) := by unfold World.alloc; simp
 exact ⟨_, [], rfl, ⟨[.slice (some ⟨w.heap.size, 0, none⟩) ls.length ls.length], ⟨some ⟨w.heap.size, 0, none⟩, ls.length, h1, by show l.length ≤ ls.length; omega, by show l.length ≤ lim; omega, Or.inr ⟨w.heap.size, 0, (ls.map Value.string).toArray, t, (0, 0), rfl, Or.inr ⟨zi _, h3⟩, h4, h2, by rw [e]; exact hl⟩⟩, rfl⟩, rfl⟩
theorem aBR {ok : Nat → Prop} {w : World} (ls : List ByteArray) (t : TypeId) (h : ∀ x ∈ ls, x.size ≤ lim) (hn : ls.length ≤ lim) :
  RdVs (alC ok w (w.alloc (.cells (ls.map Value.string).toArray t))) (w.alloc (.cells (ls.map Value.string).toArray t)) (.pair (.sl .str) .unit) (ls.map (·.data.toList), ()) [.slice (some ⟨w.heap.size, 0, none⟩) ls.length ls.length] :=
 aE9 ls t _ (yD ..) hn (as7 ls h)
end Go.Vg
namespace Go.Vs
open Go Go.Vg Go.Proofs Go.Lib Go.RowKit Go.Joins
theorem axL (c : UInt8) : ∀ (s : List UInt8), ∀ p ∈ acV c s, p.length ≤ s.length
 | [], p, h => by rw [zL.1 h]; exact zi _
 | x :: s, p, h => by
  have ih := axL c s
  rw [acV] at h
  split at h
  ·rcases zm.1 h with rfl | h
   ·exact zN _
   ·exact zw (ih p h) (yJ _)
  ·rcases zm.1 h with rfl | h
   ·have : ((acV c s).headD []).length ≤ s.length := by
     cases hh : acV c s with
     | nil => exact zN _
     | cons a b => exact ih a (by rw [hh]; exact zx)
    rw [zE, zE]; omega
   ·exact zw (ih p (List.mem_of_mem_tail h)) (yJ _)
theorem aDa {P : Program} {f : FuncId} {s : List UInt8} {w : World} {ok : Nat → Prop} {t : TypeId} (hs : s.length ≤ 1000000)
  (h : Calls P f ⟨[.string ⟨⟨s⟩⟩, .string ⟨⟨[10]⟩⟩]⟩ w fun e w' =>
   e = .returned (.slice (some ⟨w.heap.size, 0, none⟩) (Lib.countB ⟨⟨s⟩⟩ ⟨⟨[10]⟩⟩ + 1) (Lib.countB ⟨⟨s⟩⟩ ⟨⟨[10]⟩⟩ + 1)) ∧ w' = w.alloc (.cells ((Lib.splitB ⟨⟨[10]⟩⟩ 0 (Lib.countB ⟨⟨s⟩⟩ ⟨⟨[10]⟩⟩) ⟨⟨s⟩⟩).map Value.string).toArray t)) :
  Calls P f ⟨[.string ⟨⟨s⟩⟩, .string ⟨⟨[10]⟩⟩]⟩ w fun e w' => ∃ rs, e = .returned (aB5 rs) ∧ RdVs (alC ok w w') w' (.pair (.sl .str) .unit) (acV 10 s, ()) rs ∧ Below w.heap.size w w' := by
 refine h.mono ?_
 rintro e w' ⟨rfl, rfl⟩
 have hd := aDZ ⟨⟨s⟩⟩ ⟨⟨[10]⟩⟩ rfl
 have hl := Lib.splitB_all ⟨⟨[10]⟩⟩ ze 0 _ ⟨⟨s⟩⟩ rfl
 have hc := Lib.countB_le ⟨⟨[10]⟩⟩ ze _ ⟨⟨s⟩⟩ (zi _)
 have hz : (⟨⟨s⟩⟩ : ByteArray).size = s.length := rfl
 generalize Lib.splitB ⟨⟨[10]⟩⟩ 0 (Lib.countB ⟨⟨s⟩⟩ ⟨⟨[10]⟩⟩) ⟨⟨s⟩⟩ = ls at *
 rw [← hl]
 have hd' : ls.map (·.data.toList) = acV 10 s := hd
 refine ⟨[.slice (some ⟨w.heap.size, 0, none⟩) ls.length ls.length], rfl, ?_, below_alloc1 _ _⟩
 rw [← hd']
 refine aBR ls t (fun x hx => ?_) (by rw [hl]; unfold lim; omega)
 have h1 : x.data.toList ∈ acV 10 s := by rw [← hd']; exact zz.2 ⟨x, hx, rfl⟩
 have h2 := axL 10 s _ h1
 have h3 : x.size = x.data.toList.length := by rw [Array.length_toList]; rfl
 unfold lim
 omega
theorem aq2 : ∀ (s cur : List UInt8), ∀ p ∈ Lib.fieldsGo cur s, p.length ≤ cur.length + s.length
 | [], cur, p, h => by
  rw [Lib.fieldsGo] at h
  split at h
  ·cases h
  ·rw [zL.1 h]; exact zi _
 | x :: s, cur, p, h => by
  have ih := aq2 s
  rw [Lib.fieldsGo] at h
  rw [zE]
  split at h
  ·split at h
   ·have := ih [] p h; rw [xA] at this; omega
   ·rcases zm.1 h with rfl | h
    ·omega
    ·have := ih [] p h; rw [xA] at this; omega
  ·have := ih _ p h; rw [zu, zE, xA] at this; omega
theorem an4 : ∀ (s cur : List UInt8), (Lib.fieldsGo cur s).length ≤ s.length + 1
 | [], cur => by rw [Lib.fieldsGo]; split <;> simp
 | x :: s, cur => by
  have ih := an4 s
  rw [Lib.fieldsGo, zE]
  split
  ·split
   ·have := ih []; omega
   ·have := ih []; rw [zE]; omega
  ·have := ih (cur ++ [x]); omega
theorem aBg {P : Program} {f : FuncId} {s : List UInt8} {w : World} {ok : Nat → Prop} {t : TypeId} (hs : s.length ≤ 1000000)
  (h : Calls P f ⟨[.string ⟨⟨s⟩⟩]⟩ w fun e w' =>
   e = .returned (.slice (some ⟨w.heap.size, 0, none⟩) (Lib.fields s).length (Lib.fields s).length) ∧ w' = w.alloc (.cells ((Lib.fields s).map fun l => Value.string ⟨l.toArray⟩).toArray t)) :
  Calls P f ⟨[.string ⟨⟨s⟩⟩]⟩ w fun e w' => ∃ rs, e = .returned (aB5 rs) ∧ RdVs (alC ok w w') w' (.pair (.sl .str) .unit) (Lib.fields s, ()) rs ∧ Below w.heap.size w w' := by
 refine h.mono ?_
 rintro e w' ⟨rfl, rfl⟩
 have h1 : ∀ p ∈ Lib.fields s, p.length ≤ lim := fun p hp => by
  have := aq2 s [] p hp
  rw [xA] at this
  unfold lim; omega
 have h2 := an4 s []
 have h3 : (Lib.fields s).length ≤ s.length + 1 := h2
 generalize Lib.fields s = l at *
 have e1 : (l.map fun l => Value.string ⟨l.toArray⟩) = (l.map fun l => (⟨l.toArray⟩ : ByteArray)).map Value.string := by rw [List.map_map]; rfl
 have e2 : (l.map fun l => (⟨l.toArray⟩ : ByteArray)).map (fun b => b.data.toList) = l := by rw [List.map_map]; exact List.map_id _
 have e3 : l.length = (l.map fun l => (⟨l.toArray⟩ : ByteArray)).length := (yD ..).symm
 rw [e1]
 refine ⟨[.slice (some ⟨w.heap.size, 0, none⟩) l.length l.length], rfl, ?_, below_alloc1 _ _⟩
 have := aBR (ok := ok) (w := w) (l.map fun l => (⟨l.toArray⟩ : ByteArray)) t (fun x hx => by
  obtain ⟨p, hp, rfl⟩ := zz.1 hx
  exact h1 p hp) (by rw [← e3]; unfold lim; omega)
 rw [← e3] at this
 exact Eq.mp (congrArg (fun z : List (List UInt8) => RdVs (alC ok w (w.alloc (.cells ((l.map fun l => (⟨l.toArray⟩ : ByteArray)).map Value.string).toArray t))) (w.alloc (.cells ((l.map fun l => (⟨l.toArray⟩ : ByteArray)).map Value.string).toArray t)) (.pair (.sl .str) .unit) (z, ()) [.slice (some ⟨w.heap.size, 0, none⟩) l.length l.length]) e2) this
open Go Go.Vg Go.RowKit Go.Proofs
theorem aCx (sep : List UInt8) : ∀ l : List (List UInt8), aeX sep l = ayW sep l
 | [] => rfl
 | x :: r => by
  have ht : ∀ r : List (List UInt8), aD2 sep r = (r.map fun y => sep ++ y).flatten := by
   intro r
   induction r with
   | nil => rfl
   | cons y r ih => simp only [aD2, ih, xP, xH, zW]
  show x ++ _ = x ++ _
  rw [ht]
theorem aGP {w : World} {ok : Nat → Prop} {l : List (List UInt8)} {sep : List UInt8} {b o cap : Nat} {c : Array Value} {e : TypeId} {fr : Nat × Nat} (hb : w.heap[b]? = some (.cells c e fr)) (hbl : b < w.heap.size)
  (hr : (c.toList.drop o).take l.length = l.map fun s => .string ⟨⟨s⟩⟩) (k1 : l.length ≤ cap) (g1 : l.length ≤ 1000) (g2 : (aeX sep l).length ≤ 1000000) :
  Calls Tryz.prog 70 ⟨[.slice (some ⟨b, o, none⟩) l.length cap, .string ⟨⟨sep⟩⟩]⟩ w fun e w' => ∃ rs, e = .returned (aB5 rs) ∧ RdVs (alC ok w w') w' (.pair .str .unit) (aeX sep l, ()) rs ∧ Below w.heap.size w w' := by
 have g2' : (ayW sep l).length ≤ 1000000 := by rw [← aCx]; exact g2
 refine (at5 (fun bk o c xs sep w h1 h2 h3 h4 h5 => Tryz.strings_Join bk o c xs sep w h1 h2 h3 h4 h5) (l := l) (sep := sep) hb hbl hr k1 g1 g2').mono ?_
 rintro e w' ⟨rfl, hbw⟩
 rw [← aCx]
 exact ⟨[.string ⟨⟨aeX sep l⟩⟩], rfl, aBT (zw g2 ze), hbw⟩
theorem aLZ : (aEV (.pair (.sl .str) (.pair .str .unit)) (.pair .str .unit) aIi).ok Tryz.prog Gt 70 := by
 refine akN (by kernel_rfl) (fun w ok vs x y hG hok hvs hy => ?_)
 obtain ⟨l, sep, u⟩ := x
 obtain ⟨v, us, rfl, hv, v2, us2, rfl, hv2, hus⟩ := hvs
 obtain rfl : us2 = [] := hus
 obtain rfl := aM4 hv2
 unfold aIi at hy
 split at hy
 case isFalse => cases hy
 case isTrue hr =>
 injection hy with hy
 subst hy
 obtain ⟨g0, g1, g2⟩ := hr
 obtain ⟨cs, ⟨a, cap, e2, k1, k2, k3⟩, hv⟩ := hv
 subst e2
 have hv' : [Value.slice a (List.length (α := List UInt8) l) cap] = [v] := hv
 injection hv' with hv'
 subst hv'
 rcases k3 with k3 | ⟨b, o, c, e, fr, rfl, hokb, hb, hs, hr⟩
 ·have k3' : l = [] := k3
  rw [k3'] at g0
  cases g0
 ·have hr2 : (c.toList.drop o).take (List.length (α := List UInt8) l) = (l : List (List UInt8)).map fun s => Value.string ⟨⟨s⟩⟩ := by
   rw [← ak5 _ _ hr]
   show _ = (c.toList.drop o).take (List.length (α := List UInt8) l * 1)
   rw [wy]
  exact aGP hb (hok b hokb) hr2 k1 g1 g2
theorem aJm : (aEV (.pair .str (.pair .str .unit)) (.pair (.sl .str) .unit) aw0).ok Tryz.prog Gt 23 := by
 refine akN (by kernel_rfl) (fun w ok vs x y hG hok hvs hy => ?_)
 obtain ⟨s, sep, u⟩ := x
 obtain ⟨v, us, rfl, hv, v2, us2, rfl, hv2, hus⟩ := hvs
 obtain rfl : us2 = [] := hus
 obtain rfl := aM4 hv
 obtain rfl := aM4 hv2
 unfold aw0 at hy
 split at hy
 case isFalse => cases hy
 case isTrue hr =>
 injection hy with hy
 subst hy
 obtain ⟨g0, g1⟩ := hr
 have g0' : sep = [10] := g0
 subst g0'
 obtain ⟨_, _, _, m, hm⟩ := hG
 exact aDa g1 (Tryz.strings_Split ⟨⟨s⟩⟩ ⟨⟨[10]⟩⟩ m w (by have g1' : List.length (α := UInt8) s ≤ 1000000 := g1; show List.length (α := UInt8) s < _; omega) hm ze)
theorem aGl : (aEV (.pair .str .unit) (.pair (.sl .str) .unit) al1).ok Tryz.prog Gt 25 := by
 refine akN (by kernel_rfl) (fun w ok vs x y hG hok hvs hy => ?_)
 obtain ⟨s, u⟩ := x
 obtain ⟨v, us, rfl, hv, hus⟩ := hvs
 obtain rfl : us = [] := hus
 obtain rfl := aM4 hv
 unfold al1 at hy
 split at hy
 case isFalse => cases hy
 case isTrue hr =>
 injection hy with hy
 subst hy
 obtain ⟨g0, g1⟩ := hr
 obtain ⟨_, _, h3, _⟩ := hG
 exact aBg g1 (Tryz.strings_Fields ⟨⟨s⟩⟩ w (by have g1' : List.length (α := UInt8) s ≤ 1000000 := g1; show List.length (α := UInt8) s < _; omega) (fun j b hb => g0 b (List.mem_of_getElem? hb)) h3)
theorem aPs {n d : Int} (h1 : ad7 n) (h2 : 0 < d) (h3 : ad7 d) : aAc (n, d, ()) = some (fx (mkRat n d.toNat), 0, ()) := by
 have h4 := h3.2
 have := aOm (n := n) (d := d.toNat) h1 zb zb
 rwa [show ((d.toNat : Nat) : Int) = d by omega] at this
theorem aDp (n d : Int) (y) (h : aeR (n, d, ()) = some y) : (aCc n d).toO = some y := by
 unfold aeR at h
 split at h
 ·rename_i hp
  exact uC (fx (mkRat n d.toNat), 0, ()) (by unfold ar4; exact aPs hp.1 hp.2.1 hp.2.2) h
 ·cases h
theorem ao3 {n d : Int} (h1 : ad7 n) (h2 : 0 < d) (h3 : ad7 d) : aeR (n, d, ()) = some (fx (mkRat n d.toNat), ()) := if_pos ⟨h1, h2, h3⟩
theorem avQ (x : NmT) (y) (h : adV (x, ()) = some y) : (aj5 x).toO = some y := by
 unfold adV at h
 split at h
 case isFalse => cases h
 case isTrue hx =>
 injection h with h
 subst h
 obtain ⟨n, d, u⟩ := x
 obtain ⟨h1, h2, h3, h4⟩ := hx
 dsimp only at h1 h2 h3 h4
 unfold aj5
 have e1 : w64 d = d := aaA zb
 have e2 : w64 n = n := aaA zb
 have e3 : w64 (1 + d) = d + 1 := by rw [aaA zb]; omega
 have e4 : w64 (d + 1 + 1) = d + 2 := by rw [aaA zb]; omega
 dsimp only
 rw [e1, e2, e3, e4]
 refine uN zb ?_
 have hb : (n.tmod (d + 2)).natAbs < (d + 2).natAbs := by
  rw [xD]; exact yz _ zb
 unfold shQ
 dsimp only
 generalize hr : n.tmod (d + 2) = r at hb ⊢
 by_cases c : r < 0
 ·refine uT (zn c) ?_
  have e5 : w64 (0 - r) = ((r.natAbs : Nat) : Int) := by rw [aaA zb]; omega
  rw [e5]
  exact uC _ (ao3 ⟨by omega, by omega⟩ zb ⟨by omega, by omega⟩) rfl
 ·refine uF (zl c) ?_
  have e5 : r = ((r.natAbs : Nat) : Int) := zb
  conv => lhs; rw [e5]
  exact uC _ (ao3 ⟨by omega, by omega⟩ zb ⟨by omega, by omega⟩) rfl
theorem akX {x : NmT} (h : aLi x) : adV (x, ()) = some (fx (shQ x), ()) := if_pos h
theorem aMJ {a : FxT} (h : rdF a = none) : afC (a, ()) = some (0, 20, ()) := by unfold afC; simp only [h]
theorem aIr {a : FxT} {q : Rat} (h : rdF a = some q) : afC (a, ()) = some (q.num.sign, 0, ()) := by unfold afC; simp only [h]
noncomputable def aFt (a : FxT) (i : Int) : (Int × Unit) ⊕ (Int × Unit) := match rdF a with
 | none => .inr (410, ())
 | some q => if q < 0 then .inr (410, ()) else .inl (i, ())
theorem axG (t : TrT) (k : Nat) (hk : k < 2) (z : FxT) (hz : List.getD [t.2.2.1, t.2.2.2.1] k ([], [], ()) = z) : (abX t ((k : Int), ())).toO = some (aFt z ((k + 1 : Nat) : Int)) := by
 have hx : List.getD [(t.2.2.1.1, t.2.2.1.2.1, ()), (t.2.2.2.1.1, t.2.2.2.1.2.1, ())] (0 + Int.toNat ((k : Int), ()).1) ([], [], ()) = z := by
  rw [← hz]
  match k, hk with
  | 0, _ => rfl
  | 1, _ => rfl
 unfold abX
 refine uT sd (uN sd ?_)
 rw [hx]
 unfold aFt
 cases hr : rdF z with
 | none => exact uC _ (aMJ hr) (uT rfl rfl)
 | some q =>
  refine uC _ (aIr hr) (uF rfl ?_)
  by_cases c : q < 0
  ·dsimp only
   rw [if_pos c]
   exact uT (zn ((anQ q).2 c)) rfl
  ·dsimp only
   rw [if_neg c]
   refine uF (zl (fun h => c ((anQ q).1 h))) ?_
   repeat refine za ?_
   rw [aaA (x := (k : Int) + 1) zb]; rfl
noncomputable def aEW (l : List FxT) : Bool := l.all fun a => (rdF a).isSome
theorem aIK (t : TrT) (i : Int × Unit) (y1 : Int × Int × Unit) (hl : t.2.2.2.2.1.length ≤ 4) : ac0 (fun i1 => (aj2 t i y1 i1).toO) (0, ()) = some (.inr ((if aEW t.2.2.2.2.1 then 0 else 410), ())) := by
 obtain ⟨p, f, g, m, l, u⟩ := t
 dsimp only at hl ⊢
 refine aaM (fun i : Int × Unit => ∃ k : Nat, k ≤ l.length ∧ i = ((k : Int), ()) ∧ aEW (l.take k) = true) (fun i => ((l.length : Int) - i.1).toNat) (fun _ => (Sum.inr ((if aEW l then 0 else 410), ()) : (Int × Unit) ⊕ (Int × Unit))) ?_ _ ⟨0, by omega, rfl, by unfold aEW; simp⟩
 rintro i ⟨k, h2, rfl, h3⟩
 unfold aj2
 dsimp only
 simp only [aaK]
 rcases zv k l.length with hk | hk
 ·have e1 : l.getD k ([], [], ()) = l[k] := by simp [hk]
  rw [e1]
  by_cases c : (rdF l[k]).isSome = true
  ·left
   refine ⟨(((k + 1 : Nat) : Int), ()), ?_, ⟨k + 1, by omega, rfl, ?_⟩, by dsimp only; omega, zd⟩
   ·refine uT sd (uN sd (uC (0, ()) ?_ (uF rfl ?_)))
    ·show ae3 (l[k], ()) = _
     unfold ae3; dsimp only; rw [if_pos c]
    ·repeat refine za ?_
     rw [aaA (x := (k : Int) + 1) zb]; rfl
   ·unfold aEW at h3 ⊢
    rw [yf hk, List.all_append, h3]
    simp [c]
  ·right
   have e2 : aEW l = false := by unfold aEW; exact List.all_eq_false.2 ⟨l[k], yw hk, c⟩
   rw [e2]
   refine uT sd (uN sd (uC (20, ()) ?_ (uT rfl rfl)))
   show ae3 (l[k], ()) = _
   unfold ae3; dsimp only; rw [if_neg c]
 ·right
  rw [zq hk] at h3
  rw [h3]
  exact uF sd rfl
theorem alI (q : Rat) : q.num.sign = 0 ↔ q = 0 := by
 constructor
 ·intro h; exact Rat.num_eq_zero.1 (Int.sign_eq_zero_iff_zero.1 h)
 ·rintro rfl; rfl
theorem aIL (t : TrT) (g m : Rat) (hg : rdF t.2.2.1 = some g) (hm : rdF t.2.2.2.1 = some m) : (abX t (2, ())).toO = some (.inr ((if decide (m ≤ g) && (if t.2.1 = t.1 then decide (t.2.2.2.2.1 = [] ∧ g = 0) else decide (1 ≤ t.2.2.2.2.1.length ∧ t.2.2.2.2.1.length ≤ 4) && aEW t.2.2.2.2.1) then 0 else 410), ())) := by
 unfold abX
 refine uF rfl ?_
 have hc : anI (t.2.2.2.1, t.2.2.1, ()) = some (aLd m g, 0, ()) := by unfold anI; simp only [hg, hm]
 refine uC _ hc (uF rfl ?_)
 by_cases c1 : m ≤ g
 case neg =>
  rw [zl c1]
  exact uT (zn ((aCi m g).2 (Rat.not_le.1 c1))) rfl
 rw [zn c1]
 refine uF (zl (fun h => wW.2 c1 ((aCi m g).1 h))) ?_
 by_cases c2 : t.2.1 = t.1
 ·rw [if_pos c2]
  refine uT (xi.2 c2) (uC _ (aIr hg) ?_)
  by_cases c3 : t.2.2.2.2.1 = []
  ·refine uF (by rw [c3]; rfl) (uF rfl ?_)
   by_cases c4 : g = 0
   ·rw [zn (show t.2.2.2.2.1 = [] ∧ g = 0 from ⟨c3, c4⟩)]
    refine uF ?_ rfl
    rw [bne_eq_false_iff_eq]; exact (alI g).2 c4
   ·rw [zl (fun h : t.2.2.2.2.1 = [] ∧ g = 0 => c4 h.2)]
    refine uT ?_ rfl
    rw [xo]; exact fun h => c4 ((alI g).1 h)
  ·rw [zl (fun h : t.2.2.2.2.1 = [] ∧ g = 0 => c3 h.1)]
   refine uT ?_ rfl
   rw [xo]
   intro h
   have h' : ((t.2.2.2.2.1.length : Nat) : Int) = 0 := h
   exact c3 (yd zb)
 ·rw [if_neg c2]
  refine uF (beq_eq_false_iff_ne.2 c2) ?_
  by_cases c3 : 1 ≤ t.2.2.2.2.1.length
  case neg =>
   rw [zl (fun h : 1 ≤ t.2.2.2.2.1.length ∧ t.2.2.2.2.1.length ≤ 4 => c3 h.1)]
   exact uT sd rfl
  refine uF sd ?_
  by_cases c4 : t.2.2.2.2.1.length ≤ 4
  case neg =>
   rw [zl (fun h : 1 ≤ t.2.2.2.2.1.length ∧ t.2.2.2.2.1.length ≤ 4 => c4 h.2)]
   exact uT sd rfl
  refine uF sd ?_
  rw [zn (show 1 ≤ t.2.2.2.2.1.length ∧ t.2.2.2.2.1.length ≤ 4 from ⟨c3, c4⟩)]
  exact uO (0, ()) rfl (aIK t (2, ()) _ c4)
theorem aHS (t : TrT) (h : 0 ≤ t.1 ∧ t.1 ≤ 1000000 ∧ 0 ≤ t.2.1 ∧ t.2.1 ≤ t.1) : aEo t = (match rdF t.2.2.1, rdF t.2.2.2.1 with
 | some g, some m => decide (0 ≤ g ∧ 0 ≤ m ∧ m ≤ g) && (if t.2.1 = t.1 then decide (t.2.2.2.2.1 = [] ∧ g = 0) else decide (1 ≤ t.2.2.2.2.1.length ∧ t.2.2.2.2.1.length ≤ 4) && aEW t.2.2.2.2.1)
 | _, _ => false) := by
 unfold aEo aEW
 rw [zn h, wu]
 rfl
theorem awQ (t : TrT) (h : ¬(0 ≤ t.1 ∧ t.1 ≤ 1000000 ∧ 0 ≤ t.2.1 ∧ t.2.1 ≤ t.1)) : aEo t = false := by
 unfold aEo
 rw [zl h, we]
theorem axI (t : TrT) (y) (h : ad1 (t, ()) = some y) : (al8 t).toO = some y := by
 unfold ad1 at h
 injection h with h
 subst h
 dsimp only
 unfold al8
 by_cases c1 : t.1 < 0
 ·rw [awQ t zb]; exact uT (zn c1) rfl
 refine uF (zl c1) ?_
 by_cases c2 : t.1 > 1000000
 ·rw [awQ t zb]; exact uT (zn c2) rfl
 refine uF (zl c2) ?_
 by_cases c3 : t.2.1 < 0
 ·rw [awQ t zb]; exact uT (zn c3) rfl
 refine uF (zl c3) ?_
 by_cases c4 : t.2.1 > t.1
 ·rw [awQ t zb]; exact uT (zn c4) rfl
 refine uF (zl c4) (uO (0, ()) rfl ?_)
 rw [aHS t zb]
 have r0 := axG t 0 zb t.2.2.1 rfl
 have r1 := axG t 1 zb t.2.2.2.1 rfl
 unfold aFt at r0 r1
 cases hg : rdF t.2.2.1 with
 | none =>
  rw [hg] at r0
  exact adY r0
 | some g =>
  rw [hg] at r0
  dsimp only at r0
  by_cases g0 : g < 0
  ·rw [if_pos g0] at r0
   have e : ac0 (fun i => (abX t i).toO) (0, ()) = some (410, ()) := adY r0
   rw [e]
   cases hm : rdF t.2.2.2.1 with
   | none => rfl
   | some m =>
    dsimp only
    have e2 : decide (0 ≤ g ∧ 0 ≤ m ∧ m ≤ g) = false := zl (fun h => wW.2 h.1 g0)
    simp only [e2, we, yl, if_false]
  ·rw [if_neg g0] at r0
   have e0 : ac0 (fun i => (abX t i).toO) (0, ()) = ac0 (fun i => (abX t i).toO) (1, ()) := aeE r0
   rw [e0]
   cases hm : rdF t.2.2.2.1 with
   | none =>
    rw [hm] at r1
    exact adY r1
   | some m =>
    rw [hm] at r1
    dsimp only at r1 ⊢
    by_cases m0 : m < 0
    ·rw [if_pos m0] at r1
     have e2 : decide (0 ≤ g ∧ 0 ≤ m ∧ m ≤ g) = false := zl (fun h => wW.2 h.2.1 m0)
     simp only [e2, we, yl, if_false]
     exact adY r1
    ·rw [if_neg m0] at r1
     have e1 : ac0 (fun i => (abX t i).toO) (1, ()) = ac0 (fun i => (abX t i).toO) (2, ()) := aeE r1
     rw [e1]
     have r2 := adY (R := fun i => (abX t i).toO) (i := (2, ())) (aIL t g m hg hm)
     rw [r2]
     have e2 : decide (0 ≤ g ∧ 0 ≤ m ∧ m ≤ g) = decide (m ≤ g) := decide_eq_decide.2 ⟨fun h => h.2.2, fun h => ⟨wW.1 g0, wW.1 m0, h⟩⟩
     simp only [e2]
theorem aOn {p q : Rat} (h1 : al4 p) (h2 : al4 q) (h3 : al4 (p * q)) : aw2 (fx p, fx q, ()) = some (fx (p * q), 0, ()) := by
 unfold aw2 aMQ
 simp only [atG h1, atG h2, aAo h3]
theorem aED {l : List Rat} (h : ∀ q ∈ l, al4 q) : aEW (l.map fun q => fx q) = true := by
 unfold aEW
 rw [wO]
 intro a ha
 obtain ⟨q, hq, rfl⟩ := zz.1 ha
 rw [atG (h q hq)]; rfl
theorem aKo {k : Nat} {t : Tp} (h : Gd k t) (hk : k ≤ 600) : aEo (aBq t) = true := by
 have h1 := h.ok.f0; have h2 := h.ok.fp; have h3 := h.p
 rw [aHS (aBq t) ⟨by show 0 ≤ t.p; omega, h3, h1, h2⟩]
 have g1 : rdF (aBq t).2.2.1 = some t.g := atG (h.g.fit hk)
 have g2 : rdF (aBq t).2.2.2.1 = some t.m := atG (h.m.fit hk)
 rw [g1, g2]
 dsimp only
 rw [zn (show 0 ≤ t.g ∧ 0 ≤ t.m ∧ t.m ≤ t.g from ⟨h.ok.g0, h.ok.m0, h.ok.mg⟩), wu]
 by_cases c : t.f = t.p
 ·rw [if_pos (show (aBq t).2.1 = (aBq t).1 from c)]
  obtain ⟨z1, z2⟩ := h.ok.z c
  exact zn ⟨by show t.a.map _ = []; rw [z2]; rfl, z1⟩
 ·rw [if_neg (show ¬ (aBq t).2.1 = (aBq t).1 from c)]
  obtain ⟨z1, z2⟩ := h.l c
  have e : (aBq t).2.2.2.2.1.length = t.a.length := yD ..
  rw [e, zn (show 1 ≤ t.a.length ∧ t.a.length ≤ 4 from ⟨z1, z2⟩), wu]
  exact aED h.a
theorem aFc {x : NmT} (h : aLi x) : Sm 3 (shQ x) := by
 obtain ⟨h1, h2, h3, h4⟩ := h
 unfold shQ
 have hb : (x.1.tmod (x.2.1 + 2)).natAbs < (x.2.1 + 2).natAbs := by
  rw [xD]; exact yz _ zb
 refine aLE zb (by show _ < 1000; omega) (by show _ < 1000; omega)
theorem aCq {n : Int} {d : Nat} (hd : d ≠ 0) (h : 0 ≤ n) : 0 ≤ mkRat n d := by
 rw [Rat.mkRat_eq_div, Rat.div_def]
 exact Rat.mul_nonneg (by exact_mod_cast h) (Rat.le_of_lt (Rat.inv_pos.2 (by exact_mod_cast Nat.pos_of_ne_zero hd)))
theorem aDf {x : NmT} (h : aLi x) : 0 ≤ shQ x := aCq (by have := h.2.2.1; omega) (Int.natCast_nonneg _)
theorem aM8 {x : NmT} (h : aLi x) : shQ x ≤ 1 := by
 obtain ⟨h1, h2, h3, h4⟩ := h
 unfold shQ
 have hb : (x.1.tmod (x.2.1 + 2)).natAbs < (x.2.1 + 2).natAbs := by
  rw [xD]; exact yz _ zb
 have hd : (x.2.1 + 1).toNat ≠ 0 := zb
 have hp : (0 : Rat) < (((x.2.1 + 1).toNat : Nat) : Rat) := by exact_mod_cast Nat.pos_of_ne_zero hd
 refine wW.1 (fun h => ?_)
 have h' := (Rat.mul_lt_mul_right hp).2 h
 rw [avX _ hd, Rat.one_mul] at h'
 have h2 : (((x.2.1 + 1).toNat : Nat) : Int) < (((x.1.tmod (x.2.1 + 2)).natAbs : Nat) : Int) := by exact_mod_cast h'
 omega
theorem aHi {d : DtT} (h : aLq d) : 0 ≤ aq6 d ∧ aq6 d ≤ d.1 := by
 obtain ⟨⟨h1, h2⟩, ⟨h3, h4⟩, -⟩ := h
 unfold aq6
 have a := xQ (d.1 + 1) h3
 have b := Int.tmod_lt_of_pos d.2.1 (show 0 < d.1 + 1 by omega)
 omega
theorem aBX {n : Int} (h : 0 ≤ n ∧ n ≤ 65535) : Sm 5 (mkRat n 10000) := aLE zb (by show _ < 100000; omega) (by show _ < 100000; omega)
theorem ay4 {n : Int} (h : 0 ≤ n) : 0 ≤ mkRat n 10000 := aCq zb h
theorem aFb {k : Nat} (h : 1 ≤ k) : Sm k 0 := (show Sm 1 (0 : Rat) from ⟨by decide, by decide⟩).mono h
theorem aMF {d : DtT} (h : aLq d) : ∀ q ∈ atD d, al4 q := by
 obtain ⟨-, -, -, -, h5⟩ := h
 unfold atD
 split
 ·intro q hq
  rw [zL] at hq
  subst hq; exact aHf
 ·intro q hq
  obtain ⟨x, hx, rfl⟩ := zz.1 hq
  exact (aFc (h5 x (yL hx))).fit zb
theorem aNS {d : DtT} (h : aLq d) : Gd 8 (tpD d) := by
 obtain ⟨f0, f1⟩ := aHi h
 have hh := h
 obtain ⟨⟨h1, h2⟩, ⟨h3, h4⟩, ⟨h5, h6⟩, h7, h8⟩ := h
 unfold tpD
 by_cases c : aq6 d = d.1
 ·rw [if_pos c]
  exact ⟨⟨h1, Int.le_refl _, Rat.le_refl, Rat.le_refl, Rat.le_refl, fun _ => ⟨rfl, rfl⟩⟩, by show d.1 ≤ 1000000; omega, aFb zb, aFb zb, fun q hq => (by cases hq), fun h => absurd rfl h⟩
 ·rw [if_neg c]
  have s1 := aBX ⟨h5, h6⟩
  have s2 := aFc h7
  have g0 := ay4 h5
  have q0 := aDf h7
  have q1 := aM8 h7
  refine ⟨⟨f0, f1, g0, Rat.mul_nonneg g0 q0, ?_, fun h => absurd h c⟩, by show d.1 ≤ 1000000; omega, s1.mono zb, (s1.mul s2), aMF hh, fun _ => ?_⟩
  ·show mkRat d.2.2.1 10000 * shQ d.2.2.2.1 ≤ mkRat d.2.2.1 10000
   have := Rat.mul_le_mul_of_nonneg_left q1 g0
   rwa [Rat.mul_one] at this
  ·show 1 ≤ (atD d).length ∧ (atD d).length ≤ 4
   unfold atD
   split
   ·exact ⟨zi _, by decide⟩
   ·rename_i hn
    rw [yD, zR]
    have := zK.2 hn
    omega
theorem aIm {p q : Rat} (h1 : al4 p) (h2 : al4 q) (h3 : al4 (p * q)) : ajG (fx p, fx q, ()) = some (fx (p * q), 0, ()) := by
 unfold ajG; rw [if_pos ⟨aKF h1, aKF h2⟩]; exact aOn h1 h2 h3
theorem axX (d : DtT) (y) (h : afI (d, ()) = some y) : (amD d).toO = some y := by
 unfold afI at h
 split at h
 case isFalse => cases h
 case isTrue hd =>
 injection h with h
 subst h
 dsimp only at hd ⊢
 obtain ⟨P, F, G, S, l, u⟩ := d
 have hb := aHi hd
 obtain ⟨⟨h1, h2⟩, ⟨h3, h4⟩, ⟨h5, h6⟩, h7, h8⟩ := hd
 dsimp only at h1 h2 h3 h4 h5 h6 h7 h8
 unfold amD
 dsimp only
 have e1 : w64 P = P := aaA zb
 have e2 : w64 F = F := aaA zb
 have e3 : w64 (P + 1) = P + 1 := aaA zb
 have e4 : w64 G = G := aaA zb
 have e5 : F.tmod (P + 1) = aq6 (P, F, G, S, l, u) := rfl
 have ef : Int.tmod (w64 F) (w64 (w64 P + 1)) = aq6 (P, F, G, S, l, u) := by rw [e1, e2, e3, e5]
 have z0 : aeR (0, 1, ()) = some (fx 0, ()) := by
  rw [ao3 (n := 0) (d := 1) ⟨by omega, by omega⟩ zb ⟨by omega, by omega⟩, show (1 : Int).toNat = 1 from rfl, aPp]
 refine uC _ z0 ?_
 refine uN (by rw [e1, e3]; omega) ?_
 unfold tpD
 dsimp only
 by_cases c : aq6 (P, F, G, S, l, u) = P
 ·rw [if_pos c]
  refine uT (by rw [ef, e1]; exact xi.2 c) ?_
  show some ((w64 P, Int.tmod (w64 F) (w64 (w64 P + 1)), fx 0, fx 0, [], ()), ()) = _
  rw [ef, e1, c]; rfl
 rw [if_neg c]
 have s1 := aBX ⟨h5, h6⟩
 have s2 := aFc h7
 have s3 := s1.mul s2
 refine uF (by rw [ef, e1]; exact beq_eq_false_iff_ne.2 c) (uC (fx (mkRat G 10000), ()) (by rw [e4]; exact ao3 (n := G) (d := 10000) ⟨by omega, by omega⟩ zb ⟨by omega, by omega⟩) ?_)
 refine uL (0, dec (mkRat G 10000 * shQ S).num, aaY (mkRat G 10000 * shQ S).den, ()) ?_ ?_
 ·refine uC _ (akX (x := S) h7) (uV (uV (uC (fx (mkRat G 10000 * shQ S), 0, ()) (aIm (s1.fit zb) (s2.fit zb) (s3.fit zb)) (uV (uV (uF rfl ?_))))))
  repeat refine za ?_
  rfl
 generalize mkRat G 10000 * shQ S = m at *
 generalize mkRat G 10000 = g at *
 unfold apN
 refine uO (0, true, [], ()) rfl ?_
 have hres : ∀ acc : List FxT, acc = (if l = [] then [fx 0] else (l.take 4).map fun x => fx (shQ x)) → ((aBq { p := P, f := aq6 (P, F, G, S, l, u), g := g, m := m, a := atD (P, F, G, S, l, u) }, ()) : TrT × Unit) = ((w64 P, Int.tmod (w64 F) (w64 (w64 P + 1)), fx g, fx m, acc, ()), ()) := by
  intro acc ha
  rw [ef, e1, ha]
  unfold aBq atD
  dsimp only
  split
  ·rfl
  ·rw [List.map_map]; rfl
 refine aaM (fun i : Int × Bool × List FxT × Unit => ∃ k : Nat, k ≤ l.length ∧ k ≤ 4 ∧ i = ((k : Int), decide (k = 0), (l.take k).map (fun x => fx (shQ x)), ())) (fun i => (4 - i.1).toNat)
  (fun _ => ((aBq { p := P, f := aq6 (P, F, G, S, l, u), g := g, m := m, a := atD (P, F, G, S, l, u) }, ()) : TrT × Unit)) ?_ _ ⟨0, by omega, by omega, rfl⟩
 rintro i ⟨k, k1, k2, rfl⟩
 unfold apM agL
 dsimp only
 simp only [aaK]
 by_cases k0 : k = 0
 ·subst k0
  by_cases hn : 0 < l.length
  ·left
   have hx : l.getD 0 (0, 0, ()) = l[0] := by simp [hn]
   have ht : l.take 1 = [l[0]] := by
    cases l with
    | nil => cases hn
    | cons a r => rfl
   refine ⟨(((0 + 1 : Nat) : Int), false, [fx (shQ l[0])], ()), ?_, ⟨1, hn, by omega, ?_⟩, by dsimp only; omega, zd⟩
   ·refine uT rfl (uT sd (uT sd (uN sd (uC (fx (shQ l[0]), ()) (by rw [hx]; exact akX (h8 _ (yw hn))) ?_))))
    repeat refine za ?_
    rw [aaA (x := ((0 : Nat) : Int) + 1) zb]
    rfl
   ·rw [ht]; rfl
  ·right
   have hnil : l = [] := yd zb
   refine uT rfl (uF sd (uN zb ?_))
   rw [hres [fx 0] (by rw [if_pos hnil])]
   rfl
 ·have hlen : ((l.take k).map (fun x => fx (shQ x))).length = k := by rw [yD, zR]; omega
  have hend : (k = 4 ∨ k = l.length) → (l.take k).map (fun x => fx (shQ x)) = (if l = [] then [fx 0] else (l.take 4).map fun x => fx (shQ x)) := by
   intro hh
   have hnn : l ≠ [] := by rintro rfl; simp at k1; omega
   rw [if_neg hnn]
   rcases hh with hh | hh
   ·rw [hh]
   ·rw [hh, zp, zq zb]
  have htk : ∀ acc : List FxT, List.take acc.length acc = acc := fun acc => zp
  rcases zv k l.length with hk | hk
  ·have hx : l.getD k (0, 0, ()) = l[k] := by simp [hk]
   by_cases h4 : k < 4
   ·left
    refine ⟨(((k + 1 : Nat) : Int), false, (l.take k).map (fun x => fx (shQ x)) ++ [fx (shQ l[k])], ()), ?_, ⟨k + 1, by omega, by omega, ?_⟩, by dsimp only; omega, zd⟩
    ·refine uF (zl k0) (uT sd (uT sd (uN sd (uC (fx (shQ l[k]), ()) (by rw [hx]; exact akX (h8 _ (yw hk))) (uN (by rw [hlen]; omega) ?_)))))
     refine uV (uB (uB (uV (uN ?_ ?_))))
     ·rw [htk]; simp
     ·rw [htk, aaA (x := (k : Int) + 1) zb]; rfl
    ·rw [zl (by omega : ¬ k + 1 = 0), yf hk, xR]
     rfl
   ·right
    refine uF (zl k0) (uT sd (uF sd (uF ?_ ?_)))
    ·rw [beq_eq_false_iff_ne]; intro h; have h' : ((((l.take k).map (fun x => fx (shQ x))).length : Nat) : Int) = 0 := h; omega
    ·rw [hres _ (hend zb), htk]; rfl
  ·right
   refine uF (zl k0) (uF sd (uF ?_ ?_))
   ·rw [beq_eq_false_iff_ne]; intro h; have h' : ((((l.take k).map (fun x => fx (shQ x))).length : Nat) : Int) = 0 := h; omega
   ·rw [hres _ (hend zb), htk]; rfl
theorem aEJ {d : DtT} (h : aLq d) : afI (d, ()) = some (aBq (tpD d), ()) := if_pos h
theorem at6 {k : IntKind} {x a b : Int} (h : k.min ≤ x ∧ x ≤ k.max) (ha : k.min = a := by rfl) (hb : k.max = b := by rfl) : a ≤ x ∧ x ≤ b := by subst ha; subst hb; exact h
abbrev aOG : Ty := .pair (.int .i16) (.pair (.int .u8) .unit)
abbrev aO9 : Ty := .pair (.int .u16) (.pair (.int .u16) (.pair (.int .u16) (.pair aOG (.pair (.sl aOG) .unit))))
theorem aMW {x : NmT} (h : Wf aOG x) : aLi x := by
 obtain ⟨h1, h2, -⟩ := h
 exact ⟨(at6 h1).1, (at6 h1).2, at6 h2⟩
theorem aOD {x : DtT} (h : Wf aO9 x) : aLq x := by
 obtain ⟨h1, h2, h3, h4, ⟨-, h5⟩, -⟩ := h
 exact ⟨at6 h1, at6 h2, at6 h3, aMW h4, fun v hv => aMW (h5 v hv)⟩
theorem aIE {x : DtT × Unit} (h : Wf (.pair aO9 .unit) x) : aLq x.1 := aOD h.1
theorem ap0 {s p q : List UInt8} (h : s = p ++ q) : aBL (s, p, ()) = some (true, ()) := by
 subst h
 unfold aBL eqb
 dsimp only
 rw [wG, if_pos rfl]
theorem aMI {t : TrT} (hc : aEo t = true) : aw0 (avA t, [10], ()) = some (acV 10 (avA t), ()) := by
 obtain ⟨p0, p1, f0, f1, ⟨g, hg⟩, ⟨m, hm⟩, hl, ha⟩ := aCR hc
 have I1 := axA p0 p1
 have I2 := axA f0 (by omega : t.2.1 ≤ 1000000)
 have l1 := (ahY (a := aj0) (by show 6 ≤ 5000; omega) I1.2).2
 have l2 := (ahY (a := aj1) (by show 6 ≤ 5000; omega) I2.2).2
 have l3 := (ahY (a := afJ) (by show 8 ≤ 5000; omega) (aj3 hg)).2
 have l4 := (ahY (a := aAq) (by show 4 ≤ 5000; omega) (aj3 hm)).2
 have l5 : (aiC (wAt :: atT t.2.2.2.2.1)).length ≤ 30100 := by
  have h1 : (atT t.2.2.2.2.1).length ≤ 4 := by
   unfold atT; split
   ·show 1 ≤ 4; omega
   ·rw [yD]; exact hl
  refine (aIp (by rw [zE]; omega) (by rw [zE]; omega) fun w hw => ?_).2
  rcases zm.1 hw with rfl | hw
  ·show 2 ≤ 5000; omega
  ·unfold atT at hw
   split at hw
   ·rw [zL.1 hw]; show 1 ≤ 5000; omega
   ·obtain ⟨x, h2, rfl⟩ := zz.1 hw
    obtain ⟨q, hq⟩ := ha x h2
    exact aj3 hq
 refine if_pos ⟨rfl, ?_⟩
 show (avA t).length ≤ 1000000
 unfold avA
 simp only [zu]
 omega
theorem aKy {l : List FxT} (hl : l.length ≤ 4) (ha : ∀ a ∈ l, ∃ q, rdF a = some q) : al1 (aeX [32] (wAt :: atT l), ()) = some (wAt :: atT l, ()) := by
 have hw : ∀ w ∈ wAt :: atT l, clW w := by
  intro w hw
  rcases zm.1 hw with rfl | hw
  ·exact clW_words.2.2.2.2
  ·exact aHR _ w hw
 have h5 : ∀ w ∈ wAt :: atT l, w.length ≤ 5000 := by
  intro w hw
  rcases zm.1 hw with rfl | hw
  ·show 2 ≤ 5000; omega
  ·unfold atT at hw
   split at hw
   ·rw [zL.1 hw]; show 1 ≤ 5000; omega
   ·obtain ⟨x, h2, rfl⟩ := zz.1 hw
    obtain ⟨q, hq⟩ := ha x h2
    exact aj3 hq
 have h1 : (atT l).length ≤ 4 := by
  unfold atT; split
  ·show 1 ≤ 4; omega
  ·rw [yD]; exact hl
 have hj := aCw h5
 rw [zE] at hj
 unfold al1
 dsimp only
 rw [if_pos ⟨fun b hb => by have := (aGO hw b hb).2; omega, by omega⟩]
 have := aCG (r := atT l) (x := wAt) clW_words.2.2.2.2 (aHR l)
 unfold Lib.fields
 exact congrArg (fun z => some (z, ())) this
theorem aIJ (d : DtT) (t : TrT) (y : Bool × Unit) (y2 : List UInt8 × Int × Unit) (a1 a2 a3 a4 : List UInt8) (hl : t.2.2.2.2.1.length ≤ 4) (ha : ∀ a ∈ t.2.2.2.2.1, ∃ q, rdF a = some q) :
  ac0 (fun i => (agG d y (t, ()) y2 ([aj0 ++ [32] ++ a1, aj1 ++ [32] ++ a2, afJ ++ [32] ++ a3, aAq ++ [32] ++ a4, aeX [32] (wAt :: atT t.2.2.2.2.1), []], ()) i).toO) (0, ()) = some (true, ()) := by
 have h5 : ∃ q, aeX [32] (wAt :: atT t.2.2.2.2.1) = wAt ++ [32] ++ q := by
  cases hh : atT t.2.2.2.2.1 with
  | nil =>
   unfold atT at hh
   split at hh
   ·cases hh
   ·rename_i h0; exact absurd (List.map_eq_nil_iff.1 hh) h0
  | cons x r => exact ⟨_, by show wAt ++ (([32] ++ x) ++ _) = _; rw [zW, zW]⟩
 have hf := aKy hl ha
 have h45 : t.2.2.2.2.1 = [] → aeX [32] (wAt :: atT t.2.2.2.2.1) = [97, 116, 32, 45] := by
  intro h
  have : atT t.2.2.2.2.1 = [[45]] := if_pos h
  rw [this]
  rfl
 have hlen : (wAt :: atT t.2.2.2.2.1).length = 1 + (if t.2.2.2.2.1.length > 1 then t.2.2.2.2.1.length else 1) := by
  unfold atT
  split
  ·rename_i h0; rw [h0]; rfl
  ·rename_i h0
   have := zK.2 h0
   rw [zE, yD]
   split <;> omega
 generalize aeX [32] (wAt :: atT t.2.2.2.2.1) = a5 at *
 generalize hat : wAt :: atT t.2.2.2.2.1 = ws at *
 obtain ⟨q5, h5⟩ := h5
 refine aaM (f := fun _ => (true, ())) (fun (i : Int × Unit) => ∃ n : Nat, i.1 = (n : Int) ∧ n ≤ 5) (fun i => 5 - i.1.toNat) ?_ _ ⟨0, rfl, by omega⟩
 rintro ⟨k, ⟨⟩⟩ ⟨n, hk, hn⟩
 dsimp only at hk
 subst hk
 rcases zv n 5 with hlt | hge
 ·left
  refine ⟨((n + 1 : Nat), ()), ?_, ⟨n + 1, rfl, hlt⟩, by show 5 - ((n + 1 : Nat) : Int).toNat < 5 - (n : Int).toNat; omega, rfl⟩
  unfold agG
  dsimp only
  have hp : aBL (gi [aj0 ++ [32] ++ a1, aj1 ++ [32] ++ a2, afJ ++ [32] ++ a3, aAq ++ [32] ++ a4, a5, []] (n : Int) [], gi [#[112, 111, 105, 110, 116, 115, 32].toList, #[102, 97, 105, 108, 101, 100, 32].toList, #[103, 114, 101, 97, 116, 101, 115, 116, 32].toList, #[109, 101, 97, 110, 32].toList, #[97, 116, 32].toList] (n : Int) [], ()) = some (true, ()) := by
   match n, hlt with
   | 0, _ => exact ap0 (q := a1) rfl
   | 1, _ => exact ap0 (q := a2) rfl
   | 2, _ => exact ap0 (q := a3) rfl
   | 3, _ => exact ap0 (q := a4) rfl
   | 4, _ => exact ap0 (q := q5) h5
  have e1 : w64 ((n : Int) + 1) = ((n + 1 : Nat) : Int) := by rw [aaA zb]; omega
  refine uT sd (uN (aGY zb (by show (n : Int) < 5; omega)) (uN (aGY zb (by show (n : Int) < 6; omega)) (uC (true, ()) hp (uF rfl ?_))))
  rw [e1]
  rfl
 ·right
  have he : n = 5 := zb
  subst he
  unfold agG
  dsimp only
  refine uF rfl (uN ⟨by decide, by show (4 : Int) < 6; omega⟩ (uC (ws, ()) hf ?_))
  have e2 : (len ws == w64 (1 + if len t.2.2.2.2.1 > 1 then len t.2.2.2.2.1 else 1)) = true := by
   rw [aaD, aaD, hlen, aaA (by split <;> omega)]
   refine xi.2 ?_
   by_cases c : t.2.2.2.2.1.length > 1
   ·rw [if_pos c, if_pos zb]; omega
   ·rw [if_neg c, if_neg zb]; rfl
  refine uT e2 ?_
  by_cases c : t.2.2.2.2.1 = []
  ·refine uF (zl (by rw [c]; decide)) (uN ⟨by decide, by show (4 : Int) < 6; omega⟩ ?_)
   have := h45 c
   subst this
   rfl
  ·exact uT (zn (by have := zK.2 c; rw [aaD]; omega)) rfl
theorem awZ (d : DtT) (t : TrT) (hd : afI (d, ()) = some (t, ())) (hc : aEo t = true) (y) (h : ahX (d, ()) = some y) : (ahV d).toO = some y := by
 injection h with h
 subst h
 obtain ⟨p0, _, f0, _, _, _, hl, ha⟩ := aCR hc
 have ht : ag4 (t, ()) = some (avA t, 0, ()) := by
  unfold ag4; dsimp only; rw [if_pos hc]
 have hsp := aMI hc
 rw [aC9 p0 f0] at hsp
 have j2 : ∀ a b : List UInt8, aeX [32] [a, b] = a ++ [32] ++ b := fun a b => by simp [aeX]
 rw [j2, j2, j2, j2] at hsp
 unfold ahV
 refine uC (true, ()) rfl (uF rfl (uC (t, ()) hd (uC (avA t, 0, ()) ht (uC _ hsp (uF rfl (uF rfl (uN ⟨by decide, by show (5 : Int) < 6; omega⟩ (uF rfl (uO (0, ()) rfl ?_)))))))))
 exact aIJ d t _ _ _ _ _ _ hl ha
theorem aLV (s p : List UInt8) (y) (h : aBL (s, p, ()) = some y) : (aLU s p).toO = some y := by
 unfold aBL at h
 dsimp only at h
 unfold aLU
 by_cases c : p.length ≤ s.length
 ·refine uV (uV (uT (zn (by rw [aaD, aaD]; omega)) (uN (aNP (by rw [aaD]; omega) (by rw [aaD, aaD]; omega)) ?_)))
  rw [← h]
  have e : (List.take (len p).toNat s == p) = eqb (List.take p.length s) p := by
   rw [aaD, zj]
   unfold eqb
   by_cases g : List.take p.length s = p
   ·rw [if_pos g]; exact xi.2 g
   ·rw [if_neg g]; exact beq_eq_false_iff_ne.2 g
  exact congrArg (fun b => some (b, ())) e
 ·refine uV (uV (uF (zl (by rw [aaD, aaD]; omega)) ?_))
  rw [← h]
  have e : eqb (List.take p.length s) p = false := by
   unfold eqb
   rw [if_neg]
   intro g
   have := congrArg List.length g
   rw [zR] at this
   omega
  rw [e]
  rfl
theorem as0 (d : DtT) (hd : aLq d) (y) (h : ahX (d, ()) = some y) : (ahV d).toO = some y :=
 awZ d (aBq (tpD d)) (aEJ hd) (aKo (aNS hd) zb) y h
theorem aBa (m : List Int) (y) (h : adQ (m, ()) = some y) : (aqQ m).toO = some y := by
 simpa [adQ, aqQ, TT.toO] using h
theorem aqS (m : List Int) (y) (h : ab9 (m, ()) = some y) : (aqR m).toO = some y := by
 unfold ab9 at h
 split at h
 ·rename_i hp
  obtain ⟨hd, hl⟩ := hp
  simp only at hd hl
  injection h with h
  subst h
  refine uO (m, ()) rfl ?_
  refine aaM (fun i => Dg 1000000000 i.1 ∧ i.1.length ≤ 2000000000000 ∧ V 1000000000 i.1 = V 1000000000 m) (fun i => i.1.length) (fun _ => (mag (V 1000000000 m).toNat, ())) ?_ _ ⟨hd, hl, rfl⟩
  rintro ⟨l, u⟩ ⟨h1, h2, h3⟩
  simp only at h1 h2 h3
  have hfin : Cn l → l = mag (V 1000000000 m).toNat := fun hc => aoR h1 hc (by rw [h3]; have := aaH zb hd; omega)
  unfold at9
  by_cases hz : l = []
  ·subst hz
   right
   repeat refine za ?_
   rw [← hfin aoG]; rfl
  ·have hlen : 0 < l.length := zK.2 hz
   have hw : w64 (len l - 1) = ((l.length - 1 : Nat) : Int) := by rw [aaD]; simp (disch := omega) only [aaA]; omega
   have hg : gi l ((l.length - 1 : Nat) : Int) 0 = l[l.length - 1] := aNR rfl zb
   simp only [hw, hg]
   by_cases h0 : l[l.length - 1] = 0
   ·left
    refine ⟨(l.take (l.length - 1), ()), ?_, ⟨ab0 h1 _, ?_, ?_⟩, ?_, trivial⟩
    ·repeat refine za ?_
     rfl
    ·simp; omega
    ·have := ahU 1000000000 (l := l) (i := l.length - 1) zb
     rw [h0, show l.length - 1 + 1 = l.length by omega, zp] at this
     rw [← h3, this]; simp
    ·simp; omega
   ·right
    repeat refine za ?_
    rw [← hfin (by unfold Cn; rw [yO, zJ zb]; simpa using h0)]; rfl
 ·cases h
theorem ay9 (m : List Int) (y) (h : ajJ (m, ()) = some y) : (auA m).toO = some y := by
 obtain ⟨n, hn, hx, rfl⟩ := aaF h
 injection hx with hx
 subst hx
 have hl : (mag n).length ≤ 2 := mag_length_le_iff.2 zb
 have hd := afQ n
 have hV := akT n
 refine uO (((mag n).length : Int) - 1, 0, ()) ?_ ?_
 ·repeat refine za ?_
  show some (w64 ((mag n).length - 1), (0 : Int), ()) = _
  rw [aaA (x := ((mag n).length : Int) - 1) zb]
 refine aaM (fun i => ∃ k : Nat, k ≤ (mag n).length ∧ i.1 = (k : Int) - 1 ∧ i.2.1 = V 1000000000 ((mag n).drop k)) (fun i => (i.1 + 1).toNat) (fun _ => ((n : Int), ())) ?_ _ ⟨_, zi _, rfl, by simp [V]⟩
 rintro ⟨i, v, u⟩ ⟨k, h1, h2, h3⟩
 simp only at h2 h3
 subst h2 h3
 unfold aqU
 rcases zF k with h0 | h0
 ·subst h0
  right
  repeat refine za ?_
  simp only [yv, hV]
  rfl
 ·left
  obtain ⟨j, rfl⟩ : ∃ j, k = j + 1 := ⟨k - 1, by omega⟩
  have e1 := aaI 1000000000 (mag n) j
  have e2 := aaR zb hd j
  have e3 := aaH zb (acC hd j)
  have e4 := aaH zb (acC hd (j + 1))
  have e5 := aId zb hd j
  have e6 : ((j + 1 : Nat) : Int) - 1 = (j : Int) := zb
  rw [e6]
  refine ⟨((j : Int) - 1, V 1000000000 ((mag n).drop j), ()), ?_, ⟨j, by omega, rfl, rfl⟩, by simp only; omega, rfl⟩
  repeat refine za ?_
  simp only [aaK]
  rw [aaA (x := (j : Int) - 1) zb, aaG (x := V 1000000000 ((mag n).drop (j + 1)) * 1000000000) zb, aaG (x := (mag n).getD j 0) zb, aaG zb, e1, aaJ]
  rw [Int.add_comm, yZ]
theorem asQ (m o : List Int) (y) (h : ac5 (m, o, ()) = some y) : (aiG m o).toO = some y := by
 obtain ⟨⟨a, b⟩, hn, hx, rfl⟩ := aaF h
 obtain ⟨rfl, hx2⟩ := Prod.mk.inj hx
 obtain ⟨rfl, -⟩ := Prod.mk.inj hx2
 dsimp only
 obtain ⟨l1, l2⟩ := hn
 simp only at l1 l2
 unfold aiG
 have hda := afQ a
 have hdb := afQ b
 have hVa := akT a
 have hVb := akT b
 rcases Nat.lt_trichotomy (mag a).length (mag b).length with hl | hl | hl
 ·have := ajW hl
  repeat refine za ?_
  simp only [aaJ, asV]
  rw [if_pos (show (a : Int) < b by omega)]
 ·refine uF sd ?_
  refine uO (((mag a).length : Int) - 1, ()) ?_ ?_
  ·repeat refine za ?_
   show some (w64 ((mag a).length - 1), ()) = _
   rw [aaA (x := ((mag a).length : Int) - 1) zb]
  refine aaM (fun i => ∃ k : Nat, k ≤ (mag a).length ∧ i.1 = (k : Int) - 1 ∧ V 1000000000 ((mag a).drop k) = V 1000000000 ((mag b).drop k)) (fun i => (i.1 + 1).toNat) (fun _ => (asV a b, ())) ?_ _ ⟨_, zi _, rfl, by rw [acH _ (zi _), acH _ zb]⟩
  rintro ⟨i, u⟩ ⟨k, h1, h2, h3⟩
  simp only at h2 h3
  subst h2
  unfold alO
  rcases zF k with h0 | h0
  ·subst h0
   right
   repeat refine za ?_
   simp only [yv, hVa, hVb] at h3
   simp only [aaJ, asV]
   rw [if_neg zb, if_pos h3]
  ·obtain ⟨j, rfl⟩ : ∃ j, k = j + 1 := ⟨k - 1, by omega⟩
   have e6 : ((j + 1 : Nat) : Int) - 1 = (j : Int) := zb
   simp only [e6, aaK]
   have a1 := ab1 1000000000 (mag a) j
   have b1 := ab1 1000000000 (mag b) j
   have a2 := aaI 1000000000 (mag a) j
   have b2 := aaI 1000000000 (mag b) j
   have a3 := acO zb hda j
   have b3 := acO zb hdb j
   have a4 := aaH zb (ab0 hda j)
   have b4 := aaH zb (ab0 hdb j)
   have hp : (1 : Int) ≤ 1000000000 ^ j := avU zb j
   rcases Int.lt_trichotomy ((mag a).getD j 0) ((mag b).getD j 0) with hc | hc | hc
   ·right
    repeat refine za ?_
    have h5 : (1000000000 : Int) ^ j * (V 1000000000 ((mag a).drop j) + 1) ≤ 1000000000 ^ j * V 1000000000 ((mag b).drop j) := zy zb zb
    rw [xU] at h5
    simp only [aaJ, asV]
    rw [if_pos (show (a : Int) < b by omega)]
   ·left
    refine ⟨((j : Int) - 1, ()), ?_, ⟨j, by omega, rfl, by omega⟩, by simp only; omega, trivial⟩
    repeat refine za ?_
    rw [aaA (x := (j : Int) - 1) zb]; rfl
   ·right
    repeat refine za ?_
    have h5 : (1000000000 : Int) ^ j * (V 1000000000 ((mag b).drop j) + 1) ≤ 1000000000 ^ j * V 1000000000 ((mag a).drop j) := zy zb zb
    rw [xU] at h5
    simp only [aaJ, asV]
    rw [if_neg (show ¬ (a : Int) < b by omega), if_neg (show ¬ (a : Int) = b by omega)]
 ·have := ajW hl
  repeat refine za ?_
  simp only [aaJ, asV]
  rw [if_neg (show ¬ (a : Int) < b by omega), if_neg (show ¬ (a : Int) = b by omega)]
theorem ajS (m o : List Int) (a b : Nat) (la : (mag a).length ≤ 1000000000000) (hl : (mag b).length ≤ (mag a).length) : (amZ m o (mag a, mag b, ())).toO = some (mag (a + b), ()) := by
 have hda := afQ a
 have hdb := afQ b
 have hVa := akT a
 have hVb := akT b
 unfold amZ
 dsimp only
 refine uN ?_ ?_
 ·(try simp only [aaD, inb, inc, ge_iff_le, gt_iff_lt, zj, asT, ne_eq])
  simp (disch := omega) only [aaA, aaG, aaQ, abR, aaK, zo, zj, aaD]
  omega
 refine uO (0, 0, [], ()) rfl ?_
 refine aaM (fun i => ∃ k : Nat, k ≤ (mag a).length ∧ i.1 = (k : Int) ∧ 0 ≤ i.2.1 ∧ i.2.1 ≤ 1 ∧ i.2.2.1.length = k ∧ Dg 1000000000 i.2.2.1 ∧ V 1000000000 i.2.2.1 + 1000000000 ^ k * i.2.1 = V 1000000000 ((mag a).take k) + V 1000000000 ((mag b).take k)) (fun i => (((mag a).length : Int) - i.1).toNat) (fun _ => (mag (a + b), ())) ?_ _ ⟨0, zN _, rfl, by simp, by simp, rfl, aoF _, by simp [V]⟩
 rintro ⟨i, c, s, u⟩ ⟨k, h1, h2, h3, h4, h5, h6, h7⟩
 simp only at h2 h3 h4 h5 h6 h7
 subst h2
 simp only [auB, aaK]
 have ea := aaT 1000000000 (mag a) k
 have eb := aaT 1000000000 (mag b) k
 have da := aaR zb hda k
 have db := aaR zb hdb k
 rcases zv k (mag a).length with hk | hk
 ·left
  have key : ∀ x c' : Int, 0 ≤ x ∧ x < 1000000000 → x + 1000000000 * c' = (mag a).getD k 0 + (mag b).getD k 0 + c → V 1000000000 (s ++ [x]) + 1000000000 ^ (k + 1) * c' = V 1000000000 ((mag a).take (k + 1)) + V 1000000000 ((mag b).take (k + 1)) := by
   intro x c' _ hx
   rw [adA, asZ, h5, ea, eb, yp]
   have : (1000000000 : Int) ^ k * (x + 1000000000 * c') = 1000000000 ^ k * ((mag a).getD k 0 + (mag b).getD k 0 + c) := by rw [hx]
   grind
  have fin : ∀ x c' : Int, 0 ≤ x ∧ x < 1000000000 → 0 ≤ c' ∧ c' ≤ 1 → x + 1000000000 * c' = (mag a).getD k 0 + (mag b).getD k 0 + c → (∃ k_1 : Nat, k_1 ≤ (mag a).length ∧ ((k + 1 : Nat) : Int) = (k_1 : Int) ∧ 0 ≤ c' ∧ c' ≤ 1 ∧ (s ++ [x]).length = k_1 ∧ Dg 1000000000 (s ++ [x]) ∧ V 1000000000 (s ++ [x]) + 1000000000 ^ k_1 * c' = V 1000000000 ((mag a).take k_1) + V 1000000000 ((mag b).take k_1)) ∧ (((mag a).length : Int) - ((k + 1 : Nat) : Int)).toNat < (((mag a).length : Int) - (k : Int)).toNat :=
   fun x c' hx hc he => ⟨⟨k + 1, by omega, rfl, hc.1, hc.2, by simp; omega, adS h6 (aiV hx.1 hx.2), key x c' hx he⟩, by omega⟩
  rcases zv k (mag b).length with hkb | hkb
  ·rcases zS ((mag a).getD k 0 + c + (mag b).getD k 0) 1000000000 with hc | hc
   ·obtain ⟨g1, g2⟩ := fin ((mag a).getD k 0 + c + (mag b).getD k 0) 0 zb zb zb
    refine ⟨(((k + 1 : Nat) : Int), 0, s ++ [(mag a).getD k 0 + c + (mag b).getD k 0], ()), ?_, g1, g2, trivial⟩
    repeat refine za ?_
    simp (disch := omega) only [aaJ, aaA, aaG, aaQ, abR, aaK, zo, zj, aaD, zp]
    rfl
   ·obtain ⟨g1, g2⟩ := fin ((mag a).getD k 0 + c + (mag b).getD k 0 - 1000000000) 1 zb zb zb
    refine ⟨(((k + 1 : Nat) : Int), 1, s ++ [(mag a).getD k 0 + c + (mag b).getD k 0 - 1000000000], ()), ?_, g1, g2, trivial⟩
    repeat refine za ?_
    simp (disch := omega) only [aaJ, aaA, aaG, aaQ, abR, aaK, zo, zj, aaD, zp]
    rfl
  ·have hz : (mag b).getD k 0 = 0 := afT hkb 0
   rcases zS ((mag a).getD k 0 + c) 1000000000 with hc | hc
   ·obtain ⟨g1, g2⟩ := fin ((mag a).getD k 0 + c) 0 zb zb zb
    refine ⟨(((k + 1 : Nat) : Int), 0, s ++ [(mag a).getD k 0 + c], ()), ?_, g1, g2, trivial⟩
    repeat refine za ?_
    simp (disch := omega) only [aaJ, aaA, aaG, aaQ, abR, aaK, zo, zj, aaD, zp]
    rfl
   ·obtain ⟨g1, g2⟩ := fin ((mag a).getD k 0 + c - 1000000000) 1 zb zb zb
    refine ⟨(((k + 1 : Nat) : Int), 1, s ++ [(mag a).getD k 0 + c - 1000000000], ()), ?_, g1, g2, trivial⟩
    repeat refine za ?_
    simp (disch := omega) only [aaJ, aaA, aaG, aaQ, abR, aaK, zo, zj, aaD, zp]
    rfl
 ·right
  have hkk : k = (mag a).length := zb
  rw [hkk, aa6 _ (zi _), aa6 _ hl, hVa, hVb] at h7
  rcases zS 0 c with hc | hc
  ·have hc1 : c = 1 := zb
   subst hc1
   repeat refine za ?_
   simp (disch := omega) only [aaJ, aaA, aaG, aaQ, abR, aaK, zo, zj, aaD, zp]
   rw [zq zg]
   rw [aoR (l := s ++ [1]) (n := a + b) (adS h6 (aiV zb zb)) (by simp [Cn]) (by rw [adA, asZ, h5, hkk]; omega)]
  ·have hc1 : c = 0 := zb
   subst hc1
   repeat refine za ?_
   simp (disch := omega) only [aaJ, aaA, aaG, aaQ, abR, aaK, zo, zj, aaD, zp]
   rw [aoR (l := s) (n := a + b) h6 (aKC zb h6 ?_) zb]
   rcases zF a with ha | ha
   ·left
    subst ha
    rw [mag_zero] at hkk
    exact zT.1 (by rw [h5, hkk]; rfl)
   ·right
    have := apY (B := 1000000000) zb (n := a) zb
    have h8 : (1000000000 : Int) ^ ((mag a).length - 1) ≤ a := by
     have : ((1000000000 ^ ((mag a).length - 1) : Nat) : Int) ≤ (a : Int) := Int.ofNat_le.2 this
     simpa using this
    rw [h5, hkk]
    omega
theorem aBb (m o : List Int) (y) (h : aiQ (m, o, ()) = some y) : (aqV m o).toO = some y := by
 obtain ⟨⟨a, b⟩, hn, hx, rfl⟩ := aaF h
 obtain ⟨rfl, hx2⟩ := Prod.mk.inj hx; obtain ⟨rfl, -⟩ := Prod.mk.inj hx2; dsimp only
 obtain ⟨l1, l2⟩ := hn
 simp only at l1 l2
 unfold aqV
 rcases zv (mag a).length (mag b).length with hl | hl
 ·refine uL (mag b, mag a, ()) ?_ ?_
  ·repeat refine za ?_
   rfl
  ·rw [yK]
   exact ajS _ _ b a l2 zb
 ·refine uL (mag a, mag b, ()) ?_ ?_
  ·repeat refine za ?_
   rfl
  ·exact ajS _ _ a b l1 hl
theorem aGE {a b B : Int} (ha : 0 ≤ a ∧ a < B) (hb : 0 ≤ b ∧ b < B) : 0 ≤ a * b ∧ a * b ≤ (B - 1) * (B - 1) := by
 refine ⟨xn ha.1 hb.1, ?_⟩
 have h1 : a * b ≤ a * (B - 1) := zy zb ha.1
 have h2 : a * (B - 1) ≤ (B - 1) * (B - 1) := zH zb zb
 omega
theorem aH8 (Vs P c A K x T X Y d e Q B : Int) (h : Vs + P * c = A + K * (x * T)) (h2 : X + B * Y = c + (d + x * e)) (hP : P = K * Q) : Vs + P * (X - d) + P * B * Y = A + K * (x * (T + Q * e)) := by
 subst hP
 have h3 : K * Q * (X + B * Y) = K * Q * (c + (d + x * e)) := by rw [h2]
 grind
theorem ay8 (m o : List Int) (y) (h : adC (m, o, ()) = some y) : (amX m o).toO = some y := by
 obtain ⟨⟨a, b⟩, hn, hx, rfl⟩ := aaF h
 obtain ⟨rfl, hx2⟩ := Prod.mk.inj hx; obtain ⟨rfl, -⟩ := Prod.mk.inj hx2; dsimp only
 obtain ⟨la, lb⟩ := hn
 simp only at la lb
 have hda := afQ a
 have hdb := afQ b
 have hVa := akT a
 have hVb := akT b
 have hw : w64 (len (mag a) + len (mag b)) = (((mag a).length + (mag b).length : Nat) : Int) := by
  simp only [aaD]; rw [aaA (x := ((mag a).length : Int) + (mag b).length) zb]; omega
 unfold amX
 simp only [hw]
 refine uN zb ?_
 refine uO (0, List.replicate ((mag a).length + (mag b).length) 0, ()) ?_ ?_
 ·repeat refine za ?_
  simp (disch := omega) only [aaJ, aaA, aaG, aaQ, abR, aaK, zo, zj, aaD, zp]
 have hBb : V 1000000000 (mag b) < 1000000000 ^ (mag b).length := aEI zb hdb
 refine aaM (fun i => ∃ k : Nat, k ≤ (mag a).length ∧ i.1 = (k : Int) ∧ i.2.1.length = (mag a).length + (mag b).length ∧ Dg 1000000000 i.2.1 ∧ V 1000000000 i.2.1 = V 1000000000 ((mag a).take k) * b) (fun i => (((mag a).length : Int) - i.1).toNat) (fun _ => (mag (a * b), ())) ?_ _ ⟨0, zN _, rfl, by simp, afD zb _, by simp [V, ar2]⟩
 rintro ⟨i, s, u⟩ ⟨k, h1, h2, h3, h4, h5⟩
 simp only at h2 h3 h4 h5
 subst h2
 simp only [aqT, aaK, hw]
 have ea := aaT 1000000000 (mag a) k
 have da := aaR zb hda k
 rcases zv k (mag a).length with hk | hk
 ·left
  have hs : V 1000000000 s < 1000000000 ^ (k + (mag b).length) := by
   rw [h5, xJ]
   have e1 := acO zb hda k
   have e2 := aaH zb (ab0 hda k)
   rw [hVb] at hBb
   have e3 : V 1000000000 ((mag a).take k) * b ≤ V 1000000000 ((mag a).take k) * 1000000000 ^ (mag b).length := zy zb e2
   have e4 : V 1000000000 ((mag a).take k) * 1000000000 ^ (mag b).length < 1000000000 ^ k * 1000000000 ^ (mag b).length := Int.mul_lt_mul_of_pos_right e1 (yI zb)
   omega
  have hz := aiF zb h4 hs
  -- the inner loop
  obtain ⟨r, hin, s', rfl, q1, q2, q3⟩ : ∃ r : ((Int × List Int × Unit) ⊕ (List Int × Unit)), ac0 (fun i1 => (akE (mag a) (mag b) ((k : Int), s, ()) i1).toO) (0, 0, s, ()) = some r ∧ ∃ s', r = Sum.inl (((k + 1 : Nat) : Int), s', ()) ∧ s'.length = (mag a).length + (mag b).length ∧ Dg 1000000000 s' ∧ V 1000000000 s' = V 1000000000 ((mag a).take (k + 1)) * b := by
   refine agW (fun j => ∃ q : Nat, q ≤ (mag b).length ∧ j.1 = (q : Int) ∧ 0 ≤ j.2.1 ∧ j.2.1 < 1000000000 ∧ j.2.2.1.length = (mag a).length + (mag b).length ∧ Dg 1000000000 j.2.2.1 ∧ (∀ t, k + (mag b).length ≤ t → j.2.2.1.getD t 0 = 0) ∧ V 1000000000 j.2.2.1 + 1000000000 ^ (k + q) * j.2.1 = V 1000000000 ((mag a).take k) * b + 1000000000 ^ k * ((mag a).getD k 0 * V 1000000000 ((mag b).take q))) (fun j => (((mag b).length : Int) - j.1).toNat) _ ?_ _ ⟨0, zN _, rfl, by simp, by simp, h3, h4, hz, by simp [V, h5]⟩
   rintro ⟨j, c, s1, u1⟩ ⟨q, g1, g2, g3, g4, g5, g6, g7, g8⟩
   simp only at g2 g3 g4 g5 g6 g7 g8
   subst g2
   have hkq : w64 ((k : Int) + q) = ((k + q : Nat) : Int) := by rw [aaA (x := (k : Int) + q) zb]; omega
   have hkl : w64 ((k : Int) + len (mag b)) = ((k + (mag b).length : Nat) : Int) := by rw [aaD, aaA (x := (k : Int) + ((mag b).length : Int)) zb]; omega
   simp only [akE, aaK, hw, hkq, hkl, zj, zo]
   have eb := aaT 1000000000 (mag b) q
   have db := aaR zb hdb q
   have ds := aaR zb g6 (k + q)
   have hm := aGE da db
   rcases zv q (mag b).length with hq | hq
   ·left
    have hsum : 0 ≤ c + (s1.getD (k + q) 0 + (mag a).getD k 0 * (mag b).getD q 0) := zb
    have e1 := yi (c + (s1.getD (k + q) 0 + (mag a).getD k 0 * (mag b).getD q 0)) 1000000000
    have e2 : 0 ≤ (c + (s1.getD (k + q) 0 + (mag a).getD k 0 * (mag b).getD q 0)) % 1000000000 ∧ (c + (s1.getD (k + q) 0 + (mag a).getD k 0 * (mag b).getD q 0)) % 1000000000 < 1000000000 := zb
    have e3 : 0 ≤ (c + (s1.getD (k + q) 0 + (mag a).getD k 0 * (mag b).getD q 0)) / 1000000000 ∧ (c + (s1.getD (k + q) 0 + (mag a).getD k 0 * (mag b).getD q 0)) / 1000000000 < 1000000000 := zb
    refine ⟨(((q + 1 : Nat) : Int), (c + (s1.getD (k + q) 0 + (mag a).getD k 0 * (mag b).getD q 0)) / 1000000000, s1.set (k + q) ((c + (s1.getD (k + q) 0 + (mag a).getD k 0 * (mag b).getD q 0)) % 1000000000), ()), ?_, ⟨q + 1, by omega, rfl, e3.1, e3.2, by simp; omega, ahC g6 e2 _, ?_, ?_⟩, by simp only; omega⟩
    ·repeat refine za ?_
     simp (disch := omega) only [aaJ, aaA, aaG, aaQ, abR, aaK, zo, zj, aaD, zp]
     rw [zY hsum, zM hsum]
     simp (disch := omega) only [aaJ, aaA, aaG, aaQ, abR, aaK, zo, zj, aaD, zp]
     rfl
    ·intro t ht
     rw [akC _ zb]; exact g7 t ht
    ·simp only
     rw [asY _ zb, eb, show k + (q + 1) = k + q + 1 by omega, yp]
     exact aH8 _ _ _ _ _ _ _ _ _ _ _ _ _ g8 e1 (xJ _ _ _)
   ·right
    have hqq : q = (mag b).length := zb
    subst hqq
    rw [aa6 _ (zi _), hVb] at g8
    refine ⟨.inl (((k + 1 : Nat) : Int), s1.set (k + (mag b).length) c, ()), ?_, _, rfl, by simp; omega, ahC g6 ⟨g3, g4⟩ _, ?_⟩
    ·repeat refine za ?_
     simp (disch := omega) only [aaJ, aaA, aaG, aaQ, abR, aaK, zo, zj, aaD, zp]
     rfl
    ·rw [asY _ zb, g7 _ zb, ea, Int.add_mul]
     simp only [wE]
     rw [g8]
     grind
  refine ⟨(((k + 1 : Nat) : Int), s', ()), ?_, ⟨k + 1, by omega, rfl, q1, q2, q3⟩, by simp only; omega, trivial⟩
  refine uT sd ?_
  refine uN sd ?_
  refine uO (0, 0, s, ()) ?_ ?_
  ·repeat refine za ?_
   rfl
  ·exact hin
 ·right
  have hkk : k = (mag a).length := zb
  rw [hkk, aa6 _ (zi _), hVa] at h5
  refine uF sd ?_
  refine uC (mag (a * b), ()) ?_ ?_
  ·rw [zq zf]
   exact ao8 h4 zb (by rw [h5]; simp)
  ·rfl
theorem aH9 (Vm Vq P d R m X Y B W : Int) (h : Vm = Vq * d + R) (h2 : Y + d * X = R * B + m) (hW : W = m + B * Vm) (hP : P = X + B * Vq) : W = P * d + Y := by
 subst hW hP h
 grind
theorem azA (m : List Int) (d : Int) (y) (h : ag7 (m, d, ()) = some y) : (amY m d).toO = some y := by
 obtain ⟨⟨a, e⟩, hn, hx, rfl⟩ := aaF h
 obtain ⟨rfl, hx2⟩ := Prod.mk.inj hx; obtain ⟨rfl, -⟩ := Prod.mk.inj hx2; dsimp only
 obtain ⟨la, he, he2⟩ := hn
 simp only at la he he2
 have hda := afQ a
 have hVa := akT a
 unfold amY
 refine uN sn ?_
 have hd : abI (e : Int) = e := aaG zb
 refine uO (((mag a).length : Int) - 1, 0, List.replicate (mag a).length 0, ()) ?_ ?_
 ·repeat refine za ?_
  simp only [aaD]
  rw [aaA (x := ((mag a).length : Int) - 1) zb]
  rfl
 refine aaM (fun i : Int × Int × List Int × Unit => ∃ k : Nat, k ≤ (mag a).length ∧ i.1 = (k : Int) - 1 ∧ 0 ≤ i.2.1 ∧ i.2.1 < e ∧ i.2.2.1.length = (mag a).length ∧ Dg 1000000000 i.2.2.1 ∧ V 1000000000 ((mag a).drop k) = V 1000000000 (i.2.2.1.drop k) * e + i.2.1) (fun i => (i.1 + 1).toNat) (fun _ => (mag (a / e), ((a % e : Nat) : Int), ())) ?_ _ ⟨_, zi _, rfl, by simp, by simp; omega, by simp, afD zb _, by rw [acH _ (zi _), acH _ zg]; simp⟩
 rintro ⟨i, r, q, u⟩ ⟨k, h1, h2, h3, h4, h5, h6, h7⟩
 simp only at h2 h3 h4 h5 h6 h7
 subst h2
 rcases zF k with h0 | h0
 ·subst h0
  right
  simp only [yv, hVa] at h7
  obtain ⟨v, hv⟩ := zG (aaH zb h6)
  obtain ⟨r', rfl⟩ := zG h3
  rw [hv] at h7
  have h8 : a = v * e + r' := by
   have : (a : Int) = ((v * e + r' : Nat) : Int) := by simpa using h7
   exact Int.ofNat.inj this
  have h9 : a / e = v := by rw [h8, yK, wg _ _ he, yN zb, zo]
  have h10 : a % e = r' := by rw [h8, yK, xF, yr zb]
  simp only [akF]
  refine uF sd ?_
  refine uC (mag v, ()) ?_ ?_
  ·rw [zq (by simp [len]; omega)]
   exact ao8 h6 zb hv
  ·simp (disch := omega) only [aaJ, aaA, aaG, aaQ, abR, aaK, zo, zj, aaD, zp]
   rw [h9, h10]
 ·left
  obtain ⟨j, rfl⟩ : ∃ j, k = j + 1 := ⟨k - 1, by omega⟩
  have e6 : ((j + 1 : Nat) : Int) - 1 = (j : Int) := zb
  rw [e6]
  simp only [akF, aaK, hd]
  have e1 := aaI 1000000000 (mag a) j
  have e2 := aaR zb hda j
  have g1 : 0 ≤ r * 1000000000 + (mag a).getD j 0 := zb
  have g0 : (0 : Int) < e := zb
  have g2 := yi (r * 1000000000 + (mag a).getD j 0) e
  have g3 := xy (r * 1000000000 + (mag a).getD j 0) (show (e : Int) ≠ 0 by omega)
  have g4 := xq (r * 1000000000 + (mag a).getD j 0) g0
  have g5 : 0 ≤ (r * 1000000000 + (mag a).getD j 0) / e := xC g1 zb
  have g6 : (r * 1000000000 + (mag a).getD j 0) / e < 1000000000 := by
   refine Int.ediv_lt_of_lt_mul g0 ?_
   have : (r + 1) * 1000000000 ≤ e * 1000000000 := zH zb zb
   omega
  have hw1 : abI (abI (r * 1000000000) + abI ((mag a).getD j 0)) = r * 1000000000 + (mag a).getD j 0 := by
   rw [aaG (x := r * 1000000000) zb, aaG (x := (mag a).getD j 0) zb, aaG zb]
  simp only [hw1]
  refine ⟨((j : Int) - 1, (r * 1000000000 + (mag a).getD j 0) % e, q.set j ((r * 1000000000 + (mag a).getD j 0) / e), ()), ?_, ⟨j, by omega, rfl, g3, g4, by simp; omega, ahC h6 ⟨g5, g6⟩ _, ?_⟩, by simp only; omega, trivial⟩
  ·repeat refine za ?_
   rw [zY g1, zM g1]
   rw [aaG (x := (r * 1000000000 + (mag a).getD j 0) / e) zb, aaQ (x := (r * 1000000000 + (mag a).getD j 0) / e) zb]
   simp (disch := omega) only [aaJ, aaA, aaG, aaQ, abR, aaK, zo, zj, aaD, zp]
  ·simp only
   refine aH9 _ _ _ _ _ _ _ _ 1000000000 _ h7 g2 e1 ?_
   rw [aaI 1000000000 (q.set j _) j, akD zb, afW _ zb]
theorem aq7 (v : Int) (y) (h : acM (v, ()) = some y) : (alQ v).toO = some y := by
 unfold acM at h
 split at h
 ·rename_i hp
  obtain ⟨h0, h1⟩ := hp
  simp only at h0 h1
  injection h with h
  subst h
  obtain ⟨n, rfl⟩ := zG h0
  simp only [zj]
  refine uO (true, [], (n : Int), ()) rfl ?_
  refine aaM (fun i => ∃ w : Nat, i.2.2.1 = (w : Int) ∧ w ≤ n ∧ Dg 1000000000 i.2.1 ∧ V 1000000000 i.2.1 + 1000000000 ^ i.2.1.length * w = n ∧ (i.1 = true → i.2.1 = []) ∧ (w = 0 → Cn i.2.1) ∧ (i.2.1.length ≤ 3) ∧ (w ≠ 0 → w < 1000000000 ^ (3 - i.2.1.length))) (fun i => i.2.2.1.toNat) (fun _ => (mag n, ())) ?_ _ ⟨n, rfl, zi _, aoF _, by simp [V], fun _ => rfl, fun _ => aoG, by simp, fun _ => by simp; omega⟩
  rintro ⟨f, l, w', u⟩ ⟨w, g1, g2, g3, g4, g5, g6, g7, g8⟩
  simp only at g1 g3 g4 g5 g6 g7 g8
  subst g1
  rcases zF w with hw | hw
  ·subst hw
   right
   have : l = mag n := aoR g3 (g6 rfl) zb
   cases f
   ·unfold adM
    repeat refine za ?_
    simp (disch := omega) only [aaJ, aaA, aaG, aaQ, abR, aaK, zo, zj, aaD, zp]
    rw [this]
   ·unfold adM
    repeat refine za ?_
    simp (disch := omega) only [aaJ, aaA, aaG, aaQ, abR, aaK, zo, zj, aaD, zp]
    rw [← this, g5 rfl]
  ·left
   have hl : l.length ≤ 2 := by
    rcases zv 2 l.length with h | h
    ·have h3 : l.length = 3 := zb
     have := g8 zb
     rw [h3] at this
     simp at this
     omega
    ·exact h
   have e1 : ((w % 1000000000 : Nat) : Int) + 1000000000 * ((w / 1000000000 : Nat) : Int) = w := zb
   refine ⟨(false, l ++ [((w % 1000000000 : Nat) : Int)], ((w / 1000000000 : Nat) : Int), ()), ?_, ⟨w / 1000000000, rfl, by omega, adS g3 (aiV zb zb), ?_, by simp, ?_, by simp; omega, ?_⟩, by simp only; omega, zd⟩
   ·have t1 : Int.tmod (w : Int) 1000000000 = ((w % 1000000000 : Nat) : Int) := by rw [zY zb]; omega
    have t2 : Int.tdiv (w : Int) 1000000000 = ((w / 1000000000 : Nat) : Int) := by rw [zM zb]; omega
    cases f
    ·simp only [adM, t1, t2]
     repeat refine za ?_
     simp (disch := omega) only [aaJ, aaA, aaG, aaQ, abR, aaK, zo, zj, aaD, zp]
    ·simp only [adM, t1, t2]
     repeat refine za ?_
     rw [g5 rfl]
     simp (disch := omega) only [aaJ, aaA, aaG, aaQ, abR, aaK, zo, zj, aaD, zp]
     rfl
   ·simp only
    rw [adA, asZ, zu, yh, yp, ← g4]
    have : (1000000000 : Int) ^ l.length * (((w % 1000000000 : Nat) : Int) + 1000000000 * ((w / 1000000000 : Nat) : Int)) = 1000000000 ^ l.length * w := by rw [e1]
    grind
   ·intro hz
    unfold Cn
    simp
    omega
   ·intro hz
    simp only [zu, yh]
    have := g8 zb
    rw [yS zb]
    have h9 : 1000000000 ^ (3 - l.length) = 1000000000 ^ (3 - (l.length + 1)) * 1000000000 := by
     rw [← yH]; congr 1; omega
    omega
 ·cases h
end Go.Vs
