/-
  Trees of what the functions compute, and their laws. Own work; no condition.
-/
import Derived.Test.YtehaimkjedmjfaaGreatDoorClL3
import Derived.Test.YtehaimkjedmjfaaGreatDoorProg
set_option linter.unusedVariables false
set_option linter.unusedSimpArgs false
namespace Go.Vs
open Go Go.Vg
def WP {α : Type} (t : TT α) (P : α → Prop) : Prop := ∃ y, t.toO = some y ∧ P y
section
variable {α β ι : Type} {P : α → Prop}
theorem aaN {a : α} (h : P a) : WP (.ok a) P := ⟨a, rfl, h⟩
theorem aaI {b : Bool} {x y : TT α} (h1 : b = true → WP x P) (h2 : b = false → WP y P) : WP (.ite b x y) P := by
 cases b
 ·obtain ⟨r, e, q⟩ := h2 rfl; exact ⟨r, uF rfl e, q⟩
 ·obtain ⟨r, e, q⟩ := h1 rfl; exact ⟨r, uT rfl e, q⟩
theorem aaF {p : Prop} {x : TT α} (hp : p) (h : WP x P) : WP (.need p x) P := by obtain ⟨r, e, q⟩ := h; exact ⟨r, uN hp e, q⟩
theorem aaA {p : Prop} {hp : p} {x : TT α} (h : WP x P) : WP (.triv p hp x) P := by obtain ⟨r, e, q⟩ := h; exact ⟨r, uV e, q⟩
theorem aaP {b : β} {x : β → TT α} (h : WP (x b) P) : WP (.lt b x) P := by obtain ⟨r, e, q⟩ := h; exact ⟨r, uB e, q⟩
theorem aaM {o : Option β} {d : β} {x : β → TT α} (y : β) (ho : o = some y) (h : WP (x y) P) : WP (.call o d x) P := by obtain ⟨r, e, q⟩ := h; exact ⟨r, uC y ho e, q⟩
theorem am8 {t : Nat} {H : TT (ι ⊕ α)} {R : ι → TT α} (Q : ι → Prop) (h : WP H fun s => match s with | .inl i => Q i | .inr a => P a) (hR : ∀ i, Q i → WP (R i) P) : WP (.join t H R) P := by
 obtain ⟨s, e, q⟩ := h
 cases s with
 | inl i => obtain ⟨r, e', q'⟩ := hR i q; exact ⟨r, uL i e e', q'⟩
 | inr a => exact ⟨a, uR a e, q⟩
theorem ac7 {t : Nat} {H : TT ι} {R : ι → TT (ι ⊕ α)} (I : ι → Prop) (μ : ι → Nat) (h : WP H I) (hR : ∀ i, I i → WP (R i) fun s => match s with | .inl j => I j ∧ μ j < μ i | .inr a => P a) : WP (.loop t H R) P := by
 obtain ⟨i, e, q⟩ := h
 obtain ⟨a, h1, h2⟩ := agB (R := fun i => (R i).toO) I μ P (fun i hi => by
  obtain ⟨s, e, q⟩ := hR i hi
  cases s with
  | inl j => exact Or.inl ⟨j, e, q⟩
  | inr a => exact Or.inr ⟨a, e, q⟩) i q
 exact ⟨a, uO i e h1, h2⟩
theorem aKJ {Q : α → Prop} {x : TT α} (h : WP x P) (hpq : ∀ a, P a → Q a) : WP x Q := by obtain ⟨r, e, q⟩ := h; exact ⟨r, e, hpq r q⟩
end
def PgOk (I : Int) (p : List OpT) (n : Int) : Prop := ∃ m, abH I p 0 0 = some (n, m) ∧ m ≤ 9
theorem at3 {I : Int} : ∀ {p q : List OpT} {n m : Int}, abH I (p ++ q) n m = (abH I p n m).bind fun s => abH I q s.1 s.2
 | [], _, _, _ => rfl
 | o :: r, q, n, m => by
  show abH I (o :: (r ++ q)) n m = _
  simp only [abH]
  split
  ·exact at3
  ·rfl
theorem PgOk.nil (I : Int) : PgOk I [] 0 := ⟨0, rfl, by omega⟩
theorem PgOk.step {I : Int} {p : List OpT} {n : Int} (h : PgOk I p n) {c a k : Int} (hk : aaL c = k) (h0 : 0 ≤ k) (h1 : k ≤ n) (ha : acO (c, a, ()) I n) (h9 : n - k + 1 ≤ 9) : PgOk I (p ++ [(c, a, ())]) (n - k + 1) := by
 obtain ⟨m, e, hm⟩ := h
 subst hk
 refine ⟨if n - aaL c + 1 > m then n - aaL c + 1 else m, ?_, by split <;> omega⟩
 rw [at3, e]
 show abH I [(c, a, ())] n m = _
 simp only [abH]
 rw [if_pos ⟨h0, h1, ha⟩]
theorem axM (c : Int) : -1 ≤ aaL c ∧ aaL c ≤ 3 := by unfold aaL; split <;> (try split) <;> (try split) <;> (try split) <;> omega
theorem amE {c : Int} (h1 : 1 ≤ c) (h2 : c ≤ 12) : 0 ≤ aaL c := by
 unfold aaL
 split
 ·omega
 ·split
  ·omega
  ·split
   ·omega
   ·rename_i a b c'
    have : ¬ (3 ≤ c ∧ c ≤ 7) := c'
    rw [if_pos zc]; omega
theorem aoO (c : Int) : ab0 (c, ()) = some (aaL c, ()) := rfl
theorem adK {a k : Int} (hk : 0 < k) (ha : 0 ≤ a) : 0 ≤ Int.tmod a k ∧ Int.tmod a k < k := by
 rw [zV ha]; exact ⟨yZ _ zc, yL _ hk⟩
theorem aEV {a : Int} (h : 0 ≤ a) (h' : a ≤ 255) : w64 (1 + w64 (Int.tmod a 3)) = 1 + Int.tmod a 3 ∧ 0 ≤ Int.tmod a 3 ∧ Int.tmod a 3 ≤ 2 := by
 have := adK (a := a) (k := 3) zc h
 refine ⟨?_, this.1, by omega⟩
 rw [aaD (x := Int.tmod a 3) ⟨by omega, by omega⟩, aaD ⟨by omega, by omega⟩]
def shM {α : Type} (l : List α) : Prop := l.length ≤ 140737488355328
def wfP (d : PgT) : Prop := (0 ≤ d.1 ∧ d.1 ≤ 255) ∧ (0 ≤ d.2.1 ∧ d.2.1 ≤ 255) ∧ shM d.2.2.1 ∧ ∀ s ∈ d.2.2.1, (0 ≤ s.1 ∧ s.1 ≤ 255) ∧ -32768 ≤ s.2.1 ∧ s.2.1 ≤ 32767
def PgI (q : Int) (k : Nat) (p : List OpT) (n : Int) : Prop := 0 ≤ n ∧ n ≤ 9 ∧ p.length ≤ k ∧ (0 < k → True) ∧ ∀ I, q ≤ I → PgOk I p n
theorem aH1 (a : Int) : 0 ≤ w64 (IntKind.wrap IntKind.u16 (w64 a)) := by
 have e : IntKind.wrap .u16 (w64 a) = w64 a % 65536 := rfl
 rw [e, aaD ⟨by omega, by omega⟩]; omega
def Sel (n c : Int) : Prop := 1 ≤ c ∧ c ≤ 12 ∧ aaL c ≤ n ∧ (8 < n → aaL c ≠ 0) ∧ (c = 11 → n ≠ 0)
def aEO (q n c a : Int) : Prop := ∀ I, q ≤ I → acO (c, a, ()) I n
theorem aLz {n : Int} (h : 8 < n) : Sel n 3 := ⟨by omega, by omega, by rw [show aaL 3 = 2 from rfl]; omega, fun _ => by decide, fun h => by omega⟩
theorem aLA {n : Int} (h : 0 ≤ n) (h' : ¬ 8 < n) : Sel n 1 := ⟨by omega, by omega, by rw [show aaL 1 = 0 from rfl]; omega, fun h => absurd h h', fun h => by omega⟩
theorem atE (d : PgT) (hw : wfP d) : WP (ad3 d) fun y => y.1.length ≤ 30 ∧ ∀ I, 1 + Int.tmod d.1 3 ≤ I → PgOk I y.1 (1 + Int.tmod d.2.1 3) := by
 obtain ⟨di, dO, ss, u⟩ := d
 obtain ⟨hi, ho, hl, hs⟩ := hw
 dsimp only at hi ho hl hs ⊢
 have hl' : ss.length ≤ 140737488355328 := hl
 obtain ⟨q1, q2, q3⟩ := aEV hi.1 hi.2
 obtain ⟨o1, o2, o3⟩ := aEV ho.1 ho.2
 have LI : ae8 ((di, dO, ss, ()), ()) = some (1 + Int.tmod di 3, ()) := by rw [← q1]; rfl
 have LO : aaV ((di, dO, ss, ()), ()) = some (1 + Int.tmod dO 3, ()) := by rw [← o1]; rfl
 generalize Int.tmod di 3 = q at *
 generalize Int.tmod dO 3 = o at *
 unfold ad3
 refine am8 (fun j => PgI (1 + q) 12 j.2.1 j.2.2.1 ∧ (j.1 = true → j.2.1 = [] ∧ j.2.2.1 = 0)) ?_ ?_
 ·-- the draft's steps
  refine ac7 (fun i => ∃ k : Nat, i.1 = k ∧ k ≤ ss.length ∧ k ≤ 12 ∧ PgI (1 + q) k i.2.2.2.1 i.2.1 ∧ (i.2.2.1 = true → i.2.2.2.1 = [] ∧ i.2.1 = 0)) (fun i => ss.length - i.1.toNat) (aaA (aaA (aaA (aaN ⟨0, rfl, zA _, by omega, ⟨by dsimp only; omega, by dsimp only; omega, by simp, fun _ => trivial, fun I _ => PgOk.nil I⟩, fun _ => ⟨rfl, rfl⟩⟩)))) ?_
  intro i hi
  obtain ⟨i, n, f, p, v⟩ := i
  obtain ⟨k, e, hk, hk2, ⟨hn0, hn9, hpl, -, hp⟩, hf⟩ := hi
  dsimp only at e hn0 hn9 hpl hp hf
  subst e
  have hsk : k < ss.length → (0 ≤ (ss.getD k (0, 0, ())).1 ∧ (ss.getD k (0, 0, ())).1 ≤ 255) := fun h => (hs _ (aa9 h _)).1
  have hc : k < ss.length → ∃ c0, w64 (1 + w64 (Int.tmod (gi ss (k : Int) (0, 0, ())).1 12)) = c0 ∧ 1 ≤ c0 ∧ c0 ≤ 12 := by
   intro h
   have := adK (a := (ss.getD k (0, 0, ())).1) (k := 12) zc (hsk h).1
   rw [aaJ]
   exact ⟨_, rfl, by rw [aaD (x := Int.tmod _ _) ⟨by omega, by omega⟩, aaD ⟨by omega, by omega⟩]; omega, by rw [aaD (x := Int.tmod _ _) ⟨by omega, by omega⟩, aaD ⟨by omega, by omega⟩]; omega⟩
  have hwk : w64 ((k : Int) + 1) = ((k + 1 : Nat) : Int) := (aaD ⟨by omega, by omega⟩).trans zc
  cases f with
  | true =>
   obtain ⟨ep, en⟩ := hf rfl
   subst ep
   refine aaI (fun _ => ?_) (fun h => by cases h)
   refine aaI (fun h1 => ?_) (fun _ => ?_)
   ·have hkl : k < ss.length := by have := of_decide_eq_true h1; rw [aaB] at this; dsimp only at this; omega
    obtain ⟨c0, ec, c1, c2⟩ := hc hkl
    refine aaI (fun h2 => ?_) (fun _ => ?_)
    ·have hk12 : k < 12 := by have := of_decide_eq_true h2; omega
     refine aaF ⟨by omega, by rw [aaB]; dsimp only; omega⟩ (aaA (am8 (fun j => Sel n j.1) ?_ ?_))
     ·rw [ec]
      have ht := amE c1 c2
      refine aaM _ (aoO c0) (aaI (fun a => ?_) (fun a => aaI (fun b => ?_) (fun b => aaI (fun e => ?_) (fun e => ?_))))
      ·refine aaI (fun e => ?_) (fun e => ?_)
       ·exact aaA (aaA (aaA (aaN (aLz (of_decide_eq_true e)))))
       ·exact aaA (aaA (aaA (aaN (aLA hn0 (of_decide_eq_false e)))))
      ·refine aaI (fun e => ?_) (fun e => ?_)
       ·exact aaA (aaA (aaA (aaN (aLz (of_decide_eq_true e)))))
       ·exact aaA (aaA (aaA (aaN (aLA hn0 (of_decide_eq_false e)))))
      ·refine aaM _ (aoO c0) (aaI (fun g => ?_) (fun g => ?_))
       ·refine aaI (fun e => ?_) (fun e => ?_)
        ·exact aaA (aaA (aaA (aaN (aLz (of_decide_eq_true e)))))
        ·exact aaA (aaA (aaA (aaN (aLA hn0 (of_decide_eq_false e)))))
       ·have a' := of_decide_eq_false a
        dsimp only at a' g
        exact aaA (aaP (aaA (aaA (aaN (by first | exact (show Sel n c0 from ⟨c1, c2, by omega, fun _ => by simpa using g, fun _ => by simpa using b⟩) | (show Sel n (w64 (1 + w64 (Int.tmod (gi ss (k : Int) (0, 0, ())).1 12))); rw [ec]; exact (show Sel n c0 from ⟨c1, c2, by omega, fun _ => by simpa using g, fun _ => by simpa using b⟩)))))))
      ·have a' := of_decide_eq_false a
       have e' := of_decide_eq_false e
       dsimp only at a' e'
       exact aaA (aaP (aaA (aaA (aaN (by first | exact (show Sel n c0 from ⟨c1, c2, by omega, fun h => absurd h e', fun _ => by simpa using b⟩) | (show Sel n (w64 (1 + w64 (Int.tmod (gi ss (k : Int) (0, 0, ())).1 12))); rw [ec]; exact (show Sel n c0 from ⟨c1, c2, by omega, fun h => absurd h e', fun _ => by simpa using b⟩)))))))
     ·intro j hj
      obtain ⟨c, w⟩ := j
      obtain ⟨s1, s2, s3, s4, s5⟩ := hj
      dsimp only at s1 s2 s3 s4 s5
      refine aaF ⟨by omega, by rw [aaB]; dsimp only; omega⟩ (am8 (fun a => aEO (1 + q) n c a.1) ?_ ?_)
      ·refine aaI (fun a => ?_) (fun a => aaI (fun b => ?_) (fun b => aaI (fun e => ?_) (fun e => ?_)))
       ·refine aaM _ LI (aaF zg (aaA (aaP (aaA (aaA (aaN (show aEO (1 + q) n c _ from fun I hI => ?_)))))))
        have ea : c = 1 := by simpa using a
        have := adK (k := 1 + q) zc (aH1 (gi ss (k : Int) (0, 0, ())).2.1)
        unfold acO
        rw [if_pos ea]
        exact ⟨this.1, by dsimp only; omega⟩
       ·refine aaA (aaP (aaA (aaA (aaN (show aEO (1 + q) n c _ from fun I hI => ?_)))))
        have ea : ¬ c = 1 := by simpa using a
        have eb : c = 2 := by simpa using b
        have := (hs _ (aa9 hkl (0, 0, ()))).2
        unfold acO
        rw [if_neg ea, if_pos eb, aaJ]
        dsimp only
        rw [aaD (x := (ss.getD k (0, 0, ())).2.1) ⟨by omega, by omega⟩, aaD ⟨by omega, by omega⟩]
        exact ⟨by omega, by omega⟩
       ·have ea : ¬ c = 1 := by simpa using a
        have eb : ¬ c = 2 := by simpa using b
        have ee : c = 11 := by simpa using e
        refine aaF (s5 ee) (aaA (aaP (aaA (aaA (aaN (show aEO (1 + q) n c _ from fun I hI => ?_))))))
        have := adK (k := n) (by have := s5 ee; omega) (aH1 (gi ss (k : Int) (0, 0, ())).2.1)
        unfold acO
        rw [if_neg ea, if_neg eb, if_pos ee]
        exact this
       ·have ea : ¬ c = 1 := by simpa using a
        have eb : ¬ c = 2 := by simpa using b
        have ee : ¬ c = 11 := by simpa using e
        refine aaA (aaA (aaA (aaN (show aEO (1 + q) n c _ from fun I hI => ?_))))
        unfold acO
        rw [if_neg ea, if_neg eb, if_neg ee]
      ·intro a ha
       obtain ⟨a, w'⟩ := a
       have ha : aEO (1 + q) n c a := ha
       have ht := amE s1 s2
       have ht3 := (axM c).2
       have e2 : w64 (w64 (n - aaL c) + 1) = n - aaL c + 1 := by rw [aaD (x := n - aaL c) ⟨by omega, by omega⟩, aaD ⟨by omega, by omega⟩]
       have h9 : n - aaL c + 1 ≤ 9 := by
        by_cases g : 8 < n
        ·have := s4 g; omega
        ·omega
       refine aaF zc (aaM _ (aoO c) (aaA (aaP (aaP (aaP (aaA (aaA (aaN ?_))))))))
       refine ⟨⟨k + 1, hwk, by omega, by omega, ⟨?_, ?_, by simp, fun _ => trivial, fun I hI => ?_⟩, fun h => by cases h⟩, ?_⟩
       ·show 0 ≤ w64 (w64 (n - aaL c) + 1); rw [e2]; omega
       ·show w64 (w64 (n - aaL c) + 1) ≤ 9; rw [e2]; omega
       ·show PgOk I ([] ++ [(c, a, ())]) (w64 (w64 (n - aaL c) + 1)); rw [e2]; exact (hp I hI).step rfl ht s3 (ha I hI) h9
       ·show ss.length - (w64 ((k : Int) + 1)).toNat < ss.length - ((k : Int)).toNat; rw [hwk]; omega
    ·exact aaA (aaP (aaA (aaA (aaN ⟨⟨hn0, hn9, by simp, fun _ => trivial, hp⟩, fun _ => ⟨rfl, en⟩⟩))))
   ·exact aaA (aaP (aaA (aaA (aaN ⟨⟨hn0, hn9, by simp, fun _ => trivial, hp⟩, fun _ => ⟨rfl, en⟩⟩))))
  | false =>
   refine aaI (fun h => by cases h) (fun _ => ?_)
   refine aaI (fun h1 => ?_) (fun _ => ?_)
   ·have hkl : k < ss.length := by have := of_decide_eq_true h1; rw [aaB] at this; dsimp only at this; omega
    obtain ⟨c0, ec, c1, c2⟩ := hc hkl
    refine aaI (fun h2 => ?_) (fun _ => ?_)
    ·have hk12 : k < 12 := by have := of_decide_eq_true h2; omega
     refine aaF ⟨by omega, by rw [aaB]; dsimp only; omega⟩ (aaA (am8 (fun j => Sel n j.1) ?_ ?_))
     ·rw [ec]
      have ht := amE c1 c2
      refine aaM _ (aoO c0) (aaI (fun a => ?_) (fun a => aaI (fun b => ?_) (fun b => aaI (fun e => ?_) (fun e => ?_))))
      ·refine aaI (fun e => ?_) (fun e => ?_)
       ·exact aaA (aaA (aaA (aaN (aLz (of_decide_eq_true e)))))
       ·exact aaA (aaA (aaA (aaN (aLA hn0 (of_decide_eq_false e)))))
      ·refine aaI (fun e => ?_) (fun e => ?_)
       ·exact aaA (aaA (aaA (aaN (aLz (of_decide_eq_true e)))))
       ·exact aaA (aaA (aaA (aaN (aLA hn0 (of_decide_eq_false e)))))
      ·refine aaM _ (aoO c0) (aaI (fun g => ?_) (fun g => ?_))
       ·refine aaI (fun e => ?_) (fun e => ?_)
        ·exact aaA (aaA (aaA (aaN (aLz (of_decide_eq_true e)))))
        ·exact aaA (aaA (aaA (aaN (aLA hn0 (of_decide_eq_false e)))))
       ·have a' := of_decide_eq_false a
        dsimp only at a' g
        exact aaA (aaP (aaA (aaA (aaN (by first | exact (show Sel n c0 from ⟨c1, c2, by omega, fun _ => by simpa using g, fun _ => by simpa using b⟩) | (show Sel n (w64 (1 + w64 (Int.tmod (gi ss (k : Int) (0, 0, ())).1 12))); rw [ec]; exact (show Sel n c0 from ⟨c1, c2, by omega, fun _ => by simpa using g, fun _ => by simpa using b⟩)))))))
      ·have a' := of_decide_eq_false a
       have e' := of_decide_eq_false e
       dsimp only at a' e'
       exact aaA (aaP (aaA (aaA (aaN (by first | exact (show Sel n c0 from ⟨c1, c2, by omega, fun h => absurd h e', fun _ => by simpa using b⟩) | (show Sel n (w64 (1 + w64 (Int.tmod (gi ss (k : Int) (0, 0, ())).1 12))); rw [ec]; exact (show Sel n c0 from ⟨c1, c2, by omega, fun h => absurd h e', fun _ => by simpa using b⟩)))))))
     ·intro j hj
      obtain ⟨c, w⟩ := j
      obtain ⟨s1, s2, s3, s4, s5⟩ := hj
      dsimp only at s1 s2 s3 s4 s5
      refine aaF ⟨by omega, by rw [aaB]; dsimp only; omega⟩ (am8 (fun a => aEO (1 + q) n c a.1) ?_ ?_)
      ·refine aaI (fun a => ?_) (fun a => aaI (fun b => ?_) (fun b => aaI (fun e => ?_) (fun e => ?_)))
       ·refine aaM _ LI (aaF zg (aaA (aaP (aaA (aaA (aaN (show aEO (1 + q) n c _ from fun I hI => ?_)))))))
        have ea : c = 1 := by simpa using a
        have := adK (k := 1 + q) zc (aH1 (gi ss (k : Int) (0, 0, ())).2.1)
        unfold acO
        rw [if_pos ea]
        exact ⟨this.1, by dsimp only; omega⟩
       ·refine aaA (aaP (aaA (aaA (aaN (show aEO (1 + q) n c _ from fun I hI => ?_)))))
        have ea : ¬ c = 1 := by simpa using a
        have eb : c = 2 := by simpa using b
        have := (hs _ (aa9 hkl (0, 0, ()))).2
        unfold acO
        rw [if_neg ea, if_pos eb, aaJ]
        dsimp only
        rw [aaD (x := (ss.getD k (0, 0, ())).2.1) ⟨by omega, by omega⟩, aaD ⟨by omega, by omega⟩]
        exact ⟨by omega, by omega⟩
       ·have ea : ¬ c = 1 := by simpa using a
        have eb : ¬ c = 2 := by simpa using b
        have ee : c = 11 := by simpa using e
        refine aaF (s5 ee) (aaA (aaP (aaA (aaA (aaN (show aEO (1 + q) n c _ from fun I hI => ?_))))))
        have := adK (k := n) (by have := s5 ee; omega) (aH1 (gi ss (k : Int) (0, 0, ())).2.1)
        unfold acO
        rw [if_neg ea, if_neg eb, if_pos ee]
        exact this
       ·have ea : ¬ c = 1 := by simpa using a
        have eb : ¬ c = 2 := by simpa using b
        have ee : ¬ c = 11 := by simpa using e
        refine aaA (aaA (aaA (aaN (show aEO (1 + q) n c _ from fun I hI => ?_))))
        unfold acO
        rw [if_neg ea, if_neg eb, if_neg ee]
      ·intro a ha
       obtain ⟨a, w'⟩ := a
       have ha : aEO (1 + q) n c a := ha
       have ht := amE s1 s2
       have ht3 := (axM c).2
       have e2 : w64 (w64 (n - aaL c) + 1) = n - aaL c + 1 := by rw [aaD (x := n - aaL c) ⟨by omega, by omega⟩, aaD ⟨by omega, by omega⟩]
       have h9 : n - aaL c + 1 ≤ 9 := by
        by_cases g : 8 < n
        ·have := s4 g; omega
        ·omega
       have etk : List.take (List.length p) p = p := zB
       refine aaF (by show (p.length + 1) * 16 ≤ 140737488355328; omega) (aaM _ (aoO c) (aaA (aaP (aaP (aaP (aaF ⟨⟨rfl, rfl, by simp, rfl⟩, rfl, rfl, ⟨rfl, rfl, rfl⟩, trivial⟩ (aaA (aaN ?_))))))))
       refine ⟨⟨k + 1, hwk, by omega, by omega, ⟨?_, ?_, by show (List.take p.length p ++ [(c, a, ())]).length ≤ k + 1; rw [etk]; simp; omega, fun _ => trivial, fun I hI => ?_⟩, fun h => by cases h⟩, ?_⟩
       ·show 0 ≤ w64 (w64 (n - aaL c) + 1); rw [e2]; omega
       ·show w64 (w64 (n - aaL c) + 1) ≤ 9; rw [e2]; omega
       ·show PgOk I (List.take p.length p ++ [(c, a, ())]) (w64 (w64 (n - aaL c) + 1)); rw [e2, etk]; exact (hp I hI).step rfl ht s3 (ha I hI) h9
       ·show ss.length - (w64 ((k : Int) + 1)).toNat < ss.length - ((k : Int)).toNat; rw [hwk]; omega
    ·exact aaA (aaP (aaP (aaA (aaA (aaN ⟨⟨hn0, hn9, by dsimp only; omega, fun _ => trivial, hp⟩, fun h => by cases h⟩)))))
   ·exact aaA (aaP (aaP (aaA (aaA (aaN ⟨⟨hn0, hn9, by dsimp only; omega, fun _ => trivial, hp⟩, fun h => by cases h⟩)))))
 ·intro j hj
  obtain ⟨f, p, n, v⟩ := j
  obtain ⟨⟨hn0, hn9, hpl, -, hp⟩, hf⟩ := hj
  dsimp only at hn0 hn9 hpl hp hf
  have hpush : ∀ (p : List OpT) (n : Int), 0 ≤ n → n ≤ 2 → (∀ I, 1 + q ≤ I → PgOk I p n) → ∀ I, 1 + q ≤ I → PgOk I (p ++ [(1, Int.tmod n (1 + q), ())]) (n + 1) := by
   intro p n h0 h2 hp I hI
   have ht := adK (a := n) (k := 1 + q) zc h0
   have := (hp I hI).step (c := 1) (a := Int.tmod n (1 + q)) (k := 0) rfl zc h0 (by unfold acO; rw [if_pos rfl]; exact ⟨ht.1, by dsimp only; omega⟩) zc
   rwa [show n - 0 + 1 = n + 1 by omega] at this
  have hpop : ∀ (p : List OpT) (n : Int), 2 ≤ n → n ≤ 9 → (∀ I, 1 + q ≤ I → PgOk I p n) → ∀ I, 1 + q ≤ I → PgOk I (p ++ [(3, 0, ())]) (n - 1) := by
   intro p n h2 h9 hp I hI
   have := (hp I hI).step (c := 3) (a := 0) (k := 2) rfl zc h2 rfl zc
   rwa [show n - 2 + 1 = n - 1 by omega] at this
  unfold ak6
  cases f with
  | true =>
   refine aaI (fun _ => ?_) (fun h => by cases h)
   refine ac7 (fun i : Int × Bool × List OpT × Unit => 0 ≤ i.1 ∧ i.1 ≤ 9 ∧ (i.2.2.1.length : Int) ≤ 12 + i.1 ∧ (∀ I, 1 + q ≤ I → PgOk I i.2.2.1 i.1) ∧ (i.2.1 = true → i.2.2.1 = [])) (fun i => (10 - i.1).toNat) (aaA (aaP (aaA (aaA (aaN ⟨hn0, hn9, by simp; omega, by obtain ⟨rfl, rfl⟩ := hf rfl; exact hp, fun _ => rfl⟩))))) ?_
   intro i hi
   obtain ⟨n, f, p, w⟩ := i
   obtain ⟨hn0, hn9, hpl, hp, hf⟩ := hi
   dsimp only at hn0 hn9 hpl hp hf
   unfold ak5
   cases f with
   | true =>
    have ep := hf rfl
    subst ep
    refine aaI (fun _ => ?_) (fun h => by cases h)
    refine aaM _ LO (aaI (fun a => ?_) (fun a => ?_))
    ·have a' : n < 1 + o := of_decide_eq_true a
     have en : w64 (n + 1) = n + 1 := aaD ⟨by omega, by omega⟩
     refine aaM _ LI (aaF zg (aaF zc (aaA (aaP (aaP (aaA (aaA (aaN ⟨⟨?_, ?_, ?_, ?_, fun h => by cases h⟩, ?_⟩))))))))
     ·show 0 ≤ w64 (n + 1); omega
     ·show w64 (n + 1) ≤ 9; omega
     ·show ((1 : Nat) : Int) ≤ 12 + w64 (n + 1); omega
     ·show ∀ I, 1 + q ≤ I → PgOk I ([] ++ [(1, Int.tmod n (1 + q), ())]) (w64 (n + 1)); rw [en]; exact hpush [] n hn0 zc hp
     ·show (10 - w64 (n + 1)).toNat < (10 - n).toNat; omega
    ·have a' : ¬ n < 1 + o := of_decide_eq_false a
     refine ac7 (fun i : Bool × List OpT × Int × Unit => (1 + o ≤ i.2.2.1 ∧ i.2.2.1 ≤ 9 ∧ (i.2.1.length : Int) + i.2.2.1 ≤ 30 ∧ ∀ I, 1 + q ≤ I → PgOk I i.2.1 i.2.2.1) ∧ (i.1 = true → i.2.1 = [])) (fun i => i.2.2.1.toNat) (aaA (aaP (aaA (aaA (aaN ⟨⟨by dsimp only; omega, hn9, by simp; omega, hp⟩, fun _ => rfl⟩))))) ?_
     intro i hi
     obtain ⟨f, p, n, w⟩ := i
     obtain ⟨⟨h1, h9, hpl, hp⟩, hf⟩ := hi
     dsimp only at h1 h9 hpl hp hf
     unfold ak4
     cases f with
     | true =>
      have ep := hf rfl
      subst ep
      refine aaI (fun _ => ?_) (fun h => by cases h)
      refine aaM _ LO (aaI (fun a => ?_) (fun a => ?_))
      ·have a' : n > 1 + o := of_decide_eq_true a
       have en : w64 (n - 1) = n - 1 := aaD ⟨by omega, by omega⟩
       refine aaA (aaA (aaP (aaP (aaA (aaA (aaN ⟨⟨?_, fun h => by cases h⟩, ?_⟩))))))
       ·show 1 + o ≤ w64 (n - 1) ∧ w64 (n - 1) ≤ 9 ∧ ((1 : Nat) : Int) + w64 (n - 1) ≤ 30 ∧ ∀ I, 1 + q ≤ I → PgOk I ([] ++ [(3, 0, ())]) (w64 (n - 1))
        rw [en]
        exact ⟨by omega, by omega, by omega, hpop [] n zc h9 hp⟩
       ·show (w64 (n - 1)).toNat < n.toNat
        rw [en]; omega
      ·have a' : ¬ n > 1 + o := of_decide_eq_false a
       have en : n = 1 + o := zc
       subst en
       exact aaN (show ([] : List OpT).length ≤ 30 ∧ ∀ I, 1 + q ≤ I → PgOk I [] (1 + o) from ⟨by simp, hp⟩)
     | false =>
      refine aaI (fun h => by cases h) (fun _ => ?_)
      have etk : List.take (List.length p) p = p := zB
      refine aaM _ LO (aaI (fun a => ?_) (fun a => ?_))
      ·have a' : n > 1 + o := of_decide_eq_true a
       have en : w64 (n - 1) = n - 1 := aaD ⟨by omega, by omega⟩
       refine aaF (by show (p.length + 1) * 16 ≤ 140737488355328; omega) (aaA (aaP (aaP (aaF ⟨rfl, ⟨rfl, rfl, by simp, rfl⟩, ⟨rfl, rfl, rfl⟩, trivial⟩ (aaA (aaN ⟨⟨?_, fun h => by cases h⟩, ?_⟩))))))
       ·show 1 + o ≤ w64 (n - 1) ∧ w64 (n - 1) ≤ 9 ∧ ((List.take p.length p ++ [(3, 0, ())] : List OpT).length : Int) + w64 (n - 1) ≤ 30 ∧ ∀ I, 1 + q ≤ I → PgOk I (List.take p.length p ++ [(3, 0, ())]) (w64 (n - 1))
        rw [en, etk]
        exact ⟨by omega, by omega, by rw [zq]; simp; omega, hpop p n zc h9 hp⟩
       ·show (w64 (n - 1)).toNat < n.toNat
        rw [en]; omega
      ·have a' : ¬ n > 1 + o := of_decide_eq_false a
       have en : n = 1 + o := zc
       subst en
       refine aaN ?_
       show (List.take p.length p).length ≤ 30 ∧ ∀ I, 1 + q ≤ I → PgOk I (List.take p.length p) (1 + o)
       rw [etk]
       exact ⟨by omega, hp⟩
   | false =>
    refine aaI (fun h => by cases h) (fun _ => ?_)
    have etk : List.take (List.length p) p = p := zB
    refine aaM _ LO (aaI (fun a => ?_) (fun a => ?_))
    ·have a' : n < 1 + o := of_decide_eq_true a
     have en : w64 (n + 1) = n + 1 := aaD ⟨by omega, by omega⟩
     refine aaM _ LI (aaF zg (aaF (by show (p.length + 1) * 16 ≤ 140737488355328; omega) (aaA (aaP (aaP (aaF ⟨⟨rfl, rfl, by simp, rfl⟩, rfl, ⟨rfl, rfl, rfl⟩, trivial⟩ (aaA (aaN ⟨⟨?_, ?_, ?_, ?_, fun h => by cases h⟩, ?_⟩))))))))
     ·show 0 ≤ w64 (n + 1); omega
     ·show w64 (n + 1) ≤ 9; omega
     ·show ((List.take p.length p ++ [(1, Int.tmod n (1 + q), ())] : List OpT).length : Int) ≤ 12 + w64 (n + 1); rw [etk, en, zq]; simp; omega
     ·show ∀ I, 1 + q ≤ I → PgOk I (List.take p.length p ++ [(1, Int.tmod n (1 + q), ())]) (w64 (n + 1)); rw [en, etk]; exact hpush p n hn0 zc hp
     ·show (10 - w64 (n + 1)).toNat < (10 - n).toNat; omega
    ·have a' : ¬ n < 1 + o := of_decide_eq_false a
     refine ac7 (fun i : List OpT × Int × Unit => 1 + o ≤ i.2.1 ∧ i.2.1 ≤ 9 ∧ (i.1.length : Int) + i.2.1 ≤ 30 ∧ ∀ I, 1 + q ≤ I → PgOk I i.1 i.2.1) (fun i => i.2.1.toNat) (aaA (aaP (aaP (aaA (aaA (aaN ⟨by dsimp only; omega, hn9, by dsimp only; omega, hp⟩)))))) ?_
     intro i hi
     obtain ⟨p, n, w⟩ := i
     obtain ⟨h1, h9, hpl, hp⟩ := hi
     dsimp only at h1 h9 hpl hp
     unfold ak3
     have etk : List.take (List.length p) p = p := zB
     refine aaM _ LO (aaI (fun a => ?_) (fun a => ?_))
     ·have a' : n > 1 + o := of_decide_eq_true a
      have en : w64 (n - 1) = n - 1 := aaD ⟨by omega, by omega⟩
      refine aaF (by show (p.length + 1) * 16 ≤ 140737488355328; omega) (aaA (aaP (aaP (aaF ⟨rfl, ⟨rfl, rfl, by simp, rfl⟩, ⟨rfl, rfl, rfl⟩, trivial⟩ (aaA (aaN ⟨?_, ?_⟩))))))
      ·show 1 + o ≤ w64 (n - 1) ∧ w64 (n - 1) ≤ 9 ∧ ((List.take p.length p ++ [(3, 0, ())] : List OpT).length : Int) + w64 (n - 1) ≤ 30 ∧ ∀ I, 1 + q ≤ I → PgOk I (List.take p.length p ++ [(3, 0, ())]) (w64 (n - 1))
       rw [en, etk]
       exact ⟨by omega, by omega, by rw [zq]; simp; omega, hpop p n zc h9 hp⟩
      ·show (w64 (n - 1)).toNat < n.toNat
       rw [en]; omega
     ·have a' : ¬ n > 1 + o := of_decide_eq_false a
      have en : n = 1 + o := zc
      subst en
      refine aaN ?_
      show (List.take p.length p).length ≤ 30 ∧ ∀ I, 1 + q ≤ I → PgOk I (List.take p.length p) (1 + o)
      rw [etk]
      exact ⟨by omega, hp⟩
  | false =>
   refine aaI (fun h => by cases h) (fun _ => ?_)
   refine ac7 (fun i : Int × List OpT × Unit => 0 ≤ i.1 ∧ i.1 ≤ 9 ∧ (i.2.1.length : Int) ≤ 12 + i.1 ∧ ∀ I, 1 + q ≤ I → PgOk I i.2.1 i.1) (fun i => (10 - i.1).toNat) (aaA (aaP (aaP (aaA (aaA (aaN ⟨hn0, hn9, by dsimp only; omega, hp⟩)))))) ?_
   intro i hi
   obtain ⟨n, p, w⟩ := i
   obtain ⟨hn0, hn9, hpl, hp⟩ := hi
   dsimp only at hn0 hn9 hpl hp
   unfold ajK
   have etk : List.take (List.length p) p = p := zB
   refine aaM _ LO (aaI (fun a => ?_) (fun a => ?_))
   ·have a' : n < 1 + o := of_decide_eq_true a
    have en : w64 (n + 1) = n + 1 := aaD ⟨by omega, by omega⟩
    refine aaM _ LI (aaF zg (aaF (by show (p.length + 1) * 16 ≤ 140737488355328; omega) (aaA (aaP (aaP (aaF ⟨⟨rfl, rfl, by simp, rfl⟩, rfl, ⟨rfl, rfl, rfl⟩, trivial⟩ (aaA (aaN ⟨⟨?_, ?_, ?_, ?_⟩, ?_⟩))))))))
    ·show 0 ≤ w64 (n + 1); omega
    ·show w64 (n + 1) ≤ 9; omega
    ·show ((List.take p.length p ++ [(1, Int.tmod n (1 + q), ())] : List OpT).length : Int) ≤ 12 + w64 (n + 1); rw [etk, en, zq]; simp; omega
    ·show ∀ I, 1 + q ≤ I → PgOk I (List.take p.length p ++ [(1, Int.tmod n (1 + q), ())]) (w64 (n + 1)); rw [en, etk]; exact hpush p n hn0 zc hp
    ·show (10 - w64 (n + 1)).toNat < (10 - n).toNat; omega
   ·have a' : ¬ n < 1 + o := of_decide_eq_false a
    refine ac7 (fun i : List OpT × Int × Unit => 1 + o ≤ i.2.1 ∧ i.2.1 ≤ 9 ∧ (i.1.length : Int) + i.2.1 ≤ 30 ∧ ∀ I, 1 + q ≤ I → PgOk I i.1 i.2.1) (fun i => i.2.1.toNat) (aaA (aaP (aaP (aaA (aaA (aaN ⟨by dsimp only; omega, hn9, by dsimp only; omega, hp⟩)))))) ?_
    intro i hi
    obtain ⟨p, n, w⟩ := i
    obtain ⟨h1, h9, hpl, hp⟩ := hi
    dsimp only at h1 h9 hpl hp
    unfold ajJ
    have etk : List.take (List.length p) p = p := zB
    refine aaM _ LO (aaI (fun a => ?_) (fun a => ?_))
    ·have a' : n > 1 + o := of_decide_eq_true a
     have en : w64 (n - 1) = n - 1 := aaD ⟨by omega, by omega⟩
     refine aaF (by show (p.length + 1) * 16 ≤ 140737488355328; omega) (aaA (aaP (aaP (aaF ⟨rfl, ⟨rfl, rfl, by simp, rfl⟩, ⟨rfl, rfl, rfl⟩, trivial⟩ (aaA (aaN ⟨?_, ?_⟩))))))
     ·show 1 + o ≤ w64 (n - 1) ∧ w64 (n - 1) ≤ 9 ∧ ((List.take p.length p ++ [(3, 0, ())] : List OpT).length : Int) + w64 (n - 1) ≤ 30 ∧ ∀ I, 1 + q ≤ I → PgOk I (List.take p.length p ++ [(3, 0, ())]) (w64 (n - 1))
      rw [en, etk]
      exact ⟨by omega, by omega, by rw [zq]; simp; omega, hpop p n zc h9 hp⟩
     ·show (w64 (n - 1)).toNat < n.toNat
      rw [en]; omega
    ·have a' : ¬ n > 1 + o := of_decide_eq_false a
     have en : n = 1 + o := zc
     subst en
     refine aaN ?_
     show (List.take p.length p).length ≤ 30 ∧ ∀ I, 1 + q ≤ I → PgOk I (List.take p.length p) (1 + o)
     rw [etk]
     exact ⟨by omega, hp⟩
set_option maxRecDepth 100000
open Go Go.Vg Go.Proofs
noncomputable section
def aA5 : LTab := [(136, 58, 9217, ⟨0, (Int) × (Int) × (List Int) × Unit, .dat (.s 6) xX <| .dat (.s 1) xX <| .row 3 xX <| .nil, [5, 4, 0], [3], 0⟩)]
def aoX (size : List Int) (n : Int) (i : (Int) × (Int) × (List Int) × Unit) : TT (wP ⊕ (List Int × Unit)) :=
 .ite (decide (i.1 ≥ 0))
 (.need (inb i.1 (len size)) <| .need (gi size i.1 0 ≠ 0) <| .need (inb i.1 (↑(Int.toNat (len size)) : Int)) <| .need (inb i.1 (len size)) <| .need (gi size i.1 0 ≠ 0) <| .tt <| .lt (w64 (i.1 - 1) : Int) fun z2 => .lt (w64 (Int.tdiv i.2.1 (gi size i.1 0)) : Int) fun z3 => .lt (List.set i.2.2.1 (0 + Int.toNat i.1) (Int.tmod i.2.1 (gi size i.1 0)) : List Int) fun z4 => .xD (xQ z3 z2 <| (xU 3 0 (Int.toNat (len size)) true) ∧ True ∧ xR size) <| .xD (xC (xS 3 z4) True) <| .ok (.inl ((z2, z3, z4, ()))))
 (.ok (.inr ((List.take (Int.toNat (len size)) i.2.2.1, ()))))
def af4 (size : List Int) (n : Int) : TT (List Int × Unit) :=
 .need (0 ≤ len size ∧ len size ≤ len size ∧ len size * (↑8 : Int) ≤ 140737488355328) <| .loop 0 (.tt <| .lt (w64 (len size - 1) : Int) fun z => .lt (List.replicate (Int.toNat (len size)) 0 : List Int) fun z1 => .xD (xQ n z <| (xU 3 0 (Int.toNat (len size)) true) ∧ True ∧ xR size) <| .xD (xC (xS 3 z1) True) <| .ok ((z, n, z1, ()))) (aoX size n)
end
noncomputable def aaZ (x : PgT × Unit) : Option (List OpT × Unit) := (ad3 x.1).toO
noncomputable def aeY (x : List Int × Int × Unit) : Option (List Int × Unit) := (af4 x.1 x.2.1).toO
set_option maxRecDepth 100000
open Go Go.Vg Go.Proofs
noncomputable section
def aDA : LTab := [(93, 58, 7171, ⟨0, (Int) × Bool × (List Int) × Unit, .dat (.s 8) xX <| .appN (.c 5 2) 7 3 xX <| .nil, [7, 6, 3, 1, 2], [5, 1, 0], 1⟩), (93, 7462, 16387, ⟨1, (Int) × Bool × (List Int) × Unit, .dat (.s 10) xX <| .appN (.c 5 2) 16 3 xX <| .nil, [9, 24, 23, 22, 19, 18, 17, 16, 8, 7, 6, 3, 1, 2], [5, 1, 0], 1⟩), (93, 7462, 17411, ⟨2, (Int) × Bool × (List Int) × Unit, .dat (.s 10) xX <| .appN (.c 5 2) 17 3 xX <| .nil, [9, 24, 23, 22, 19, 18, 17, 16, 8, 7, 6, 3, 1, 2], [5, 1, 0], 1⟩), (93, 7462, 17410, ⟨3, (Int) × (List Int) × Unit, .dat (.s 10) xX <| .app (.c 5 2) 17 3 xX <| .nil, [9, 24, 23, 22, 19, 18, 17, 16, 8, 7, 6, 3, 1, 2], [5, 1, 0], 1⟩)]
def aqV (d : List Int × Int × List Int × Bool × Unit) (size : List Int) (out0 : Int) (i : Int × Bool × List Int × Unit) (y : Int × Unit) (y1 : List Int × Unit) (i1 : (Int) × Bool × (List Int) × Unit) : TT (wu ⊕ wX) :=
 .ite (i1.2.1)
 (.ite (decide (i1.1 < out0))
 (.ite (decide (len d.2.2.1 > 0))
 (.need (len d.2.2.1 ≠ 0) <| .need (inb (Int.tmod (w64 (w64 (i.1 * out0) + i1.1)) (len d.2.2.1)) (len d.2.2.1)) <| .ite (d.2.2.2.1)
 (.need (len size ≠ 0) <| .need (inb (Int.tmod i1.1 (len size)) (len y1.1)) <| .need (inb (Int.tmod i1.1 (len size)) (len size)) <| .need (w64 (gi size (Int.tmod i1.1 (len size)) 0 - 1) ≠ 0) <| .triv (asT Int 5000 ≠ 0) zd <| .need (1 * 8 ≤ 140737488355328) <| .tt <| .lt (w64 (i1.1 + 1) : Int) fun z => .lt ([w64 (w64 (Int.tdiv (w64 (60000 * gi y1.1 (Int.tmod i1.1 (len size)) 0)) (w64 (gi size (Int.tmod i1.1 (len size)) 0 - 1))) + Int.tmod (w64 (gi d.2.2.1 (Int.tmod (w64 (w64 (i.1 * out0) + i1.1)) (len d.2.2.1)) 0)) 5000)] : List Int) fun z1 => .xD (xN z y1.1 y1.1 i.1 size (decide (i.1 < y.1)) y.1 size <| xQ i.1 i.1 <| wx ∧ wb ∧ wc ∧ xM size out0) <| .xD (xC (xS 3 z1) <| xC (xI 79 size out0 <| (xU 17 0 1 true) ∧ True) <| xC wj <| xC (xF 35 d.1 d.2.1 d.2.2.1 d.2.2.2.1) True) <| .ok (.inl ((z, false, z1, ()))))
 (.need (1 * 8 ≤ 140737488355328) <| .tt <| .lt (w64 (i1.1 + 1) : Int) fun z2 => .lt ([w64 (gi d.2.2.1 (Int.tmod (w64 (w64 (i.1 * out0) + i1.1)) (len d.2.2.1)) 0)] : List Int) fun z3 => .xD (xN z2 y1.1 y1.1 i.1 size (decide (i.1 < y.1)) y.1 size <| xQ i.1 i.1 <| wx ∧ wb ∧ wc ∧ xM size out0) <| .xD (xC (xS 3 z3) <| xC (xI 79 size out0 <| (xU 17 0 1 true) ∧ True) <| xC wj <| xC (xF 35 d.1 d.2.1 d.2.2.1 d.2.2.2.1) True) <| .ok (.inl ((z2, false, z3, ())))))
 (.ite (d.2.2.2.1)
 (.need (len size ≠ 0) <| .need (inb (Int.tmod i1.1 (len size)) (len y1.1)) <| .need (inb (Int.tmod i1.1 (len size)) (len size)) <| .need (w64 (gi size (Int.tmod i1.1 (len size)) 0 - 1) ≠ 0) <| .triv (asT Int 5000 ≠ 0) zd <| .need (1 * 8 ≤ 140737488355328) <| .tt <| .lt (w64 (i1.1 + 1) : Int) fun z4 => .lt ([w64 (w64 (Int.tdiv (w64 (60000 * gi y1.1 (Int.tmod i1.1 (len size)) 0)) (w64 (gi size (Int.tmod i1.1 (len size)) 0 - 1))) + Int.tmod 0 5000)] : List Int) fun z5 => .xD (xN z4 y1.1 y1.1 i.1 size (decide (i.1 < y.1)) y.1 size <| xQ i.1 i.1 <| wx ∧ wb ∧ wc ∧ xM size out0) <| .xD (xC (xS 3 z5) <| xC (xI 79 size out0 <| (xU 17 0 1 true) ∧ True) <| xC wj <| xC (xF 35 d.1 d.2.1 d.2.2.1 d.2.2.2.1) True) <| .ok (.inl ((z4, false, z5, ()))))
 (.triv (1 * 8 ≤ 140737488355328) zd <| .tt <| .lt (w64 (i1.1 + 1) : Int) fun z6 => .lt ([0] : List Int) fun z7 => .xD (xN z6 y1.1 y1.1 i.1 size (decide (i.1 < y.1)) y.1 size <| xQ i.1 i.1 <| wx ∧ wb ∧ wc ∧ xM size out0) <| .xD (xC (xS 3 z7) <| xC (xI 79 size out0 <| (xU 17 0 1 true) ∧ True) <| xC wj <| xC (xF 35 d.1 d.2.1 d.2.2.1 d.2.2.2.1) True) <| .ok (.inl ((z6, false, z7, ()))))))
 (.tt <| .lt (w64 (i.1 + 1) : Int) fun z8 => .xD (xL z8 <| wx ∧ wb ∧ wc ∧ xM size out0) <| .xD (xC (xI 79 size out0 <| True ∧ True) <| xC wj <| xC (xF 35 d.1 d.2.1 d.2.2.1 d.2.2.2.1) True) <| .ok (.inr (.inl ((z8, true, [], ()))))))
 (.ite (decide (i1.1 < out0))
 (.ite (decide (len d.2.2.1 > 0))
 (.need (len d.2.2.1 ≠ 0) <| .need (inb (Int.tmod (w64 (w64 (i.1 * out0) + i1.1)) (len d.2.2.1)) (len d.2.2.1)) <| .ite (d.2.2.2.1)
 (.need (len size ≠ 0) <| .need (inb (Int.tmod i1.1 (len size)) (len y1.1)) <| .need (inb (Int.tmod i1.1 (len size)) (len size)) <| .need (w64 (gi size (Int.tmod i1.1 (len size)) 0 - 1) ≠ 0) <| .triv (asT Int 5000 ≠ 0) zd <| .need ((List.length i1.2.2.1 + 1) * 8 ≤ 140737488355328) <| .tt <| .lt (w64 (i1.1 + 1) : Int) fun z9 => .lt (List.take (List.length i1.2.2.1) i1.2.2.1 ++ [w64 (w64 (Int.tdiv (w64 (60000 * gi y1.1 (Int.tmod i1.1 (len size)) 0)) (w64 (gi size (Int.tmod i1.1 (len size)) 0 - 1))) + Int.tmod (w64 (gi d.2.2.1 (Int.tmod (w64 (w64 (i.1 * out0) + i1.1)) (len d.2.2.1)) 0)) 5000)] : List Int) fun z10 => .xD (xN z9 y1.1 y1.1 i.1 size (decide (i.1 < y.1)) y.1 size <| xQ i.1 i.1 <| wx ∧ wb ∧ wc ∧ xM size out0) <| .need ((((3 : TypeId) = 3) ∧ ((z10 : List Int) = z10)) ∧ (true = true) ∧ (((79 : TypeId) = 79) ∧ (((size) = (size)) ∧ (((out0) = (out0)) ∧ ((((17) = (17)) ∧ (((0) = (0)) ∧ ((List.length i1.2.2.1 + 1 = List.length z10) ∧ ((true) = (true))))) ∧ True)))) ∧ (true = true) ∧ (((79 : TypeId) = 79) ∧ (True ∧ (((0 : Int) = 0) ∧ wq))) ∧ (true = true) ∧ (((35 : TypeId) = 35) ∧ (((d.1 : List Int) = d.1) ∧ (((d.2.1 : Int) = d.2.1) ∧ (((d.2.2.1 : List Int) = d.2.2.1) ∧ (((d.2.2.2.1) = (d.2.2.2.1)) ∧ True))))) ∧ (true = true) ∧ True) <| .ok (.inl ((z9, false, z10, ()))))
 (.need ((List.length i1.2.2.1 + 1) * 8 ≤ 140737488355328) <| .tt <| .lt (w64 (i1.1 + 1) : Int) fun z11 => .lt (List.take (List.length i1.2.2.1) i1.2.2.1 ++ [w64 (gi d.2.2.1 (Int.tmod (w64 (w64 (i.1 * out0) + i1.1)) (len d.2.2.1)) 0)] : List Int) fun z12 => .xD (xN z11 y1.1 y1.1 i.1 size (decide (i.1 < y.1)) y.1 size <| xQ i.1 i.1 <| wx ∧ wb ∧ wc ∧ xM size out0) <| .need ((((3 : TypeId) = 3) ∧ ((z12 : List Int) = z12)) ∧ (true = true) ∧ (((79 : TypeId) = 79) ∧ (((size) = (size)) ∧ (((out0) = (out0)) ∧ ((((17) = (17)) ∧ (((0) = (0)) ∧ ((List.length i1.2.2.1 + 1 = List.length z12) ∧ ((true) = (true))))) ∧ True)))) ∧ (true = true) ∧ (((79 : TypeId) = 79) ∧ (True ∧ (((0 : Int) = 0) ∧ wq))) ∧ (true = true) ∧ (((35 : TypeId) = 35) ∧ (((d.1 : List Int) = d.1) ∧ (((d.2.1 : Int) = d.2.1) ∧ (((d.2.2.1 : List Int) = d.2.2.1) ∧ (((d.2.2.2.1) = (d.2.2.2.1)) ∧ True))))) ∧ (true = true) ∧ True) <| .ok (.inl ((z11, false, z12, ())))))
 (.ite (d.2.2.2.1)
 (.need (len size ≠ 0) <| .need (inb (Int.tmod i1.1 (len size)) (len y1.1)) <| .need (inb (Int.tmod i1.1 (len size)) (len size)) <| .need (w64 (gi size (Int.tmod i1.1 (len size)) 0 - 1) ≠ 0) <| .triv (asT Int 5000 ≠ 0) zd <| .need ((List.length i1.2.2.1 + 1) * 8 ≤ 140737488355328) <| .tt <| .lt (w64 (i1.1 + 1) : Int) fun z13 => .lt (List.take (List.length i1.2.2.1) i1.2.2.1 ++ [w64 (w64 (Int.tdiv (w64 (60000 * gi y1.1 (Int.tmod i1.1 (len size)) 0)) (w64 (gi size (Int.tmod i1.1 (len size)) 0 - 1))) + Int.tmod 0 5000)] : List Int) fun z14 => .xD (xN z13 y1.1 y1.1 i.1 size (decide (i.1 < y.1)) y.1 size <| xQ i.1 i.1 <| wx ∧ wb ∧ wc ∧ xM size out0) <| .need ((((3 : TypeId) = 3) ∧ ((z14 : List Int) = z14)) ∧ (true = true) ∧ (((79 : TypeId) = 79) ∧ (((size) = (size)) ∧ (((out0) = (out0)) ∧ ((((17) = (17)) ∧ (((0) = (0)) ∧ ((List.length i1.2.2.1 + 1 = List.length z14) ∧ ((true) = (true))))) ∧ True)))) ∧ (true = true) ∧ (((79 : TypeId) = 79) ∧ (True ∧ (((0 : Int) = 0) ∧ wq))) ∧ (true = true) ∧ (((35 : TypeId) = 35) ∧ (((d.1 : List Int) = d.1) ∧ (((d.2.1 : Int) = d.2.1) ∧ (((d.2.2.1 : List Int) = d.2.2.1) ∧ (((d.2.2.2.1) = (d.2.2.2.1)) ∧ True))))) ∧ (true = true) ∧ True) <| .ok (.inl ((z13, false, z14, ()))))
 (.need ((List.length i1.2.2.1 + 1) * 8 ≤ 140737488355328) <| .tt <| .lt (w64 (i1.1 + 1) : Int) fun z15 => .lt (List.take (List.length i1.2.2.1) i1.2.2.1 ++ [0] : List Int) fun z16 => .xD (xN z15 y1.1 y1.1 i.1 size (decide (i.1 < y.1)) y.1 size <| xQ i.1 i.1 <| wx ∧ wb ∧ wc ∧ xM size out0) <| .need ((((3 : TypeId) = 3) ∧ ((z16 : List Int) = z16)) ∧ (true = true) ∧ (((79 : TypeId) = 79) ∧ (((size) = (size)) ∧ (((out0) = (out0)) ∧ ((((17) = (17)) ∧ (((0) = (0)) ∧ ((List.length i1.2.2.1 + 1 = List.length z16) ∧ ((true) = (true))))) ∧ True)))) ∧ (true = true) ∧ (((79 : TypeId) = 79) ∧ (True ∧ (((0 : Int) = 0) ∧ wq))) ∧ (true = true) ∧ (((35 : TypeId) = 35) ∧ (((d.1 : List Int) = d.1) ∧ (((d.2.1 : Int) = d.2.1) ∧ (((d.2.2.1 : List Int) = d.2.2.1) ∧ (((d.2.2.2.1) = (d.2.2.2.1)) ∧ True))))) ∧ (true = true) ∧ True) <| .ok (.inl ((z15, false, z16, ()))))))
 (.tt <| .lt (w64 (i.1 + 1) : Int) fun z17 => .lt (i1.2.2.1 : List Int) fun z18 => .xD (xL z17 <| wx ∧ wb ∧ wc ∧ xM size out0) <| .xD (xC (xS 3 z18) <| xC (xI 79 size out0 <| (xU 7 0 (List.length z18) true) ∧ True) <| xC wj <| xC (xF 35 d.1 d.2.1 d.2.2.1 d.2.2.2.1) True) <| .ok (.inr (.inl ((z17, false, z18, ()))))))
def aqU (d : List Int × Int × List Int × Bool × Unit) (size : List Int) (out0 : Int) (i : Int × Bool × List Int × Unit) (y2 : Int × Unit) (y3 : List Int × Unit) (i2 : (Int) × (List Int) × Unit) : TT (((Int) × (List Int) × Unit) ⊕ wX) :=
 .ite (decide (i2.1 < out0))
 (.ite (decide (len d.2.2.1 > 0))
 (.need (len d.2.2.1 ≠ 0) <| .need (inb (Int.tmod (w64 (w64 (i.1 * out0) + i2.1)) (len d.2.2.1)) (len d.2.2.1)) <| .ite (d.2.2.2.1)
 (.need (len size ≠ 0) <| .need (inb (Int.tmod i2.1 (len size)) (len y3.1)) <| .need (inb (Int.tmod i2.1 (len size)) (len size)) <| .need (w64 (gi size (Int.tmod i2.1 (len size)) 0 - 1) ≠ 0) <| .triv (asT Int 5000 ≠ 0) zd <| .need ((List.length i2.2.1 + 1) * 8 ≤ 140737488355328) <| .tt <| .lt (w64 (i2.1 + 1) : Int) fun z20 => .lt (List.take (List.length i2.2.1) i2.2.1 ++ [w64 (w64 (Int.tdiv (w64 (60000 * gi y3.1 (Int.tmod i2.1 (len size)) 0)) (w64 (gi size (Int.tmod i2.1 (len size)) 0 - 1))) + Int.tmod (w64 (gi d.2.2.1 (Int.tmod (w64 (w64 (i.1 * out0) + i2.1)) (len d.2.2.1)) 0)) 5000)] : List Int) fun z21 => .xD (xN z20 y3.1 y3.1 i.1 size (decide (i.1 < y2.1)) y2.1 size <| xQ i.1 i.1 <| wx ∧ wb ∧ wc ∧ xM size out0) <| .need ((((3 : TypeId) = 3) ∧ ((z21 : List Int) = z21)) ∧ (true = true) ∧ (((79 : TypeId) = 79) ∧ (((size) = (size)) ∧ (((out0) = (out0)) ∧ ((((17) = (17)) ∧ (((0) = (0)) ∧ ((List.length i2.2.1 + 1 = List.length z21) ∧ ((true) = (true))))) ∧ True)))) ∧ (true = true) ∧ (((79 : TypeId) = 79) ∧ (True ∧ (((0 : Int) = 0) ∧ wq))) ∧ (true = true) ∧ (((35 : TypeId) = 35) ∧ (((d.1 : List Int) = d.1) ∧ (((d.2.1 : Int) = d.2.1) ∧ (((d.2.2.1 : List Int) = d.2.2.1) ∧ (((d.2.2.2.1) = (d.2.2.2.1)) ∧ True))))) ∧ (true = true) ∧ True) <| .ok (.inl ((z20, z21, ()))))
 (.need ((List.length i2.2.1 + 1) * 8 ≤ 140737488355328) <| .tt <| .lt (w64 (i2.1 + 1) : Int) fun z22 => .lt (List.take (List.length i2.2.1) i2.2.1 ++ [w64 (gi d.2.2.1 (Int.tmod (w64 (w64 (i.1 * out0) + i2.1)) (len d.2.2.1)) 0)] : List Int) fun z23 => .xD (xN z22 y3.1 y3.1 i.1 size (decide (i.1 < y2.1)) y2.1 size <| xQ i.1 i.1 <| wx ∧ wb ∧ wc ∧ xM size out0) <| .need ((((3 : TypeId) = 3) ∧ ((z23 : List Int) = z23)) ∧ (true = true) ∧ (((79 : TypeId) = 79) ∧ (((size) = (size)) ∧ (((out0) = (out0)) ∧ ((((17) = (17)) ∧ (((0) = (0)) ∧ ((List.length i2.2.1 + 1 = List.length z23) ∧ ((true) = (true))))) ∧ True)))) ∧ (true = true) ∧ (((79 : TypeId) = 79) ∧ (True ∧ (((0 : Int) = 0) ∧ wq))) ∧ (true = true) ∧ (((35 : TypeId) = 35) ∧ (((d.1 : List Int) = d.1) ∧ (((d.2.1 : Int) = d.2.1) ∧ (((d.2.2.1 : List Int) = d.2.2.1) ∧ (((d.2.2.2.1) = (d.2.2.2.1)) ∧ True))))) ∧ (true = true) ∧ True) <| .ok (.inl ((z22, z23, ())))))
 (.ite (d.2.2.2.1)
 (.need (len size ≠ 0) <| .need (inb (Int.tmod i2.1 (len size)) (len y3.1)) <| .need (inb (Int.tmod i2.1 (len size)) (len size)) <| .need (w64 (gi size (Int.tmod i2.1 (len size)) 0 - 1) ≠ 0) <| .triv (asT Int 5000 ≠ 0) zd <| .need ((List.length i2.2.1 + 1) * 8 ≤ 140737488355328) <| .tt <| .lt (w64 (i2.1 + 1) : Int) fun z24 => .lt (List.take (List.length i2.2.1) i2.2.1 ++ [w64 (w64 (Int.tdiv (w64 (60000 * gi y3.1 (Int.tmod i2.1 (len size)) 0)) (w64 (gi size (Int.tmod i2.1 (len size)) 0 - 1))) + Int.tmod 0 5000)] : List Int) fun z25 => .xD (xN z24 y3.1 y3.1 i.1 size (decide (i.1 < y2.1)) y2.1 size <| xQ i.1 i.1 <| wx ∧ wb ∧ wc ∧ xM size out0) <| .need ((((3 : TypeId) = 3) ∧ ((z25 : List Int) = z25)) ∧ (true = true) ∧ (((79 : TypeId) = 79) ∧ (((size) = (size)) ∧ (((out0) = (out0)) ∧ ((((17) = (17)) ∧ (((0) = (0)) ∧ ((List.length i2.2.1 + 1 = List.length z25) ∧ ((true) = (true))))) ∧ True)))) ∧ (true = true) ∧ (((79 : TypeId) = 79) ∧ (True ∧ (((0 : Int) = 0) ∧ wq))) ∧ (true = true) ∧ (((35 : TypeId) = 35) ∧ (((d.1 : List Int) = d.1) ∧ (((d.2.1 : Int) = d.2.1) ∧ (((d.2.2.1 : List Int) = d.2.2.1) ∧ (((d.2.2.2.1) = (d.2.2.2.1)) ∧ True))))) ∧ (true = true) ∧ True) <| .ok (.inl ((z24, z25, ()))))
 (.need ((List.length i2.2.1 + 1) * 8 ≤ 140737488355328) <| .tt <| .lt (w64 (i2.1 + 1) : Int) fun z26 => .lt (List.take (List.length i2.2.1) i2.2.1 ++ [0] : List Int) fun z27 => .xD (xN z26 y3.1 y3.1 i.1 size (decide (i.1 < y2.1)) y2.1 size <| xQ i.1 i.1 <| wx ∧ wb ∧ wc ∧ xM size out0) <| .need ((((3 : TypeId) = 3) ∧ ((z27 : List Int) = z27)) ∧ (true = true) ∧ (((79 : TypeId) = 79) ∧ (((size) = (size)) ∧ (((out0) = (out0)) ∧ ((((17) = (17)) ∧ (((0) = (0)) ∧ ((List.length i2.2.1 + 1 = List.length z27) ∧ ((true) = (true))))) ∧ True)))) ∧ (true = true) ∧ (((79 : TypeId) = 79) ∧ (True ∧ (((0 : Int) = 0) ∧ wq))) ∧ (true = true) ∧ (((35 : TypeId) = 35) ∧ (((d.1 : List Int) = d.1) ∧ (((d.2.1 : Int) = d.2.1) ∧ (((d.2.2.1 : List Int) = d.2.2.1) ∧ (((d.2.2.2.1) = (d.2.2.2.1)) ∧ True))))) ∧ (true = true) ∧ True) <| .ok (.inl ((z26, z27, ()))))))
 (.tt <| .lt (w64 (i.1 + 1) : Int) fun z28 => .lt (i2.2.1 : List Int) fun z29 => .xD (xL z28 <| wx ∧ wb ∧ wc ∧ xM size out0) <| .xD (xC (xS 3 z29) <| xC (xI 79 size out0 <| (xU 7 0 (List.length z29) true) ∧ True) <| xC wj <| xC (xF 35 d.1 d.2.1 d.2.2.1 d.2.2.2.1) True) <| .ok (.inr (.inl ((z28, false, z29, ())))))
def aqW (d : List Int × Int × List Int × Bool × Unit) (size : List Int) (out0 : Int) (i : (Int) × Bool × (List Int) × Unit) : TT wX :=
 .ite (i.2.1)
 (.call (ab5 (size, ())) Dz3 fun y =>
 .ite (decide (i.1 < y.1))
 (.call (aeY (size, i.1, ())) Dz5 fun y1 =>
 .loop 2 (.tt <| .xD (xN (0 : Int) y1.1 y1.1 i.1 size (decide (i.1 < y.1)) y.1 size <| xQ i.1 i.1 <| wx ∧ wb ∧ wc ∧ xM size out0) <| .xD (xC (xI 79 size out0 <| True ∧ True) <| xC wj <| xC (xF 35 d.1 d.2.1 d.2.2.1 d.2.2.2.1) True) <| .ok ((0, true, [], ()))) (aqV d size out0 i y y1))
 (.ok (.inr (((size, out0, [], ()), ())))))
 (.call (ab5 (size, ())) Dz3 fun y2 =>
 .ite (decide (i.1 < y2.1))
 (.call (aeY (size, i.1, ())) Dz5 fun y3 =>
 .loop 3 (.tt <| .lt (i.2.2.1 : List Int) fun z19 => .xD (xN (0 : Int) y3.1 y3.1 i.1 size (decide (i.1 < y2.1)) y2.1 size <| xQ i.1 i.1 <| wx ∧ wb ∧ wc ∧ xM size out0) <| .xD (xC (xS 3 z19) <| xC (xI 79 size out0 <| (xU 17 0 (List.length z19) true) ∧ True) <| xC wj <| xC (xF 35 d.1 d.2.1 d.2.2.1 d.2.2.2.1) True) <| .ok ((0, z19, ()))) (aqU d size out0 i y2 y3))
 (.ok (.inr (((size, out0, List.take (List.length i.2.2.1) i.2.2.1, ()), ())))))
def ahQ (d : List Int × Int × List Int × Bool × Unit) (size : List Int) (out0 : Int) : TT (wg × Unit) :=
 .loop 0 (.tt <| .xD (xL (0 : Int) <| wx ∧ wb ∧ wc ∧ xM size out0) <| .xD (xC (xI 79 size out0 <| True ∧ True) <| xC wj <| xC (xF 35 d.1 d.2.1 d.2.2.1 d.2.2.2.1) True) <| .ok ((0, true, [], ()))) (aqW d size out0)
end
def aMU (l : List Int) : Prop := (1 ≤ l.length ∧ l.length ≤ 4) ∧ ∀ n ∈ l, 2 ≤ n ∧ n ≤ 4
theorem aI6 {α : Type} (l : List α) (i k : Nat) (a d : α) (h : i < l.length) : (l.set i a).getD k d = if k = i then a else l.getD k d := by
 rw [zX, zX, List.getElem?_set]
 by_cases e : i = k
 ·subst e; rw [if_pos rfl, if_pos rfl]; simp [h]
 ·rw [if_neg e, if_neg (fun h => e h.symm)]
theorem aoW (size : List Int) (n : Int) (hs : aMU size) (hn : 0 ≤ n ∧ n ≤ 1000000000) : WP (af4 size n) fun y => y.1.length = size.length ∧ ∀ k, k < size.length → 0 ≤ y.1.getD k 0 ∧ y.1.getD k 0 < size.getD k 0 := by
 obtain ⟨⟨l1, l4⟩, hz⟩ := hs
 unfold af4
 refine aaF ⟨by rw [aaB]; omega, by omega, by rw [aaB]; omega⟩ ?_
 refine ac7 (fun i : Int × Int × List Int × Unit => ∃ k : Nat, i.1 = (k : Int) - 1 ∧ k ≤ size.length ∧ (0 ≤ i.2.1 ∧ i.2.1 ≤ 1000000000) ∧ i.2.2.1.length = size.length ∧ ∀ j, k ≤ j → j < size.length → 0 ≤ i.2.2.1.getD j 0 ∧ i.2.2.1.getD j 0 < size.getD j 0) (fun i => (i.1 + 1).toNat)
  (aaA (aaP (aaP (aaA (aaA (aaN ⟨size.length, ?_, zm _, hn, ?_, fun j h1 h2 => absurd h2 zc⟩)))))) ?_
 ·show w64 (len size - 1) = _
  rw [aaB, aaD ⟨by omega, by omega⟩]
 ·show (List.replicate (Int.toNat (len size)) (0 : Int)).length = _
  rw [aaB, zt, zN]
 intro i hi
 obtain ⟨i, n, l, v⟩ := i
 obtain ⟨k, e, hk, hn, hl, hj⟩ := hi
 dsimp only at e hn hl hj
 unfold aoX
 refine aaI (fun a => ?_) (fun a => ?_)
 ·have a' : i ≥ 0 := of_decide_eq_true a
  obtain ⟨m, rfl⟩ : ∃ m, k = m + 1 := ⟨k - 1, by omega⟩
  have ei : i = (m : Int) := zc
  subst ei
  have hm := hz _ (aa9 (show m < size.length by omega) 0)
  have eg : gi size (m : Int) 0 = size.getD m 0 := aaJ _ _ _
  have et := adK (a := n) (k := size.getD m 0) zc hn.1
  have ed : 0 ≤ Int.tdiv n (size.getD m 0) ∧ Int.tdiv n (size.getD m 0) ≤ 1000000000 := by
   rw [yB hn.1]
   exact ⟨Int.ediv_nonneg hn.1 zc, xx (Int.ediv_le_self _ hn.1) hn.2⟩
  dsimp only
  rw [eg]
  refine aaF ⟨by omega, by rw [aaB]; omega⟩ (aaF zc (aaF ⟨by omega, by rw [aaB, zt]; omega⟩ (aaF ⟨by omega, by rw [aaB]; omega⟩ (aaF zc (aaA (aaP (aaP (aaP (aaA (aaA (aaN ?_)))))))))))
  refine ⟨⟨m, aaD ⟨by omega, by omega⟩, by omega, ?_, ?_, fun j h1 h2 => ?_⟩, ?_⟩
  ·show 0 ≤ w64 _ ∧ w64 _ ≤ 1000000000
   rw [aaD ⟨by omega, by omega⟩]; exact ed
  ·show (List.set l (0 + Int.toNat (m : Int)) _).length = _
   rw [yr]; exact hl
  ·show 0 ≤ (List.set l (0 + Int.toNat (m : Int)) _).getD j 0 ∧ (List.set l (0 + Int.toNat (m : Int)) _).getD j 0 < _
   rw [zv, zt, aI6 _ _ _ _ _ zc]
   by_cases q : j = m
   ·rw [if_pos q, q]; exact et
   ·rw [if_neg q]; exact hj j zc h2
  ·show (w64 ((m : Int) - 1) + 1).toNat < ((m : Int) + 1).toNat
   rw [aaD ⟨by omega, by omega⟩]; omega
 ·have a' : ¬ i ≥ 0 := of_decide_eq_false a
  refine aaN ?_
  have e0 : List.take (Int.toNat (len size)) l = l := by rw [aaB, zt, ← hl, zB]
  show (List.take (Int.toNat (len size)) l).length = size.length ∧ ∀ k, k < size.length → 0 ≤ (List.take (Int.toNat (len size)) l).getD k 0 ∧ (List.take (Int.toNat (len size)) l).getD k 0 < size.getD k 0
  rw [e0]
  exact ⟨hl, fun j h => hj j zc h⟩
theorem aJx {l : List Int} (h : shL l) : ab5 (l, ()) = some (af5 l, ()) := if_pos h
theorem azL : ∀ {l : List Int} {p : Int} {k : Nat}, (∀ n ∈ l, 2 ≤ n ∧ n ≤ 4) → l.length ≤ k → 1 ≤ p → p * 4 ^ k ≤ 1000 → 1 ≤ l.foldl (fun p n => w64 (p * n)) p ∧ l.foldl (fun p n => w64 (p * n)) p ≤ 1000
 | [], p, k, _, _, h1, h2 => ⟨h1, by
  show p ≤ 1000
  have : (1 : Int) ≤ 4 ^ k := by exact_mod_cast Nat.one_le_pow k 4 zc
  have := zM this (show 0 ≤ p by omega)
  omega⟩
 | n :: l, p, 0, _, h, _, _ => by simp at h
 | n :: l, p, k + 1, hl, h, h1, h2 => by
  have hn := hl n zy
  have hp : p * n ≤ p * 4 := zM hn.2 zc
  have hp2 : p * 2 ≤ p * n := zM hn.1 zc
  have hk : (1 : Int) ≤ 4 ^ k := by exact_mod_cast Nat.one_le_pow k 4 zc
  rw [Int.pow_succ] at h2
  have h3 : p * 4 * 4 ^ k ≤ 1000 := by rw [Int.mul_assoc, Int.mul_comm 4]; exact h2
  have h4 := zM hk (show 0 ≤ p * 4 by omega)
  have e : w64 (p * n) = p * n := aaD ⟨by omega, by omega⟩
  show 1 ≤ l.foldl (fun p n => w64 (p * n)) (w64 (p * n)) ∧ l.foldl (fun p n => w64 (p * n)) (w64 (p * n)) ≤ 1000
  rw [e]
  refine azL (k := k) (fun m hm => hl m (zr _ hm)) (by simpa using h) zc ?_
  exact xx (xa hp zc) h3
theorem aFo {l : List Int} (h : aMU l) : 1 ≤ af5 l ∧ af5 l ≤ 1000 := azL (k := 4) h.2 h.1.2 zc zd
theorem aj8 {a b : Int} (h0 : 0 ≤ a) (h1 : a < b) (h2 : 2 ≤ b) (h4 : b ≤ 4) : w64 (b - 1) ≠ 0 ∧ 0 ≤ w64 (Int.tdiv (w64 (60000 * a)) (w64 (b - 1))) ∧ w64 (Int.tdiv (w64 (60000 * a)) (w64 (b - 1))) ≤ 60000 := by
 have e1 : w64 (b - 1) = b - 1 := aaD ⟨by omega, by omega⟩
 have e2 : w64 (60000 * a) = 60000 * a := aaD ⟨by omega, by omega⟩
 have e3 : Int.tdiv (60000 * a) (b - 1) = (60000 * a) / (b - 1) := yB zc
 have h5 : 0 ≤ (60000 * a) / (b - 1) := Int.ediv_nonneg zc zc
 have h6 : (60000 * a) / (b - 1) ≤ 60000 := Int.ediv_le_of_le_mul zc zc
 rw [e1, e2, e3, aaD ⟨by omega, by omega⟩]
 exact ⟨by omega, h5, h6⟩
def wfG (d : List Int × Int × List Int × Bool × Unit) : Prop := shM d.1 ∧ (0 ≤ d.2.1 ∧ d.2.1 ≤ 255) ∧ shM d.2.2.1 ∧ ∀ v ∈ d.2.2.1, 0 ≤ v ∧ v ≤ 65535
def valsI (n out k : Int) (l : List Int) : Prop := (l.length : Int) = n * out + k ∧ ∀ v ∈ l, 0 ≤ v ∧ v ≤ 65535
theorem valsI.app {n out k v : Int} {l : List Int} (h : valsI n out k l) (hv : 0 ≤ v ∧ v ≤ 65535) : valsI n out (k + 1) (l ++ [v]) :=
 ⟨by rw [zq]; have := h.1; simp; omega, fun w hw => by
  rcases zw.1 hw with h' | h'
  ·exact h.2 w h'
  ·rw [zG.1 h']; exact hv⟩
theorem aA2 (d : List Int × Int × List Int × Bool × Unit) (hd : wfG d) (size : List Int) (hs : aMU size) (out : Int) (ho : 1 ≤ out ∧ out ≤ 3) : WP (ahQ d size out) fun y => y.1.1 = size ∧ y.1.2.1 = out ∧ (y.1.2.2.1.length : Int) = af5 size * out ∧ ∀ v ∈ y.1.2.2.1, 0 ≤ v ∧ v ≤ 65535 := by
 obtain ⟨dz, dout, vals, sm, u⟩ := d
 obtain ⟨-, -, hv, hvr⟩ := hd
 dsimp only at hv hvr
 have hv' : vals.length ≤ 140737488355328 := hv
 obtain ⟨p1, p2⟩ := aFo hs
 have hlen := hs.1
 have LP : ab5 (size, ()) = some (af5 size, ()) := aJx (show size.length ≤ 1000000000000 by omega)
 generalize af5 size = pts at *
 unfold ahQ
 refine ac7 (fun i : Int × Bool × List Int × Unit => 0 ≤ i.1 ∧ i.1 ≤ pts ∧ valsI i.1 out 0 i.2.2.1 ∧ (i.2.1 = true → i.2.2.1 = [])) (fun i => (pts - i.1).toNat) (aaA (aaA (aaA (aaN ⟨by dsimp only; omega, by dsimp only; omega, ⟨by simp, by simp⟩, fun _ => rfl⟩)))) ?_
 intro i hi
 obtain ⟨n, f, l, v⟩ := i
 obtain ⟨hn0, hnp, hl, hf⟩ := hi
 dsimp only at hn0 hnp hl hf
 have hno : 0 ≤ n * out ∧ n * out ≤ 3000 := by
  have h1 : n * out ≤ n * 3 := zM ho.2 hn0
  have h2 : n * 1 ≤ n * out := zM ho.1 hn0
  omega
 have ewn : w64 (n + 1) = n + 1 := aaD ⟨by omega, by omega⟩
 have hnext : ∀ {k : Int} {l : List Int}, ¬ k < out → k ≤ out → valsI n out k l → valsI (n + 1) out 0 l := by
  intro k l h1 h2 h
  have : k = out := zc
  subst this
  exact ⟨by rw [h.1, Int.add_mul, Int.one_mul, Int.add_zero], h.2⟩
 unfold aqW
 cases f with
 | true =>
  have el := hf rfl
  subst el
  refine aaI (fun _ => ?_) (fun h => by cases h)
  refine aaM _ LP (aaI (fun a => ?_) (fun a => ?_))
  ·have a' : n < pts := of_decide_eq_true a
   obtain ⟨⟨ix, u'⟩, ex, hix, hx⟩ := aoW size n hs ⟨hn0, by omega⟩
   have ex : aeY (size, n, ()) = some (ix, ()) := ex
   dsimp only at hix hx
   have hj : ∀ k : Int, 0 ≤ k → inb (Int.tmod k (len size)) (len size) ∧ 0 ≤ gi ix (Int.tmod k (len size)) 0 ∧ gi ix (Int.tmod k (len size)) 0 < gi size (Int.tmod k (len size)) 0 ∧ 2 ≤ gi size (Int.tmod k (len size)) 0 ∧ gi size (Int.tmod k (len size)) 0 ≤ 4 := by
    intro k hk
    have ht := adK (a := k) (k := len size) (by rw [aaB]; omega) hk
    refine ⟨ht, ?_⟩
    rw [aaB] at ht ⊢
    obtain ⟨m, hm⟩ : ∃ m : Nat, Int.tmod k (size.length : Int) = m := ⟨(Int.tmod k (size.length : Int)).toNat, by omega⟩
    rw [hm] at ht ⊢
    rw [aaJ, aaJ]
    have := hx m zc
    have h2 := hs.2 _ (aa9 (show m < size.length by omega) 0)
    exact ⟨this.1, this.2, h2⟩
   have hval : ∀ k : Int, 0 ≤ k → k ≤ 3 → 0 < vals.length → inb (Int.tmod (w64 (w64 (n * out) + k)) (len vals)) (len vals) ∧ 0 ≤ gi vals (Int.tmod (w64 (w64 (n * out) + k)) (len vals)) 0 ∧ gi vals (Int.tmod (w64 (w64 (n * out) + k)) (len vals)) 0 ≤ 65535 := by
    intro k hk hk3 hpos
    have e : w64 (w64 (n * out) + k) = n * out + k := by rw [aaD (x := n * out) ⟨by omega, by omega⟩, aaD ⟨by omega, by omega⟩]
    rw [e]
    have ht := adK (a := n * out + k) (k := len vals) (by rw [aaB]; omega) zc
    refine ⟨ht, ?_⟩
    rw [aaB] at ht ⊢
    obtain ⟨m, hm⟩ : ∃ m : Nat, Int.tmod (n * out + k) (vals.length : Int) = m := ⟨(Int.tmod (n * out + k) (vals.length : Int)).toNat, by omega⟩
    rw [hm] at ht ⊢
    rw [aaJ]
    exact hvr _ (aa9 zc 0)
   have hix' : ∀ k : Int, 0 ≤ k → inb (Int.tmod k (len size)) (len ix) := by
    intro k hk
    have := (hj k hk).1
    unfold inb at this ⊢
    rw [aaB ix, hix]; rw [aaB] at this ⊢; exact this
   refine aaM _ ex (ac7 (fun i : Int × Bool × List Int × Unit => 0 ≤ i.1 ∧ i.1 ≤ out ∧ valsI n out i.1 i.2.2.1 ∧ (i.2.1 = true → i.2.2.1 = [])) (fun i => (out - i.1).toNat) (aaA (aaA (aaA (aaN ⟨by dsimp only; omega, by dsimp only; omega, hl, fun _ => rfl⟩)))) ?_)
   intro i hi
   obtain ⟨k, f, l, w⟩ := i
   obtain ⟨hk0, hko, hl, hf⟩ := hi
   dsimp only at hk0 hko hl hf
   have ewk : w64 (k + 1) = k + 1 := aaD ⟨by omega, by omega⟩
   unfold aqV
   cases f with
   | true =>
    have el := hf rfl
    subst el
    refine aaI (fun _ => ?_) (fun h => by cases h)
    refine aaI (fun b => ?_) (fun b => ?_)
    ·have b' : k < out := of_decide_eq_true b
     have fin : ∀ v : Int, 0 ≤ v ∧ v ≤ 65535 → (0 ≤ w64 (k + 1) ∧ w64 (k + 1) ≤ out ∧ valsI n out (w64 (k + 1)) [v] ∧ (false = true → [v] = [])) ∧ (out - w64 (k + 1)).toNat < (out - k).toNat := by
      intro v hv
      rw [ewk]
      exact ⟨⟨by omega, by omega, hl.app hv, fun h => by cases h⟩, by omega⟩
     refine aaI (fun c => ?_) (fun c => ?_)
     ·have c' : len vals > 0 := of_decide_eq_true c
      rw [aaB] at c'
      obtain ⟨v1, v2, v3⟩ := hval k hk0 zc zc
      obtain ⟨j1, j2, j3, j4, j5⟩ := hj k hk0
      obtain ⟨s1, s2, s3⟩ := aj8 j2 j3 j4 j5
      refine aaF (by rw [aaB]; dsimp only; omega) (aaF v1 (aaI (fun g => ?_) (fun g => ?_)))
      ·have t5 := adK (a := w64 (gi vals (Int.tmod (w64 (w64 (n * out) + k)) (len vals)) 0)) (k := 5000) zc (by rw [aaD ⟨by omega, by omega⟩]; omega)
       refine aaF (by rw [aaB]; omega) (aaF (hix' k hk0) (aaF j1 (aaF s1 (aaA (aaF zc (aaA (aaP (aaP (aaA (aaA (aaN (fin _ ⟨?_, ?_⟩))))))))))))
       ·dsimp only; rw [aaD ⟨by omega, by omega⟩]; omega
       ·dsimp only; rw [aaD ⟨by omega, by omega⟩]; omega
      ·refine aaF zc (aaA (aaP (aaP (aaA (aaA (aaN (fin _ ⟨?_, ?_⟩)))))))
       ·dsimp only; rw [aaD ⟨by omega, by omega⟩]; omega
       ·dsimp only; rw [aaD ⟨by omega, by omega⟩]; omega
     ·obtain ⟨j1, j2, j3, j4, j5⟩ := hj k hk0
      obtain ⟨s1, s2, s3⟩ := aj8 j2 j3 j4 j5
      have t5 : Int.tmod 0 5000 = 0 := rfl
      refine aaI (fun g => ?_) (fun g => ?_)
      ·refine aaF (by rw [aaB]; omega) (aaF (hix' k hk0) (aaF j1 (aaF s1 (aaA (aaF zc (aaA (aaP (aaP (aaA (aaA (aaN (fin _ ⟨?_, ?_⟩))))))))))))
       ·dsimp only; try rw [t5]
        rw [aaD ⟨by omega, by omega⟩]; omega
       ·dsimp only; try rw [t5]
        rw [aaD ⟨by omega, by omega⟩]; omega
      ·exact aaA (aaA (aaP (aaP (aaA (aaA (aaN (fin _ ⟨by omega, by omega⟩)))))))
    ·have b' : ¬ k < out := of_decide_eq_false b
     refine aaA (aaP (aaA (aaA (aaN ⟨⟨?_, ?_, ?_, fun _ => rfl⟩, ?_⟩))))
     ·show 0 ≤ w64 (n + 1); omega
     ·show w64 (n + 1) ≤ pts; omega
     ·show valsI (w64 (n + 1)) out 0 []; rw [ewn]; exact hnext b' hko hl
     ·show (pts - w64 (n + 1)).toNat < (pts - n).toNat; omega
   | false =>
    refine aaI (fun h => by cases h) (fun _ => ?_)
    have etk : List.take (List.length l) l = l := zB
    have hll : (l.length : Int) ≤ 4000 := by have := hl.1; omega
    refine aaI (fun b => ?_) (fun b => ?_)
    ·have b' : k < out := of_decide_eq_true b
     have fin : ∀ v : Int, 0 ≤ v ∧ v ≤ 65535 → (0 ≤ w64 (k + 1) ∧ w64 (k + 1) ≤ out ∧ valsI n out (w64 (k + 1)) (List.take (List.length l) l ++ [v]) ∧ (false = true → (List.take (List.length l) l ++ [v]) = [])) ∧ (out - w64 (k + 1)).toNat < (out - k).toNat := by
      intro v hv
      rw [ewk, etk]
      exact ⟨⟨by omega, by omega, hl.app hv, fun h => by cases h⟩, by omega⟩
     refine aaI (fun c => ?_) (fun c => ?_)
     ·have c' : len vals > 0 := of_decide_eq_true c
      rw [aaB] at c'
      obtain ⟨v1, v2, v3⟩ := hval k hk0 zc zc
      obtain ⟨j1, j2, j3, j4, j5⟩ := hj k hk0
      obtain ⟨s1, s2, s3⟩ := aj8 j2 j3 j4 j5
      refine aaF (by rw [aaB]; dsimp only; omega) (aaF v1 (aaI (fun g => ?_) (fun g => ?_)))
      ·have t5 := adK (a := w64 (gi vals (Int.tmod (w64 (w64 (n * out) + k)) (len vals)) 0)) (k := 5000) zc (by rw [aaD ⟨by omega, by omega⟩]; omega)
       refine aaF (by rw [aaB]; omega) (aaF (hix' k hk0) (aaF j1 (aaF s1 (aaA (aaF (by show (l.length + 1) * 8 ≤ 140737488355328; omega) (aaA (aaP (aaP (aaA (aaF ze (aaN (fin _ ⟨?_, ?_⟩))))))))))))
       ·dsimp only; rw [aaD ⟨by omega, by omega⟩]; omega
       ·dsimp only; rw [aaD ⟨by omega, by omega⟩]; omega
      ·refine aaF (by show (l.length + 1) * 8 ≤ 140737488355328; omega) (aaA (aaP (aaP (aaA (aaF ze (aaN (fin _ ⟨?_, ?_⟩)))))))
       ·dsimp only; rw [aaD ⟨by omega, by omega⟩]; omega
       ·dsimp only; rw [aaD ⟨by omega, by omega⟩]; omega
     ·obtain ⟨j1, j2, j3, j4, j5⟩ := hj k hk0
      obtain ⟨s1, s2, s3⟩ := aj8 j2 j3 j4 j5
      have t5 : Int.tmod 0 5000 = 0 := rfl
      refine aaI (fun g => ?_) (fun g => ?_)
      ·refine aaF (by rw [aaB]; omega) (aaF (hix' k hk0) (aaF j1 (aaF s1 (aaA (aaF (by show (l.length + 1) * 8 ≤ 140737488355328; omega) (aaA (aaP (aaP (aaA (aaF ze (aaN (fin _ ⟨?_, ?_⟩))))))))))))
       ·dsimp only; try rw [t5]
        rw [aaD ⟨by omega, by omega⟩]; omega
       ·dsimp only; try rw [t5]
        rw [aaD ⟨by omega, by omega⟩]; omega
      ·exact aaF (by show (l.length + 1) * 8 ≤ 140737488355328; omega) (aaA (aaP (aaP (aaA (aaF ze (aaN (fin _ ⟨by omega, by omega⟩)))))))
    ·have b' : ¬ k < out := of_decide_eq_false b
     refine aaA (aaP (aaP (aaA (aaA (aaN ⟨⟨?_, ?_, ?_, fun h => by cases h⟩, ?_⟩)))))
     ·show 0 ≤ w64 (n + 1); omega
     ·show w64 (n + 1) ≤ pts; omega
     ·show valsI (w64 (n + 1)) out 0 l; rw [ewn]; exact hnext b' hko hl
     ·show (pts - w64 (n + 1)).toNat < (pts - n).toNat; omega
  ·have a' : ¬ n < pts := of_decide_eq_false a
   have en : n = pts := zc
   subst en
   exact aaN ⟨rfl, rfl, by have := hl.1; show ((0 : Nat) : Int) = _; simpa using this, fun v hv => by cases hv⟩
 | false =>
  refine aaI (fun h => by cases h) (fun _ => ?_)
  refine aaM _ LP (aaI (fun a => ?_) (fun a => ?_))
  ·have a' : n < pts := of_decide_eq_true a
   obtain ⟨⟨ix, u'⟩, ex, hix, hx⟩ := aoW size n hs ⟨hn0, by omega⟩
   have ex : aeY (size, n, ()) = some (ix, ()) := ex
   dsimp only at hix hx
   have hj : ∀ k : Int, 0 ≤ k → inb (Int.tmod k (len size)) (len size) ∧ 0 ≤ gi ix (Int.tmod k (len size)) 0 ∧ gi ix (Int.tmod k (len size)) 0 < gi size (Int.tmod k (len size)) 0 ∧ 2 ≤ gi size (Int.tmod k (len size)) 0 ∧ gi size (Int.tmod k (len size)) 0 ≤ 4 := by
    intro k hk
    have ht := adK (a := k) (k := len size) (by rw [aaB]; omega) hk
    refine ⟨ht, ?_⟩
    rw [aaB] at ht ⊢
    obtain ⟨m, hm⟩ : ∃ m : Nat, Int.tmod k (size.length : Int) = m := ⟨(Int.tmod k (size.length : Int)).toNat, by omega⟩
    rw [hm] at ht ⊢
    rw [aaJ, aaJ]
    have := hx m zc
    have h2 := hs.2 _ (aa9 (show m < size.length by omega) 0)
    exact ⟨this.1, this.2, h2⟩
   have hval : ∀ k : Int, 0 ≤ k → k ≤ 3 → 0 < vals.length → inb (Int.tmod (w64 (w64 (n * out) + k)) (len vals)) (len vals) ∧ 0 ≤ gi vals (Int.tmod (w64 (w64 (n * out) + k)) (len vals)) 0 ∧ gi vals (Int.tmod (w64 (w64 (n * out) + k)) (len vals)) 0 ≤ 65535 := by
    intro k hk hk3 hpos
    have e : w64 (w64 (n * out) + k) = n * out + k := by rw [aaD (x := n * out) ⟨by omega, by omega⟩, aaD ⟨by omega, by omega⟩]
    rw [e]
    have ht := adK (a := n * out + k) (k := len vals) (by rw [aaB]; omega) zc
    refine ⟨ht, ?_⟩
    rw [aaB] at ht ⊢
    obtain ⟨m, hm⟩ : ∃ m : Nat, Int.tmod (n * out + k) (vals.length : Int) = m := ⟨(Int.tmod (n * out + k) (vals.length : Int)).toNat, by omega⟩
    rw [hm] at ht ⊢
    rw [aaJ]
    exact hvr _ (aa9 zc 0)
   have hix' : ∀ k : Int, 0 ≤ k → inb (Int.tmod k (len size)) (len ix) := by
    intro k hk
    have := (hj k hk).1
    unfold inb at this ⊢
    rw [aaB ix, hix]; rw [aaB] at this ⊢; exact this
   refine aaM _ ex (ac7 (fun i : Int × List Int × Unit => 0 ≤ i.1 ∧ i.1 ≤ out ∧ valsI n out i.1 i.2.1) (fun i => (out - i.1).toNat) (aaA (aaP (aaA (aaA (aaN ⟨by dsimp only; omega, by dsimp only; omega, hl⟩))))) ?_)
   intro i hi
   obtain ⟨k, l, w⟩ := i
   obtain ⟨hk0, hko, hl⟩ := hi
   dsimp only at hk0 hko hl
   have ewk : w64 (k + 1) = k + 1 := aaD ⟨by omega, by omega⟩
   unfold aqU
   have etk : List.take (List.length l) l = l := zB
   have hll : (l.length : Int) ≤ 4000 := by have := hl.1; omega
   refine aaI (fun b => ?_) (fun b => ?_)
   ·have b' : k < out := of_decide_eq_true b
    have fin : ∀ v : Int, 0 ≤ v ∧ v ≤ 65535 → (0 ≤ w64 (k + 1) ∧ w64 (k + 1) ≤ out ∧ valsI n out (w64 (k + 1)) (List.take (List.length l) l ++ [v])) ∧ (out - w64 (k + 1)).toNat < (out - k).toNat := by
     intro v hv
     rw [ewk, etk]
     exact ⟨⟨by omega, by omega, hl.app hv⟩, by omega⟩
    refine aaI (fun c => ?_) (fun c => ?_)
    ·have c' : len vals > 0 := of_decide_eq_true c
     rw [aaB] at c'
     obtain ⟨v1, v2, v3⟩ := hval k hk0 zc zc
     obtain ⟨j1, j2, j3, j4, j5⟩ := hj k hk0
     obtain ⟨s1, s2, s3⟩ := aj8 j2 j3 j4 j5
     refine aaF (by rw [aaB]; dsimp only; omega) (aaF v1 (aaI (fun g => ?_) (fun g => ?_)))
     ·have t5 := adK (a := w64 (gi vals (Int.tmod (w64 (w64 (n * out) + k)) (len vals)) 0)) (k := 5000) zc (by rw [aaD ⟨by omega, by omega⟩]; omega)
      refine aaF (by rw [aaB]; omega) (aaF (hix' k hk0) (aaF j1 (aaF s1 (aaA (aaF (by show (l.length + 1) * 8 ≤ 140737488355328; omega) (aaA (aaP (aaP (aaA (aaF ze (aaN (fin _ ⟨?_, ?_⟩))))))))))))
      ·dsimp only; rw [aaD ⟨by omega, by omega⟩]; omega
      ·dsimp only; rw [aaD ⟨by omega, by omega⟩]; omega
     ·refine aaF (by show (l.length + 1) * 8 ≤ 140737488355328; omega) (aaA (aaP (aaP (aaA (aaF ze (aaN (fin _ ⟨?_, ?_⟩)))))))
      ·dsimp only; rw [aaD ⟨by omega, by omega⟩]; omega
      ·dsimp only; rw [aaD ⟨by omega, by omega⟩]; omega
    ·obtain ⟨j1, j2, j3, j4, j5⟩ := hj k hk0
     obtain ⟨s1, s2, s3⟩ := aj8 j2 j3 j4 j5
     have t5 : Int.tmod 0 5000 = 0 := rfl
     refine aaI (fun g => ?_) (fun g => ?_)
     ·refine aaF (by rw [aaB]; omega) (aaF (hix' k hk0) (aaF j1 (aaF s1 (aaA (aaF (by show (l.length + 1) * 8 ≤ 140737488355328; omega) (aaA (aaP (aaP (aaA (aaF ze (aaN (fin _ ⟨?_, ?_⟩))))))))))))
      ·dsimp only; try rw [t5]
       rw [aaD ⟨by omega, by omega⟩]; omega
      ·dsimp only; try rw [t5]
       rw [aaD ⟨by omega, by omega⟩]; omega
     ·exact aaF (by show (l.length + 1) * 8 ≤ 140737488355328; omega) (aaA (aaP (aaP (aaA (aaF ze (aaN (fin _ ⟨by omega, by omega⟩)))))))
   ·have b' : ¬ k < out := of_decide_eq_false b
    refine aaA (aaP (aaP (aaA (aaA (aaN ⟨⟨?_, ?_, ?_, fun h => by cases h⟩, ?_⟩)))))
    ·show 0 ≤ w64 (n + 1); omega
    ·show w64 (n + 1) ≤ pts; omega
    ·show valsI (w64 (n + 1)) out 0 l; rw [ewn]; exact hnext b' hko hl
    ·show (pts - w64 (n + 1)).toNat < (pts - n).toNat; omega
  ·have a' : ¬ n < pts := of_decide_eq_false a
   have en : n = pts := zc
   subst en
   have etk : List.take (List.length l) l = l := zB
   refine aaN ?_
   show size = size ∧ out = out ∧ ((List.take (List.length l) l).length : Int) = n * out ∧ ∀ v ∈ List.take (List.length l) l, 0 ≤ v ∧ v ≤ 65535
   rw [etk]
   exact ⟨rfl, rfl, by have := hl.1; omega, hl.2⟩
noncomputable def adV (x : (List Int × Int × List Int × Bool × Unit) × List Int × Int × Unit) : Option (GrT × Unit) := (ahQ x.1 x.2.1 x.2.2.1).toO
set_option maxRecDepth 100000
open Go Go.Vg Go.Proofs
noncomputable section
def aDC : LTab := [(50, 58, 4099, ⟨0, (Int) × Bool × (List Int) × Unit, .dat (.s 8) xX <| .appN (.s 7) 4 3 xX <| .nil, [6, 3, 1, 2], [1, 0], 1⟩)]
def aqX (d : List Int × Int × List Int × Bool × Unit) (points : List Int) (out0 : Int) (i : (Int) × Bool × (List Int) × Unit) : TT wX :=
 .ite (i.2.1)
 (.ite (decide (i.1 < len points))
 (.ite (decide (i.1 < 4))
 (.need (inb i.1 (len points)) <| .triv (asT Int 3 ≠ 0) zd <| .need (1 * 8 ≤ 140737488355328) <| .tt <| .lt (w64 (i.1 + 1) : Int) fun z => .lt ([w64 (2 + w64 (Int.tmod (gi points i.1 0) 3))] : List Int) fun z1 => .xD ((xU 4 0 1 true) ∧ (xL z <| wb ∧ wc ∧ xM points out0)) <| .xD (xC (xS 3 z1) <| xC wj <| xC (xF 35 d.1 d.2.1 d.2.2.1 d.2.2.2.1) True) <| .ok (.inl ((z, false, z1, ()))))
 (.call (adV ((d.1, d.2.1, d.2.2.1, d.2.2.2.1, ()), [], out0, ())) Dz6 fun y =>
 .ok (.inr (((y.1.1, y.1.2.1, y.1.2.2.1, ()), ())))))
 (.call (adV ((d.1, d.2.1, d.2.2.1, d.2.2.2.1, ()), [], out0, ())) Dz6 fun y1 =>
 .ok (.inr (((y1.1.1, y1.1.2.1, y1.1.2.2.1, ()), ())))))
 (.ite (decide (i.1 < len points))
 (.ite (decide (i.1 < 4))
 (.need (inb i.1 (len points)) <| .triv (asT Int 3 ≠ 0) zd <| .need ((List.length i.2.2.1 + 1) * 8 ≤ 140737488355328) <| .tt <| .lt (w64 (i.1 + 1) : Int) fun z2 => .lt (List.take (List.length i.2.2.1) i.2.2.1 ++ [w64 (2 + w64 (Int.tmod (gi points i.1 0) 3))] : List Int) fun z3 => .need ((((4) = (4)) ∧ (((0) = (0)) ∧ ((List.length i.2.2.1 + 1 = List.length z3) ∧ ((true) = (true))))) ∧ ((z2 : Int) = z2) ∧ (((1) = (1)) ∧ (((0) = (0)) ∧ ((true) = (true)))) ∧ (((0) = (0)) ∧ (((0) = (0)) ∧ ((true) = (true)))) ∧ ((points) = (points)) ∧ ((out0) = (out0)) ∧ True) <| .xD (xC (xS 3 z3) <| xC wj <| xC (xF 35 d.1 d.2.1 d.2.2.1 d.2.2.2.1) True) <| .ok (.inl ((z2, false, z3, ()))))
 (.call (adV ((d.1, d.2.1, d.2.2.1, d.2.2.2.1, ()), List.take (List.length i.2.2.1) i.2.2.1, out0, ())) Dz6 fun y2 =>
 .ok (.inr (((y2.1.1, y2.1.2.1, y2.1.2.2.1, ()), ())))))
 (.call (adV ((d.1, d.2.1, d.2.2.1, d.2.2.2.1, ()), List.take (List.length i.2.2.1) i.2.2.1, out0, ())) Dz6 fun y3 =>
 .ok (.inr (((y3.1.1, y3.1.2.1, y3.1.2.2.1, ()), ())))))
def ahR (d : List Int × Int × List Int × Bool × Unit) (points : List Int) (out0 : Int) : TT (wg × Unit) :=
 .loop 0 (.tt <| .xD (True ∧ (xL (0 : Int) <| wb ∧ wc ∧ xM points out0)) <| .xD (xC wj <| xC (xF 35 d.1 d.2.1 d.2.2.1 d.2.2.2.1) True) <| .ok ((0, true, [], ()))) (aqX d points out0)
end
theorem aA4 (d : List Int × Int × List Int × Bool × Unit) (hd : wfG d) (pts : List Int) (hp : (1 ≤ pts.length ∧ pts.length ≤ 4) ∧ ∀ n ∈ pts, 0 ≤ n ∧ n ≤ 255) (out : Int) (ho : 1 ≤ out ∧ out ≤ 3) : WP (ahR d pts out) fun y => af2 y.1 ∧ y.1.1.length = pts.length ∧ y.1.2.1 = out := by
 obtain ⟨⟨p1, p4⟩, hp⟩ := hp
 unfold ahR
 refine ac7 (fun i : Int × Bool × List Int × Unit => ∃ k : Nat, i.1 = (k : Int) ∧ k ≤ pts.length ∧ i.2.2.1.length = k ∧ (∀ n ∈ i.2.2.1, 2 ≤ n ∧ n ≤ 4) ∧ (i.2.1 = true → k = 0)) (fun i => (4 - i.1).toNat) (aaA (aaA (aaA (aaN ⟨0, rfl, zA _, rfl, by simp, fun _ => rfl⟩)))) ?_
 intro i hi
 obtain ⟨i, f, l, u⟩ := i
 obtain ⟨k, e, hk, hl, hz, hf⟩ := hi
 dsimp only at e hl hz hf
 subst e
 have ewk : w64 ((k : Int) + 1) = ((k + 1 : Nat) : Int) := (aaD ⟨by omega, by omega⟩).trans zc
 have hv : k < pts.length → 2 ≤ w64 (2 + w64 (Int.tmod (gi pts (k : Int) 0) 3)) ∧ w64 (2 + w64 (Int.tmod (gi pts (k : Int) 0) 3)) ≤ 4 := by
  intro h
  have h0 := hp _ (aa9 h 0)
  have ht := adK (a := pts.getD k 0) (k := 3) zc h0.1
  rw [aaJ, aaD (x := Int.tmod _ _) ⟨by omega, by omega⟩, aaD ⟨by omega, by omega⟩]
  omega
 unfold aqX
 cases f with
 | true =>
  have k0 := hf rfl
  subst k0
  refine aaI (fun _ => ?_) (fun h => by cases h)
  refine aaI (fun a => ?_) (fun a => absurd (of_decide_eq_false a) (by rw [aaB]; dsimp only; omega))
  refine aaI (fun b => ?_) (fun b => absurd (of_decide_eq_false b) zg)
  have hv := hv zc
  refine aaF ⟨by dsimp only; omega, by rw [aaB]; dsimp only; omega⟩ (aaA (aaF zc (aaA (aaP (aaP (aaA (aaA (aaN ⟨⟨1, ewk, by omega, rfl, ?_, fun h => by cases h⟩, ?_⟩))))))))
  ·intro n hn
   rw [zG.1 hn]; exact hv
  ·show (4 - w64 (((0 : Nat) : Int) + 1)).toNat < (4 - ((0 : Nat) : Int)).toNat
   rw [ewk]; omega
 | false =>
  refine aaI (fun h => by cases h) (fun _ => ?_)
  have etk : List.take (List.length l) l = l := zB
  have hfin : k = pts.length → WP (.call (adV ((d.1, d.2.1, d.2.2.1, d.2.2.2.1, ()), List.take (List.length l) l, out, ())) Dz6 fun y3 => (.ok (.inr ((y3.1.1, y3.1.2.1, y3.1.2.2.1, ()), ())) : TT (wu ⊕ (GrT × Unit)))) fun s => match s with
    | .inl j => (∃ k : Nat, j.1 = (k : Int) ∧ k ≤ pts.length ∧ j.2.2.1.length = k ∧ (∀ n ∈ j.2.2.1, 2 ≤ n ∧ n ≤ 4) ∧ (j.2.1 = true → k = 0)) ∧ (4 - j.1).toNat < (4 - (k : Int)).toNat
    | .inr y => af2 y.1 ∧ y.1.1.length = pts.length ∧ y.1.2.1 = out := by
   intro hk
   rw [etk]
   have hs : aMU l := ⟨by omega, hz⟩
   obtain ⟨⟨g, v⟩, eg, g1, g2, g3, g4⟩ := aA2 d hd l hs out ho
   have eg : adV ((d.1, d.2.1, d.2.2.1, d.2.2.2.1, ()), l, out, ()) = some (g, v) := eg
   dsimp only at g1 g2 g3 g4
   refine aaM _ eg (aaN ?_)
   obtain ⟨gz, go, gd, w⟩ := g
   dsimp only at g1 g2 g3 g4
   subst g1; subst g2
   have hpr := aFo hs
   have h3 : af5 gz * go ≤ af5 gz * 3 := zM ho.2 zc
   have h1 : af5 gz * 1 ≤ af5 gz * go := zM ho.1 zc
   refine ⟨⟨⟨by dsimp only; omega, by dsimp only; omega⟩, ⟨by dsimp only; omega, by dsimp only; omega⟩, fun n hn => ⟨by have := hz n hn; omega, by have := hz n hn; omega⟩, by dsimp only; omega, ?_, fun v hv => g4 v hv⟩, by dsimp only; omega, rfl⟩
   show (gd.length : Int) = w64 (af5 gz * go)
   rw [aaD ⟨by omega, by omega⟩]; exact g3
  refine aaI (fun a => ?_) (fun a => ?_)
  ·have a' : (k : Int) < len pts := of_decide_eq_true a
   rw [aaB] at a'
   refine aaI (fun b => ?_) (fun b => absurd (of_decide_eq_false b) zg)
   have hv := hv zc
   refine aaF ⟨by dsimp only; omega, by rw [aaB]; dsimp only; omega⟩ (aaA (aaF (by show (l.length + 1) * 8 ≤ 140737488355328; omega) (aaA (aaP (aaP (aaF ze (aaA (aaN ⟨⟨k + 1, ewk, by omega, ?_, ?_, fun h => by cases h⟩, ?_⟩))))))))
   ·show (List.take l.length l ++ [_]).length = k + 1
    rw [etk, zq]; simp; omega
   ·intro n hn
    rcases zw.1 hn with h | h
    ·rw [etk] at h; exact hz n h
    ·rw [zG.1 h]; exact hv
   ·show (4 - w64 ((k : Int) + 1)).toNat < (4 - (k : Int)).toNat
    rw [ewk]; omega
  ·have a' : ¬ (k : Int) < len pts := of_decide_eq_false a
   rw [aaB] at a'
   exact aKJ (hfin zc) fun s hs => by cases s <;> exact hs
noncomputable def aaG (x : (List Int × Int × List Int × Bool × Unit) × List Int × Int × Unit) : Option (GrT × Unit) := (ahR x.1 x.2.1 x.2.2.1).toO
end Go.Vs
