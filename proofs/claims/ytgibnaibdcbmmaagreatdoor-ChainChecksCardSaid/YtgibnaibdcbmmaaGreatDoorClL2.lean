/-
  Trees of what the functions compute, and their laws. Own work; no condition.
-/
import Derived.Test.YtgibnaibdcbmmaaGreatDoorClL1
import Derived.Test.YtgibnaibdcbmmaaGreatDoorProg
set_option linter.unusedVariables false
set_option linter.unusedSimpArgs false
namespace Go.Vs
open Go Go.Vg
theorem aa9 {β : Type} {R : Int × Unit → Option ((Int × Unit) ⊕ β)} {bad good : β} {n : Nat} (p : Nat → Bool)
  (hs : ∀ k : Nat, k < n → p k = true → R ((k : Int), ()) = some (.inl (((k + 1 : Nat) : Int), ())))
  (hb : ∀ k : Nat, k < n → p k = false → R ((k : Int), ()) = some (.inr bad))
  (he : R ((n : Int), ()) = some (.inr good)) : adW R (0, ()) = some (if (List.range n).all p then good else bad) := by
 refine abA (fun i : Int × Unit => ∃ k : Nat, k ≤ n ∧ i = ((k : Int), ()) ∧ ∀ j, j < k → p j = true) (fun i => ((n : Int) - i.1).toNat) (fun _ => if (List.range n).all p then good else bad) ?_ _ ⟨0, zA _, rfl, fun j h => absurd h (Nat.not_lt_zero _)⟩
 rintro i ⟨k, h1, rfl, h2⟩
 rcases zH k n with h | h
 ·cases hp : p k with
  | true =>
   left
   refine ⟨(((k + 1 : Nat) : Int), ()), hs k h hp, ⟨k + 1, h, rfl, fun j hj => ?_⟩, by dsimp only; omega, rfl⟩
   rcases Nat.lt_succ_iff_lt_or_eq.1 hj with h3 | h3
   ·exact h2 j h3
   ·subst h3; exact hp
  | false =>
   right
   rw [hb k h hp]
   have : ¬ ((List.range n).all p = true) := fun hall => by
    have := yo.1 hall k (xo.2 h)
    rw [hp] at this; cases this
   rw [if_neg this]
 ·right
  have hk : k = n := zc
  subst hk
  rw [he, if_pos (yo.2 fun j hj => h2 j (xo.1 hj))]
theorem aJ9 {α : Type} (l : List α) (d : α) (q : α → Bool) : (List.range l.length).all (fun k => q (l.getD k d)) = l.all q := by
 rw [xz, yo, yo]
 constructor
 ·intro h x hx
  obtain ⟨k, hk, rfl⟩ := List.getElem_of_mem hx
  have := h k (xo.2 hk)
  simpa [hk] using this
 ·intro h k hk
  have hk := xo.1 hk
  have : l.getD k d = l[k] := by simp [hk]
  show q (l.getD k d) = true
  rw [this]; exact h _ (yi hk)
theorem aiR {α : Type} {s t : List α} (d : α) (h : s.length = t.length) : (List.range s.length).all (fun k => eqb (s.getD k d) (t.getD k d)) = eqb s t := by
 rw [xz, yo]
 constructor
 ·intro hall
  refine ab2 (List.ext_getElem h fun k h1 h2 => ?_)
  have := hall k (xo.2 h1)
  unfold eqb at this
  split at this
  ·rename_i e; simpa [h1, h2] using e
  ·cases this
 ·intro he k hk
  unfold eqb at he
  split at he
  ·rename_i e; subst e; exact ab2 rfl
  ·cases he
theorem pairE {a b : Int × Int × Unit} : (match a.1 == b.1 with
 | true =>
  match a.2.1 == b.2.1 with
  | true => true
  | false => false
 | false => false) = eqb a b := by
 obtain ⟨a1, a2, a3⟩ := a
 obtain ⟨b1, b2, b3⟩ := b
 dsimp only
 by_cases c1 : a1 = b1
 case neg => rw [beq_eq_false_iff_ne.2 c1, aaJ (fun h => c1 (Prod.mk.inj h).1)]
 by_cases c2 : a2 = b2
 case neg => rw [zr.2 c1, beq_eq_false_iff_ne.2 c2, aaJ (fun h => c2 (Prod.mk.inj (Prod.mk.inj h).2).1)]
 ·subst c1 c2; rw [ab2 rfl, zr.2 rfl, zr.2 rfl]
theorem amU {k n : Nat} (h : k < n) (hn : n ≤ 1000000000000) : w64 ((k : Int) + 1) = ((k + 1 : Nat) : Int) := by rw [aaD zc]; rfl
theorem aFB (s t : List OpT) (y) (h : amR (s, t, ()) = some y) : (aA4 s t).toO = some y := by
 unfold amR at h
 split at h
 case isFalse => cases h
 case isTrue hl =>
 have hl : s.length ≤ 1000000000000 := hl
 injection h with h
 subst h
 dsimp only
 unfold aA4
 by_cases h1 : s.length = t.length
 case neg =>
  rw [aaJ (fun h => h1 (by rw [h]))]
  exact uT sd rfl
 refine uF sd (uO (0, ()) rfl ?_)
 refine (aa9 (n := s.length) (bad := (false, ())) (good := (true, ())) (fun k => eqb (s.getD k (0, 0, ())) (t.getD k (0, 0, ()))) (fun k hk hp => ?_) (fun k hk hp => ?_) ?_).trans (by rw [aiR _ h1]; cases eqb s t <;> rfl)
 ·simp only [awC, aaI]
  refine uT sd (uN sd (uN sd (uF (congrArg (fun b : Bool => !b) (pairE.trans hp)) (uV (uB (uV (uV ?_)))))))
  rw [amU hk hl]; rfl
 ·simp only [awC, aaI]
  exact uT sd (uN sd (uN sd (uT (congrArg (fun b : Bool => !b) (pairE.trans hp)) rfl)))
 ·exact uF sd rfl
theorem ay2 (s t : List OpT) (y) (h : ah5 (s, t, ()) = some y) : (an3 s t).toO = some y := by
 unfold ah5 amR at h
 split at h
 case isFalse => cases h
 case isTrue hl =>
 have hl : s.length ≤ 1000000000000 := hl
 injection h with h
 subst h
 dsimp only
 unfold an3
 by_cases h1 : s.length = t.length
 case neg =>
  rw [aaJ (fun h => h1 (by rw [h]))]
  exact uT sd rfl
 refine uF sd (uO (0, ()) rfl ?_)
 refine (aa9 (n := s.length) (bad := (false, ())) (good := (true, ())) (fun k => eqb (s.getD k (0, 0, ())) (t.getD k (0, 0, ()))) (fun k hk hp => ?_) (fun k hk hp => ?_) ?_).trans (by rw [aiR _ h1]; cases eqb s t <;> rfl)
 ·simp only [al2, aaI]
  refine uT sd (uN sd (uN sd (uF (congrArg (fun b : Bool => !b) (pairE.trans hp)) (uV (uB (uV (uV ?_)))))))
  rw [amU hk hl]; rfl
 ·simp only [al2, aaI]
  exact uT sd (uN sd (uN sd (uT (congrArg (fun b : Bool => !b) (pairE.trans hp)) rfl)))
 ·exact uF sd rfl
theorem azA (s t : List Int) (y) (h : adV (s, t, ()) = some y) : (an5 s t).toO = some y := by
 unfold adV at h
 split at h
 case isFalse => cases h
 case isTrue hl =>
 have hl : s.length ≤ 1000000000000 := hl
 injection h with h
 subst h
 dsimp only
 unfold an5
 by_cases h1 : s.length = t.length
 case neg =>
  rw [aaJ (fun h => h1 (by rw [h]))]
  exact uT sd rfl
 refine uF sd (uO (0, ()) rfl ?_)
 refine (aa9 (n := s.length) (bad := (false, ())) (good := (true, ())) (fun k => eqb (s.getD k 0) (t.getD k 0)) (fun k hk hp => ?_) (fun k hk hp => ?_) ?_).trans (by rw [aiR _ h1]; cases eqb s t <;> rfl)
 ·simp only [al5, aaI]
  have e : s.getD k 0 = t.getD k 0 := by unfold eqb at hp; split at hp; assumption; cases hp
  refine uT sd (uN sd (uN sd (uF (by rw [e]; exact bne_self_eq_false (t.getD k 0)) (uV (uB (uV (uV ?_)))))))
  rw [amU hk hl]; rfl
 ·simp only [al5, aaI]
  have e : s.getD k 0 ≠ t.getD k 0 := fun e => by rw [ab2 e] at hp; cases hp
  exact uT sd (uN sd (uN sd (uT (yf.2 e) rfl)))
 ·exact uF sd rfl
theorem az6 (n a b : Int) (y) (h : aeW (n, a, b, ()) = some y) : (aoE n a b).toO = some y := by
 injection h with h
 subst h
 unfold aoE
 by_cases h1 : a ≤ n
 ·refine uT (zl (by first | exact h1 | exact h1)) ?_
  show some (decide (n ≤ b), ()) = some (decide (a ≤ n ∧ n ≤ b), ())
  simp [h1]
 ·refine uF (zk (by first | exact h1 | exact h1)) ?_
  show some (false, ()) = some (decide (a ≤ n ∧ n ≤ b), ())
  simp [h1]
theorem at6 (n a b : Int) (y) (h : adT (n, a, b, ()) = some y) : (ajV n a b).toO = some y := by
 injection h with h
 subst h
 unfold ajV
 by_cases h1 : a ≤ n
 ·refine uT (zl (by first | exact h1 | exact h1)) ?_
  show some (decide (n ≤ b), ()) = some (decide (a ≤ n ∧ n ≤ b), ())
  simp [h1]
 ·refine uF (zk (by first | exact h1 | exact h1)) ?_
  show some (false, ()) = some (decide (a ≤ n ∧ n ≤ b), ())
  simp [h1]
theorem axB (l : List Int) (y) (h : adI (l, ()) = some y) : (amJ l).toO = some y := by
 unfold adI at h
 split at h
 case isFalse => cases h
 case isTrue hl =>
 have hl : l.length ≤ 1000000000000 := hl
 injection h with h
 subst h
 dsimp only
 unfold amJ
 refine uO (0, 1, ()) rfl ?_
 refine abA (fun i : Int × Int × Unit => ∃ k : Nat, k ≤ l.length ∧ i = ((k : Int), (l.take k).foldl (fun p n => w64 (p * n)) 1, ())) (fun i => ((l.length : Int) - i.1).toNat) (fun _ => (af1 l, ())) ?_ _ ⟨0, by omega, rfl⟩
 rintro i ⟨k, h2, rfl⟩
 simp only [apO, aaI]
 rcases zH k l.length with hk | hk
 ·left
  refine ⟨(((k + 1 : Nat) : Int), (l.take (k + 1)).foldl (fun p n => w64 (p * n)) 1, ()), ?_, ⟨k + 1, by omega, rfl⟩, by dsimp only; omega, ze⟩
  refine uT sd (uN sd (uV (uB (uB (uV (uV ?_))))))
  rw [amU hk hl, zR hk, List.foldl_append]
  have e : l.getD k 0 = l[k] := by simp [hk]
  rw [e]; rfl
 ·right
  refine uF sd ?_
  rw [zq hk]; rfl
theorem at7 (l : List Int) (y) (h : ab7 (l, ()) = some y) : (ajX l).toO = some y := by
 unfold ab7 adI at h
 split at h
 case isFalse => cases h
 case isTrue hl =>
 have hl : l.length ≤ 1000000000000 := hl
 injection h with h
 subst h
 dsimp only
 unfold ajX
 refine uO (0, 1, ()) rfl ?_
 refine abA (fun i : Int × Int × Unit => ∃ k : Nat, k ≤ l.length ∧ i = ((k : Int), (l.take k).foldl (fun p n => w64 (p * n)) 1, ())) (fun i => ((l.length : Int) - i.1).toNat) (fun _ => (af1 l, ())) ?_ _ ⟨0, by omega, rfl⟩
 rintro i ⟨k, h2, rfl⟩
 simp only [amZ, aaI]
 rcases zH k l.length with hk | hk
 ·left
  refine ⟨(((k + 1 : Nat) : Int), (l.take (k + 1)).foldl (fun p n => w64 (p * n)) 1, ()), ?_, ⟨k + 1, by omega, rfl⟩, by dsimp only; omega, ze⟩
  refine uT sd (uN sd (uV (uB (uB (uV (uV ?_))))))
  rw [amU hk hl, zR hk, List.foldl_append]
  have e : l.getD k 0 = l[k] := by simp [hk]
  rw [e]; rfl
 ·right
  refine uF sd ?_
  rw [zq hk]; rfl
theorem atH {s t : List Int} (h : shL s) : ahJ (s, t, ()) = some (eqb s t, ()) := if_pos h
theorem ah9 {s t : List Int} (h : shL s) : adV (s, t, ()) = some (eqb s t, ()) := if_pos h
theorem eqb_iff {α : Type} {a b : α} : eqb a b = true ↔ a = b := by
 refine ⟨fun h => ?_, ab2⟩
 unfold eqb at h
 split at h
 ·assumption
 ·cases h
theorem asD {α : Type} {a b : α} {c : Bool} (h : c = true ↔ a = b) : eqb a b = c := by rw [xz, eqb_iff]; exact h.symm
theorem aEH (a b : GrT) (y) (h : ai2 (a, b, ()) = some y) : (axC a b).toO = some y := by
 unfold ai2 at h
 split at h
 case isFalse => cases h
 case isTrue hl =>
 obtain ⟨h1, h2⟩ := hl
 injection h with h
 subst h
 obtain ⟨a1, a2, a3, a4⟩ := a
 obtain ⟨b1, b2, b3, b4⟩ := b
 dsimp only at h1 h2 ⊢
 unfold axC
 dsimp only
 by_cases c2 : a2 = b2
 case neg => exact uF (beq_eq_false_iff_ne.2 c2) (by rw [aaJ (fun h => c2 (Prod.mk.inj (Prod.mk.inj h).2).1)]; rfl)
 refine uT (zr.2 c2) (uC _ (atH h1) ?_)
 by_cases c1 : a1 = b1
 case neg => exact uF (aaJ c1) (by rw [aaJ (fun h => c1 (Prod.mk.inj h).1)]; rfl)
 refine uT (ab2 c1) (uC _ (atH h2) ?_)
 have e : eqb (a1, a2, a3, a4) (b1, b2, b3, b4) = eqb a3 b3 := asD (by rw [eqb_iff]; subst c1 c2; simp)
 rw [e]; rfl
theorem ay7 (a b : GrT) (y) (h : ah6 (a, b, ()) = some y) : (an4 a b).toO = some y := by
 unfold ah6 ai2 at h
 split at h
 case isFalse => cases h
 case isTrue hl =>
 obtain ⟨h1, h2⟩ := hl
 injection h with h
 subst h
 obtain ⟨a1, a2, a3, a4⟩ := a
 obtain ⟨b1, b2, b3, b4⟩ := b
 dsimp only at h1 h2 ⊢
 unfold an4
 dsimp only
 refine uC _ (ah9 h1) ?_
 by_cases c1 : a1 = b1
 case neg => exact uF (aaJ c1) (by rw [aaJ (fun h => c1 (Prod.mk.inj h).1)]; rfl)
 refine uT (ab2 c1) ?_
 by_cases c2 : a2 = b2
 case neg => exact uF (beq_eq_false_iff_ne.2 c2) (by rw [aaJ (fun h => c2 (Prod.mk.inj (Prod.mk.inj h).2).1)]; rfl)
 refine uT (zr.2 c2) (uC _ (ah9 h2) ?_)
 have e : eqb (a1, a2, a3, a4) (b1, b2, b3, b4) = eqb a3 b3 := asD (by rw [eqb_iff]; subst c1 c2; simp)
 rw [e]; rfl
theorem aqN (c : Int) : -1 ≤ aaM c ∧ aaM c ≤ 3 := by unfold aaM; repeat' split <;> omega
theorem aqP (c : Int) : c = 1 ∨ c = 2 ∨ c = 3 ∨ c = 4 ∨ c = 5 ∨ c = 6 ∨ c = 7 ∨ c = 8 ∨ c = 9 ∨ c = 10 ∨ c = 11 ∨ c = 12 ∨ ((c ≠ 1 ∧ c ≠ 2 ∧ c ≠ 3 ∧ c ≠ 4 ∧ c ≠ 5 ∧ c ≠ 6) ∧ (c ≠ 7 ∧ c ≠ 8 ∧ c ≠ 9 ∧ c ≠ 10 ∧ c ≠ 11 ∧ c ≠ 12)) := zc
theorem aqO {c : Int} (h : ((c ≠ 1 ∧ c ≠ 2 ∧ c ≠ 3 ∧ c ≠ 4 ∧ c ≠ 5 ∧ c ≠ 6) ∧ (c ≠ 7 ∧ c ≠ 8 ∧ c ≠ 9 ∧ c ≠ 10 ∧ c ≠ 11 ∧ c ≠ 12))) : aaM c = -1 := by
 unfold aaM
 rw [if_neg zc, if_neg zc, if_neg (by unfold inR; omega), if_neg zc]
theorem azC (c : Int) (y) (h : ah7 (c, ()) = some y) : (an6 c).toO = some y := by
 rcases aqP c with rfl | rfl | rfl | rfl | rfl | rfl | rfl | rfl | rfl | rfl | rfl | rfl | hc
 all_goals first
  | exact h
  | skip
 unfold ah7 at h
 dsimp only at h
 rw [aqO hc] at h
 obtain ⟨⟨h1, h2, h3, h4, h5, h6⟩, h7, h8, h9, h10, h11, h12⟩ := hc
 unfold an6 abJ
 simp only [beq_eq_false_iff_ne.2 h1, beq_eq_false_iff_ne.2 h2, beq_eq_false_iff_ne.2 h3, beq_eq_false_iff_ne.2 h4, beq_eq_false_iff_ne.2 h5, beq_eq_false_iff_ne.2 h6, beq_eq_false_iff_ne.2 h7, beq_eq_false_iff_ne.2 h8, beq_eq_false_iff_ne.2 h9, beq_eq_false_iff_ne.2 h10, beq_eq_false_iff_ne.2 h11, beq_eq_false_iff_ne.2 h12]
 exact h
theorem awS (c : Int) (y) (h : ab1 (c, ()) = some y) : (al0 c).toO = some y := by
 rcases aqP c with rfl | rfl | rfl | rfl | rfl | rfl | rfl | rfl | rfl | rfl | rfl | rfl | hc
 all_goals first
  | exact h
  | skip
 unfold ab1 at h
 dsimp only at h
 rw [aqO hc] at h
 obtain ⟨⟨h1, h2, h3, h4, h5, h6⟩, h7, h8, h9, h10, h11, h12⟩ := hc
 unfold al0 abD
 simp only [beq_eq_false_iff_ne.2 h1, beq_eq_false_iff_ne.2 h2, beq_eq_false_iff_ne.2 h3, beq_eq_false_iff_ne.2 h4, beq_eq_false_iff_ne.2 h5, beq_eq_false_iff_ne.2 h6, beq_eq_false_iff_ne.2 h7, beq_eq_false_iff_ne.2 h8, beq_eq_false_iff_ne.2 h9, beq_eq_false_iff_ne.2 h10, beq_eq_false_iff_ne.2 h11, beq_eq_false_iff_ne.2 h12]
 exact h
theorem afF {p : Prop} [Decidable p] {b : Bool} (h : p ↔ b = true) : decide p = b := by rw [xz, zC]; exact h
theorem adF {a b : Bool} {y : Bool × Unit} (h : some (a, ()) = some y) (e : a = b) : (TT.ok (b, ())).toO = some y := by subst e; exact h
theorem arG (o : OpT) (i n : Int) (y) (h : ad9 (o, i, n, ()) = some y) : (aiH o i n).toO = some y := by
 unfold ad9 at h
 split at h
 case isFalse => cases h
 case isTrue hr =>
 obtain ⟨⟨r1, r2⟩, r3, r4⟩ := hr
 dsimp only at h r1 r2 r3 r4
 have e1 : w64 (i - 1) = i - 1 := aaD zc
 have e2 : w64 (n - 1) = n - 1 := aaD zc
 unfold aiH
 rw [e1, e2]
 by_cases c1 : o.1 = 1
 ·refine uT (zr.2 c1) ?_
  by_cases d : 0 ≤ o.2.1
  ·exact uT (zl d) (adF h (afF (by unfold acQ; rw [if_pos c1, zC]; omega)))
  ·exact uF (zk d) (adF h (zk (by unfold acQ; rw [if_pos c1]; omega)))
 refine uF (beq_eq_false_iff_ne.2 c1) ?_
 by_cases c2 : o.1 = 2
 ·refine uT (zr.2 c2) ?_
  by_cases d : -1000000000 ≤ o.2.1
  ·exact uT (zl d) (adF h (afF (by unfold acQ inR; rw [if_neg c1, if_pos c2, zC]; omega)))
  ·exact uF (zk d) (adF h (zk (by unfold acQ inR; rw [if_neg c1, if_pos c2]; omega)))
 refine uF (beq_eq_false_iff_ne.2 c2) ?_
 by_cases c3 : o.1 = 11
 ·refine uT (zr.2 c3) ?_
  by_cases d : 0 ≤ o.2.1
  ·exact uT (zl d) (adF h (afF (by unfold acQ; rw [if_neg c1, if_neg c2, if_pos c3, zC]; omega)))
  ·exact uF (zk d) (adF h (zk (by unfold acQ; rw [if_neg c1, if_neg c2, if_pos c3]; omega)))
 refine uF (beq_eq_false_iff_ne.2 c3) ?_
 by_cases d : 0 ≤ o.2.1
 ·exact uT (zl d) (adF h (afF (by unfold acQ; rw [if_neg c1, if_neg c2, if_neg c3, zC]; omega)))
 ·exact uF (zk d) (adF h (zk (by unfold acQ; rw [if_neg c1, if_neg c2, if_neg c3]; omega)))
theorem atZ (o : OpT) (i n : Int) (y) (h : ahA (o, i, n, ()) = some y) : (ajS o i n).toO = some y := by
 unfold ahA at h
 dsimp only at h
 unfold ajS
 by_cases c1 : o.1 = 1
 ·refine uT (zr.2 c1) ?_
  by_cases d : 0 ≤ o.2.1
  ·exact uT (zl d) (adF h (afF (by unfold acQ; rw [if_pos c1, zC]; omega)))
  ·exact uF (zk d) (adF h (zk (by unfold acQ; rw [if_pos c1]; omega)))
 refine uF (beq_eq_false_iff_ne.2 c1) ?_
 by_cases c2 : o.1 = 2
 ·refine uT (zr.2 c2) ?_
  by_cases d : -1000000000 ≤ o.2.1
  ·exact uT (zl d) (adF h (afF (by unfold acQ inR; rw [if_neg c1, if_pos c2, zC]; omega)))
  ·exact uF (zk d) (adF h (zk (by unfold acQ inR; rw [if_neg c1, if_pos c2]; omega)))
 refine uF (beq_eq_false_iff_ne.2 c2) ?_
 by_cases c3 : o.1 = 11
 ·refine uT (zr.2 c3) ?_
  by_cases d : 0 ≤ o.2.1
  ·exact uT (zl d) (adF h (afF (by unfold acQ; rw [if_neg c1, if_neg c2, if_pos c3, zC]; omega)))
  ·exact uF (zk d) (adF h (zk (by unfold acQ; rw [if_neg c1, if_neg c2, if_pos c3]; omega)))
 exact uF (beq_eq_false_iff_ne.2 c3) (adF h (afF (by unfold acQ; rw [if_neg c1, if_neg c2, if_neg c3, zr])))
theorem aAq {α : Type} {l : List α} {k : Nat} (d : α) (h : k < l.length) : l.drop k = l.getD k d :: l.drop (k + 1) := by
 rw [yj h]; simp [h]
theorem aqR (ins : Int) : ∀ (l : List OpT) (n m n' m' : Int), abI ins l n m = some (n', m') → m ≤ m'
 | [], n, m, n', m', h => by
  injection h with h
  obtain ⟨-, h⟩ := Prod.mk.inj h
  omega
 | o :: r, n, m, n', m', h => by
  simp only [abI] at h
  split at h
  ·have := aqR ins r _ _ _ _ h
   split at this <;> omega
  ·cases h
def aMi (o : Int) : Option (Int × Int) → Int × Int × Unit
 | some (n, m) => if m ≤ 16 ∧ n = o then (m, 0, ()) else (0, 120, ())
 | none => (0, 120, ())
theorem aDO {o ins : Int} {l : List OpT} {n m : Int} (h : 16 < m) : aMi o (abI ins l n m) = (0, 120, ()) := by
 cases e : abI ins l n m with
 | none => rfl
 | some x =>
  obtain ⟨n', m'⟩ := x
  have := aqR _ _ _ _ _ _ e
  unfold aMi
  exact if_neg zc
def aN7 : Option Int → Int × Int × Unit
 | some m => (m, 0, ())
 | none => (0, 120, ())
theorem aiA (c : Int) : ah7 (c, ()) = some (if aaM c < 0 then 0 else aaM c, decide (0 ≤ aaM c), ()) := rfl
theorem ai5 {o : OpT} {i n : Int} (h1 : inR i 0 100) (h2 : inR n 0 100) : ad9 (o, i, n, ()) = some (decide (acQ o i n), ()) := if_pos ⟨h1, h2⟩
theorem awY (p : List OpT) (i o : Int) (y) (h : agM (p, i, o, ()) = some y) : (al6 p i o).toO = some y := by
 unfold agM at h
 split at h
 case isFalse => cases h
 case isTrue hl =>
 injection h with h
 have h : aN7 (aeC p i o) = y := by rw [← h]; unfold aN7; rfl
 subst h
 unfold al6 ac8
 by_cases c : inR i 1 4 ∧ inR o 1 4 ∧ p.length ≤ 40
 case neg =>
  have e : aeC p i o = none := by unfold aeC; rw [if_neg c]
  rw [e]
  unfold inR at c
  by_cases c1 : 1 ≤ i
  case neg => exact uF (zk c1) rfl
  refine uT (zl c1) ?_
  by_cases c2 : i ≤ 4
  case neg => exact uF (zk c2) rfl
  refine uT (zl c2) ?_
  by_cases c3 : 1 ≤ o
  case neg => exact uF (zk c3) rfl
  refine uT (zl c3) ?_
  by_cases c4 : o ≤ 4
  case neg => exact uF (zk c4) rfl
  refine uT (zl c4) (uV (uV (uT ?_ rfl)))
  rw [zk (by rw [aaB]; omega)]; rfl
 obtain ⟨⟨c1, c2⟩, ⟨c3, c4⟩, c5⟩ := c
 have e : aN7 (aeC p i o) = aMi o (abI i p 0 0) := by
  unfold aeC
  rw [if_pos ⟨⟨c1, c2⟩, ⟨c3, c4⟩, c5⟩]
  cases abI i p 0 0 with
  | none => rfl
  | some x =>
   obtain ⟨n, m⟩ := x
   unfold aMi
   dsimp only
   by_cases d : m ≤ 16 ∧ n = o
   ·rw [if_pos d, if_pos d]; rfl
   ·rw [if_neg d, if_neg d]; rfl
 rw [e]
 refine uT (zl c1) (uT (zl c2) (uT (zl c3) (uT (zl c4) (uV (uV (uF ?_ (uO (0, 0, 0, ()) rfl ?_)))))))
 ·rw [zl (by rw [aaB]; omega)]; rfl
 refine abA (fun j : Int × Int × Int × Unit => ∃ k : Nat, k ≤ p.length ∧ j.1 = (k : Int) ∧ (0 ≤ j.2.1 ∧ j.2.1 ≤ 16) ∧ (0 ≤ j.2.2.1 ∧ j.2.2.1 ≤ 16)) (fun j => ((p.length : Int) - j.1).toNat) (fun j => aMi o (abI i (p.drop j.1.toNat) j.2.1 j.2.2.1)) ?_ _ ⟨0, by omega, rfl, by dsimp only; omega, by dsimp only; omega⟩
 rintro ⟨j1, n, m, u⟩ ⟨k, h2, rfl, ⟨n1, n2⟩, m1, m2⟩
 dsimp only at n1 n2 m1 m2
 simp only [apH, af2, ad4, aaI, zz]
 rcases zH k p.length with hk | hk
 ·rw [aAq (0, 0, ()) hk]
  generalize hq : p.getD k (0, 0, ()) = q
  have tr := aqN q.1
  by_cases t0 : 0 ≤ aaM q.1
  case neg =>
   right
   refine uT sd (uN sd (uC _ (aiA _) (uF (zk t0) ?_)))
   simp only [abI]
   rw [if_neg (fun h => t0 h.1)]
   rfl
  have tv0 : (if aaM q.1 < 0 then 0 else aaM q.1) = aaM q.1 := if_neg zc
  by_cases t1 : aaM q.1 ≤ n
  case neg =>
   right
   refine uT sd (uN sd (uC _ (aiA _) (uT (zl t0) (uF (zk (by rw [tv0]; exact t1)) ?_))))
   simp only [abI]
   rw [if_neg (fun h => t1 h.2.1)]
   rfl
  by_cases t2 : acQ q i n
  case neg =>
   right
   refine uT sd (uN sd (uC _ (aiA _) (uT (zl t0) (uT (zl (by rw [tv0]; exact t1)) (uC _ (ai5 ⟨by omega, by omega⟩ ⟨n1, by omega⟩) (uV (uV (uT (by show (!decide (acQ q i n)) = true; rw [zk t2]; rfl) ?_))))))))
   simp only [abI]
   rw [if_neg (fun h => t2 h.2.2)]
   rfl
  have hst : abI i (q :: p.drop (k + 1)) n m = abI i (p.drop (k + 1)) (n - aaM q.1 + 1) (if n - aaM q.1 + 1 > m then n - aaM q.1 + 1 else m) := by
   simp only [abI]
   exact if_pos ⟨t0, t1, t2⟩
  have e1 : w64 (n + w64 (1 - (if aaM q.1 < 0 then 0 else aaM q.1))) = n - aaM q.1 + 1 := by
   rw [tv0, aaD (x := 1 - aaM q.1) zc, aaD zc]; omega
  rw [hst]
  by_cases t3 : n - aaM q.1 + 1 ≤ 16
  case neg =>
   right
   rw [aDO (by split <;> omega)]
   refine uT sd (uN sd (uC _ (aiA _) (uT (zl t0) (uT (zl (by rw [tv0]; exact t1)) (uC _ (ai5 ⟨by omega, by omega⟩ ⟨n1, by omega⟩) (uV (uV (uF (by show (!decide (acQ q i n)) = false; rw [zl t2]; rfl) ?_))))))))
   refine uV (uV (uT ?_ rfl))
   dsimp only
   rw [e1, zk t3]; rfl
  left
  refine ⟨(((k + 1 : Nat) : Int), n - aaM q.1 + 1, (if n - aaM q.1 + 1 > m then n - aaM q.1 + 1 else m), ()), ?_, ⟨k + 1, by omega, rfl, by dsimp only; omega, by dsimp only; split <;> omega⟩, by dsimp only; omega, by dsimp only; rw [zz]⟩
  refine uT sd (uN sd (uC _ (aiA _) (uT (zl t0) (uT (zl (by rw [tv0]; exact t1)) (uC _ (ai5 ⟨by omega, by omega⟩ ⟨n1, by omega⟩) (uV (uV (uF (by show (!decide (acQ q i n)) = false; rw [zl t2]; rfl) ?_))))))))
  dsimp only
  rw [e1]
  refine uV (uV (uF (by rw [zl t3]; rfl) (uV (uB (uB (uB (uV (uV ?_))))))))
  rw [amU hk zc]; rfl
 ·right
  rw [yH hk]
  refine uF sd (uV (uV ?_))
  have e9 : aMi o (abI i [] n m) = if m ≤ 16 ∧ n = o then (m, 0, ()) else (0, 120, ()) := rfl
  rw [e9]
  by_cases d : n = o
  ·rw [if_pos ⟨m2, d⟩]
   exact uF (by rw [zr.2 d]; rfl) rfl
  ·rw [if_neg (fun h => d h.2)]
   exact uT (by rw [beq_eq_false_iff_ne.2 d]; rfl) rfl
theorem aCz {p : List OpT} (i o : Int) (h : shL p) : agM (p, i, o, ()) = some (match aeC p i o with | some m => (m, 0, ()) | none => (0, 120, ())) := if_pos h
theorem azD (p : List OpT) (i o : Int) (y) (h : afU (p, i, o, ()) = some y) : (an7 p i o).toO = some y := by
 unfold afU at h
 split at h
 case isFalse => cases h
 case isTrue hl =>
 unfold an7
 refine uC _ (aCz i o hl) (Eq.trans ?_ h)
 dsimp only
 cases aeC p i o <;> rfl
def aLC (o : Int) : Option (Int × Int) → Int × Bool × Unit
 | some (n, m) => (m, decide (m ≤ 16 ∧ n = o), ())
 | none => (0, false, ())
theorem awT (p : List OpT) (i o : Int) (y) (h : agL (p, i, o, ()) = some y) : (al1 p i o).toO = some y := by
 unfold agL at h
 split at h
 case isFalse => cases h
 case isTrue hl =>
 injection h with h
 have h : aLC o (if inR i 1 4 ∧ inR o 1 4 ∧ p.length ≤ 40 then abI i p 0 0 else none) = y := by rw [← h]; unfold aLC; rfl
 subst h
 unfold al1
 by_cases c : inR i 1 4 ∧ inR o 1 4 ∧ p.length ≤ 40
 case neg =>
  rw [if_neg c]
  unfold inR at c
  by_cases c1 : 1 ≤ i
  case neg => exact uT sd rfl
  refine uF sd ?_
  by_cases c2 : i ≤ 4
  case neg => exact uT sd rfl
  refine uF sd ?_
  by_cases c3 : 1 ≤ o
  case neg => exact uT sd rfl
  refine uF sd ?_
  by_cases c4 : o ≤ 4
  case neg => exact uT sd rfl
  refine uF sd (uT (zl ?_) rfl)
  rw [aaB]; omega
 rw [if_pos c]
 obtain ⟨⟨c1, c2⟩, ⟨c3, c4⟩, c5⟩ := c
 refine uF sd (uF sd (uF sd (uF sd (uF (zk (by rw [aaB]; omega)) (uO (0, 0, 0, ()) rfl ?_)))))
 refine abA (fun j : Int × Int × Int × Unit => ∃ k : Nat, k ≤ p.length ∧ j.1 = (k : Int) ∧ (0 ≤ j.2.2.1 ∧ j.2.2.1 ≤ (k : Int)) ∧ (0 ≤ j.2.1 ∧ j.2.1 ≤ (k : Int))) (fun j => ((p.length : Int) - j.1).toNat) (fun j => aLC o (abI i (p.drop j.1.toNat) j.2.2.1 j.2.1)) ?_ _ ⟨0, by omega, rfl, by dsimp only; omega, by dsimp only; omega⟩
 rintro ⟨j1, m, n, u⟩ ⟨k, h2, rfl, ⟨n1, n2⟩, m1, m2⟩
 dsimp only at n1 n2 m1 m2
 simp only [apE, aaI, zz]
 rcases zH k p.length with hk | hk
 ·rw [aAq (0, 0, ()) hk]
  generalize hq : p.getD k (0, 0, ()) = q
  have tr := aqN q.1
  by_cases t0 : 0 ≤ aaM q.1
  case neg =>
   right
   refine uT sd (uN sd (uC (aaM q.1, ()) rfl (uT (zl zg) ?_)))
   simp only [abI]
   rw [if_neg (fun h => t0 h.1)]
   rfl
  by_cases t1 : aaM q.1 ≤ n
  case neg =>
   right
   refine uT sd (uN sd (uC (aaM q.1, ()) rfl (uF (zk zg) (uT (zl zg) ?_))))
   simp only [abI]
   rw [if_neg (fun h => t1 h.2.1)]
   rfl
  by_cases t2 : acQ q i n
  case neg =>
   right
   refine uT sd (uN sd (uC (aaM q.1, ()) rfl (uF (zk zg) (uF (zk zg) (uN sd (uC (decide (acQ q i n), ()) rfl (uT (by dsimp only; rw [zk t2]; rfl) ?_)))))))
   simp only [abI]
   rw [if_neg (fun h => t2 h.2.2)]
   rfl
  have hst : abI i (q :: p.drop (k + 1)) n m = abI i (p.drop (k + 1)) (n - aaM q.1 + 1) (if n - aaM q.1 + 1 > m then n - aaM q.1 + 1 else m) := by
   simp only [abI]
   exact if_pos ⟨t0, t1, t2⟩
  have e1 : w64 (w64 (n - aaM q.1) + 1) = n - aaM q.1 + 1 := by
   rw [aaD (x := n - aaM q.1) zc, aaD zc]
  rw [hst]
  left
  refine ⟨(((k + 1 : Nat) : Int), (if n - aaM q.1 + 1 > m then n - aaM q.1 + 1 else m), n - aaM q.1 + 1, ()), ?_, ⟨k + 1, by omega, rfl, by dsimp only; omega, by dsimp only; split <;> omega⟩, by dsimp only; omega, by dsimp only; rw [zz]⟩
  refine uT sd (uN sd (uC (aaM q.1, ()) rfl (uF (zk zg) (uF (zk zg) (uN sd (uC (decide (acQ q i n), ()) rfl (uF (by dsimp only; rw [zl t2]; rfl) ?_)))))))
  dsimp only
  rw [e1]
  refine uV (uB (uB (uB (uV (uV ?_)))))
  rw [amU hk zc]; rfl
 ·right
  rw [yH hk]
  refine uF sd ?_
  have e9 : aLC o (abI i [] n m) = (m, decide (m ≤ 16 ∧ n = o), ()) := rfl
  rw [e9]
  by_cases d : m ≤ 16
  ·refine uT (zl d) ?_
   rw [show decide (m ≤ 16 ∧ n = o) = (n == o) from afF (by rw [zr]; exact and_iff_right d)]
   rfl
  ·refine uF (zk d) ?_
   rw [zk (fun h => d h.1)]
   rfl
theorem aCw {p : List OpT} (i o : Int) (h : shL p) : agL (p, i, o, ()) = some (aLC o (if inR i 1 4 ∧ inR o 1 4 ∧ p.length ≤ 40 then abI i p 0 0 else none)) := (if_pos h).trans (by unfold aLC; rfl)
theorem awU (p : List OpT) (i o : Int) (y) (h : acY (p, i, o, ()) = some y) : (al3 p i o).toO = some y := by
 unfold acY at h
 split at h
 case isFalse => cases h
 case isTrue hl =>
 unfold al3
 refine uC _ (aCw i o hl) (Eq.trans ?_ h)
 show some _ = some _
 unfold aeC
 dsimp only
 by_cases c : inR i 1 4 ∧ inR o 1 4 ∧ p.length ≤ 40
 case neg => rw [if_neg c, if_neg c]; rfl
 rw [if_pos c, if_pos c]
 cases abI i p 0 0 with
 | none => rfl
 | some x =>
  obtain ⟨n, m⟩ := x
  unfold aLC
  dsimp only
  by_cases d : m ≤ 16 ∧ n = o
  ·rw [if_pos d, zl d]; rfl
  ·rw [if_neg d, zk d]; rfl
set_option maxRecDepth 100000
open Go Go.Vg Go.Proofs
noncomputable section
def aBc : LTab := []
def alR (n : Int) (low : Int) (high : Int) : TT wi :=
 .ite (decide (n ≥ low))
 (.ok ((decide (n ≤ high), ())))
 (.ok ((false, ())))
def aBe : LTab := [(237, 26, 2048, ⟨0, (Int) × Unit, .dat (.s 5) xW <| .nil, [0, 1], [], 0⟩)]
def apD (a : Int) (b : Int) (i : (Int) × Unit) : TT wd :=
 .ite (decide (i.1 ≤ a))
 (.ite (decide (i.1 ≤ b))
 (.need (i.1 ≠ 0) <| .ite (Int.tmod a i.1 == 0)
 (.need (i.1 ≠ 0) <| .ite (Int.tmod b i.1 == 0)
 (.ok (.inr ((true, ()))))
 (.tt <| .lt (w64 (i.1 + 1) : Int) fun z => .xC (xF z a b) <| .tr <| .ok (.inl ((z, ())))))
 (.tt <| .lt (w64 (i.1 + 1) : Int) fun z1 => .xC (xF z1 a b) <| .tr <| .ok (.inl ((z1, ())))))
 (.ok (.inr ((false, ())))))
 (.ok (.inr ((false, ()))))
def alS (a : Int) (b : Int) : TT wi :=
 .loop 0 (.tt <| .xC (xF (2 : Int) a b) <| .tr <| .ok ((2, ()))) (apD a b)
def ayN : LTab := []
def ajK (s : Int × Int × Int × Int × Int × Int × Unit) : TT wi :=
 .call (ab0 (s.2.1, -100000000, 100000000, ())) Dd1 fun y =>
 .ite (y.1)
 (.call (ab0 (s.2.2.1, -100000000, 100000000, ())) Dd1 fun y1 =>
 .ite (y1.1)
 (.call (ab0 (s.2.2.2.2.2.1, -100000000, 100000000, ())) Dd1 fun y2 =>
 .ite (y2.1)
 (.call (ab0 (s.2.2.2.1, 1, 36, ())) Dd1 fun y3 =>
 .ite (y3.1)
 (.call (ab0 (s.2.2.2.2.1, 1, 12, ())) Dd1 fun y4 =>
 .ite (y4.1)
 (.call (abB (s.2.2.2.1, s.2.2.2.2.1, ())) Dd1 fun y5 =>
 .ok ((!y5.1, ())))
 (.ok ((false, ()))))
 (.ok ((false, ()))))
 (.ok ((false, ()))))
 (.ok ((false, ()))))
 (.ok ((false, ())))
def aDP : LTab := [(112, 3442, 9216, ⟨0, (Int) × Unit, .dat (.s 3) xW <| .nil, [8, 1], [0], 0⟩), (112, 27626, 12288, ⟨1, (Int) × (Int) × Unit, .dat (.s 5) xW <| .dat (.s 4) xW <| .nil, [1], [0], 0⟩)]
def aq4 (c : Int × List Int × List xV × Unit) (i : (Int) × Unit) : TT wd :=
 .ite (decide (i.1 < len c.2.1))
 (.need (inb i.1 (len c.2.1)) <| .call (ab0 (gi c.2.1 i.1 0, 0, 65535, ())) Dd1 fun y =>
 .ite (!y.1)
 (.ok (.inr ((false, ()))))
 (.tt <| .lt (w64 (i.1 + 1) : Int) fun z => .xC (xO z c.1 <| wb ∧ True) <| .xC (xB (xD 111 c.1 c.2.1 c.2.2.1) True) <| .ok (.inl ((z, ())))))
 (.call (ab0 (len c.2.1, 2, 17, ())) Dd1 fun y1 =>
 .ite (y1.1)
 (.ok (.inr ((len c.2.2.1 == 0, ()))))
 (.ok (.inr ((false, ())))))
def aq3 (c : Int × List Int × List xV × Unit) (i1 : (Int) × (Int) × Unit) : TT (wE ⊕ wi) :=
 .ite (decide (i1.1 < len c.2.2.1))
 (.need (inb i1.1 (len c.2.2.1)) <| .call (ag9 (((gi c.2.2.1 i1.1 (0, 0, 0, 0, 0, 0, ())).1, (gi c.2.2.1 i1.1 (0, 0, 0, 0, 0, 0, ())).2.1, (gi c.2.2.1 i1.1 (0, 0, 0, 0, 0, 0, ())).2.2.1, (gi c.2.2.1 i1.1 (0, 0, 0, 0, 0, 0, ())).2.2.2.1, (gi c.2.2.1 i1.1 (0, 0, 0, 0, 0, 0, ())).2.2.2.2.1, (gi c.2.2.1 i1.1 (0, 0, 0, 0, 0, 0, ())).2.2.2.2.2.1, ()), ())) Dd1 fun y2 =>
 .ite (!y2.1)
 (.ok (.inr ((false, ()))))
 (.ite (decide ((gi c.2.2.1 i1.1 (0, 0, 0, 0, 0, 0, ())).1 ≤ i1.2.1))
 (.ok (.inr ((false, ()))))
 (.tt <| .lt (w64 (i1.1 + 1) : Int) fun z1 => .lt ((gi c.2.2.1 i1.1 (0, 0, 0, 0, 0, 0, ())).1 : Int) fun z2 => .xC (xO z2 z1 <| wb ∧ True) <| .xC (xB (xD 111 c.1 c.2.1 c.2.2.1) True) <| .ok (.inl ((z1, z2, ()))))))
 (.call (ab0 (len c.2.2.1, 1, 4, ())) Dd1 fun y3 =>
 .ite (y3.1)
 (.ite (i1.2.1 == 1000000)
 (.ok (.inr ((len c.2.1 == 0, ()))))
 (.ok (.inr ((false, ())))))
 (.ok (.inr ((false, ())))))
def anU (c : Int × List Int × List xV × Unit) : TT wi :=
 .ite (c.1 == 1)
 (.ite (len c.2.1 == 0)
 (.ok ((len c.2.2.1 == 0, ())))
 (.ok ((false, ()))))
 (.ite (c.1 == 2)
 (.loop 0 (.tt <| .xC (xO (0 : Int) c.1 <| wb ∧ True) <| .xC (xB (xD 111 c.1 c.2.1 c.2.2.1) True) <| .ok ((0, ()))) (aq4 c))
 (.ite (c.1 == 3)
 (.loop 1 (.tt <| .xC (xO (0 : Int) (0 : Int) <| wb ∧ True) <| .xC (xB (xD 111 c.1 c.2.1 c.2.2.1) True) <| .ok ((0, 0, ()))) (aq3 c))
 (.ok ((false, ())))))
def aFT : LTab := [(72, 3, 3072, ⟨0, (Bool) × Unit, .dat (.s 4) (Ty.bool) <| .nil, [3, 2], [1, 0], 0⟩), (72, 58, 4096, ⟨1, (Int) × Unit, .dat (.s 5) xW <| .nil, [3, 2], [1, 0], 0⟩), (72, 122, 10240, ⟨2, (Int) × Unit, .dat (.s 6) xW <| .nil, [3, 2], [1, 0], 0⟩)]
def auU (a : Int × List Int × List xV × Unit) (b : Int × List Int × List xV × Unit) (j : Bool × Unit) (i : Int × Unit) (i1 : (Int) × Unit) : TT wU :=
 .ite (decide (i1.1 < len a.2.2.1))
 (.need (inb i1.1 (len a.2.2.1)) <| .need (inb i1.1 (len b.2.2.1)) <| .ite (!(match (gi a.2.2.1 i1.1 (0, 0, 0, 0, 0, 0, ())).1 == (gi b.2.2.1 i1.1 (0, 0, 0, 0, 0, 0, ())).1 with | true => (match (gi a.2.2.1 i1.1 (0, 0, 0, 0, 0, 0, ())).2.1 == (gi b.2.2.1 i1.1 (0, 0, 0, 0, 0, 0, ())).2.1 with | true => (match (gi a.2.2.1 i1.1 (0, 0, 0, 0, 0, 0, ())).2.2.1 == (gi b.2.2.1 i1.1 (0, 0, 0, 0, 0, 0, ())).2.2.1 with | true => (match (gi a.2.2.1 i1.1 (0, 0, 0, 0, 0, 0, ())).2.2.2.1 == (gi b.2.2.1 i1.1 (0, 0, 0, 0, 0, 0, ())).2.2.2.1 with | true => (match (gi a.2.2.1 i1.1 (0, 0, 0, 0, 0, 0, ())).2.2.2.2.1 == (gi b.2.2.1 i1.1 (0, 0, 0, 0, 0, 0, ())).2.2.2.2.1 with | true => (match (gi a.2.2.1 i1.1 (0, 0, 0, 0, 0, 0, ())).2.2.2.2.2.1 == (gi b.2.2.1 i1.1 (0, 0, 0, 0, 0, 0, ())).2.2.2.2.2.1 with | true => true | false => false) | false => false) | false => false) | false => false) | false => false) | false => false))
 (.ok (.inr (.inr ((false, ())))))
 (.tt <| .lt (w64 (i1.1 + 1) : Int) fun z1 => .xC (xK z1 <| wa ∧ wb ∧ True) <| .xC (xB (xD 111 b.1 b.2.1 b.2.2.1) <| xB (xD 111 a.1 a.2.1 a.2.2.1) True) <| .ok (.inl ((z1, ())))))
 (.ok (.inr (.inr ((true, ())))))
def auV (a : Int × List Int × List xV × Unit) (b : Int × List Int × List xV × Unit) (j : Bool × Unit) (i : (Int) × Unit) : TT wd :=
 .ite (decide (i.1 < len a.2.1))
 (.need (inb i.1 (len a.2.1)) <| .need (inb i.1 (len b.2.1)) <| .ite (gi a.2.1 i.1 0 != gi b.2.1 i.1 0)
 (.ok (.inr ((false, ()))))
 (.tt <| .lt (w64 (i.1 + 1) : Int) fun z => .xC (xK z <| wa ∧ wb ∧ True) <| .xC (xB (xD 111 b.1 b.2.1 b.2.2.1) <| xB (xD 111 a.1 a.2.1 a.2.2.1) True) <| .ok (.inl ((z, ())))))
 (.loop 2 (.tt <| .xC wB <| .xC (xB (xD 111 b.1 b.2.1 b.2.2.1) <| xB (xD 111 a.1 a.2.1 a.2.2.1) True) <| .ok ((0, ()))) (auU a b j i))
def auW (a : Int × List Int × List xV × Unit) (b : Int × List Int × List xV × Unit) (j : (Bool) × Unit) : TT wi :=
 .loop 1 (.tt <| .xC wB <| .xC (xB (xD 111 b.1 b.2.1 b.2.2.1) <| xB (xD 111 a.1 a.2.1 a.2.2.1) True) <| .ok ((0, ()))) (auV a b j)
def aq2 (a : Int × List Int × List xV × Unit) (b : Int × List Int × List xV × Unit) : TT wi :=
 .join 0 (ι := (Bool) × Unit) (.ite (a.1 != b.1)
 (.ok (.inr ((false, ()))))
 (.ite (len a.2.1 != len b.2.1)
 (.ok (.inr ((false, ()))))
 (.ite (len a.2.2.1 != len b.2.2.1)
 (.ok (.inr ((false, ()))))
 (.tt <| .xC (xK false <| wa ∧ wb ∧ True) <| .xC (xB (xD 111 b.1 b.2.1 b.2.2.1) <| xB (xD 111 a.1 a.2.1 a.2.2.1) True) <| .ok (.inl ((false, ()))))))) (auW a b)
def aDQ : LTab := [(61, 58, 6144, ⟨0, (Int) × Unit, .dat (.s 3) xW <| .nil, [1], [0], 0⟩)]
def aq5 (c : Int × List Int × List xV × Unit) (y : Bool × Unit) (i : (Int) × Unit) : TT wd :=
 .ite (decide (i.1 < len c.2.2.1))
 (.need (inb i.1 (len c.2.2.1)) <| .ite ((gi c.2.2.1 i.1 (0, 0, 0, 0, 0, 0, ())).2.2.2.2.1 != 1)
 (.ok (.inr ((false, ()))))
 (.tt <| .lt (w64 (i.1 + 1) : Int) fun z => .xC (xK z <| wb ∧ True) <| .xC (xB (xD 111 c.1 c.2.1 c.2.2.1) True) <| .ok (.inl ((z, ())))))
 (.ok (.inr ((true, ()))))
def anV (c : Int × List Int × List xV × Unit) : TT wi :=
 .call (aeR ((c.1, c.2.1, c.2.2.1, ()), ())) Dd1 fun y =>
 .ite (!y.1)
 (.ok ((false, ())))
 (.loop 0 (.tt <| .xC wK <| .xC (xB (xD 111 c.1 c.2.1 c.2.2.1) True) <| .ok ((0, ()))) (aq5 c y))
end
theorem awG (n a b : Int) (y) (h : ab0 (n, a, b, ()) = some y) : (alR n a b).toO = some y := by
 injection h with h
 subst h
 unfold alR
 dsimp only
 by_cases c : a ≤ n
 ·refine uT (zl c) ?_
  rw [abQ]
  by_cases d : n ≤ b
  ·rw [zl d, zl (show inR n a b from ⟨c, d⟩)]
  ·rw [zk d, zk (fun h : inR n a b => d h.2)]
 ·refine uF (zk c) ?_
  rw [abQ, zk (fun h : inR n a b => c h.1)]
theorem acR (n a b : Int) : ab0 (n, a, b, ()) = some (decide (inR n a b), ()) := rfl
theorem awJ (a b : Int) (y) (h : abB (a, b, ()) = some y) : (alS a b).toO = some y := by
 unfold abB at h
 split at h
 case isFalse => cases h
 case isTrue hp =>
 injection h with h
 subst h
 obtain ⟨⟨a1, a2⟩, b1, b2⟩ := hp
 dsimp only at a1 a2 b1 b2 ⊢
 obtain ⟨m, rfl⟩ := yF (show 0 ≤ a by omega)
 obtain ⟨n, rfl⟩ := yF (show 0 ≤ b by omega)
 unfold alS
 refine uO (2, ()) rfl ?_
 refine abA (fun i : Int × Unit => ∃ k : Nat, 2 ≤ k ∧ k ≤ 50 ∧ i.1 = (k : Int) ∧ ∀ j, 2 ≤ j → j < k → ¬ (j ∣ m ∧ j ∣ n)) (fun i => ((60 : Int) - i.1).toNat) (fun _ => (!decide (Nat.gcd (m : Int).natAbs (n : Int).natAbs = 1), ())) ?_ _ ⟨2, by omega, by omega, rfl, fun j h1 h2 => by omega⟩
 rintro ⟨i, u⟩ ⟨k, h1, h1', h2, h3⟩
 dsimp only at h2
 subst h2
 simp only [apD, xn]
 have hstop : ¬ (k ≤ m ∧ k ≤ n) → (!decide (Nat.gcd m n = 1)) = false := by
  intro hk
  refine (fun hg : Nat.gcd m n = 1 => by rw [zl hg]; rfl) ?_
  have g1 : 0 < Nat.gcd m n := Nat.gcd_pos_of_pos_left _ zc
  have g2 := Nat.gcd_dvd_left m n
  have g3 := Nat.gcd_dvd_right m n
  have g4 := Nat.le_of_dvd zc g2
  have g5 := Nat.le_of_dvd zc g3
  rcases zH 1 (Nat.gcd m n) with g6 | g6
  ·exact absurd ⟨g2, g3⟩ (h3 _ zc zc)
  ·omega
 have hdiv : ∀ z : Nat, ((Int.tmod (z : Int) (k : Int)) == 0) = decide (k ∣ z) := by
  intro z
  rw [← Int.ofNat_tmod]
  by_cases c : k ∣ z
  ·rw [zl c, Nat.mod_eq_zero_of_dvd c]; rfl
  ·rw [zk c, beq_eq_false_iff_ne]
   intro h
   exact c (Nat.dvd_of_mod_eq_zero zc)
 by_cases c1 : k ≤ m
 ·by_cases c2 : k ≤ n
  ·by_cases d1 : k ∣ m
   ·by_cases d2 : k ∣ n
    ·right
     rw [zk (fun h : Nat.gcd m n = 1 => by have := Nat.dvd_gcd d1 d2; rw [h] at this; have := Nat.le_of_dvd zc this; omega)]
     exact uT sd (uT sd (uN zc (uT (by rw [hdiv]; exact zl d1) (uN zc (uT (by rw [hdiv]; exact zl d2) rfl)))))
    ·left
     refine ⟨(((k + 1 : Nat) : Int), ()), ?_, ⟨k + 1, by omega, by omega, rfl, fun j j1 j2 => ?_⟩, by dsimp only; omega, ze⟩
     ·refine uT sd (uT sd (uN zc (uT (by rw [hdiv]; exact zl d1) (uN zc (uF (by rw [hdiv]; exact zk d2) ?_)))))
      rw [aaD (x := (k : Int) + 1) zc]; rfl
     ·rcases zH j k with hj | hj
      ·exact h3 j j1 hj
      ·obtain rfl : j = k := zc
       exact fun h => d2 h.2
   ·left
    refine ⟨(((k + 1 : Nat) : Int), ()), ?_, ⟨k + 1, by omega, by omega, rfl, fun j j1 j2 => ?_⟩, by dsimp only; omega, ze⟩
    ·refine uT sd (uT sd (uN zc (uF (by rw [hdiv]; exact zk d1) ?_)))
     rw [aaD (x := (k : Int) + 1) zc]; rfl
    ·rcases zH j k with hj | hj
     ·exact h3 j j1 hj
     ·obtain rfl : j = k := zc
      exact fun h => d1 h.1
  ·right
   rw [hstop (fun h => c2 h.2)]
   exact uT sd (uF sd rfl)
 ·right
  rw [hstop (fun h => c1 h.1)]
  exact uF sd rfl
theorem atX (s : ajC) (y) (h : ag9 (s, ()) = some y) : (ajK s).toO = some y := by
 injection h with h
 subst h
 obtain ⟨till, mul, add, num, den, off, u⟩ := s
 unfold ajK
 dsimp only
 refine uC _ (acR _ _ _) ?_
 by_cases c1 : inR mul (-100000000) 100000000
 case neg => rw [zk (fun h : ag0 (till, mul, add, num, den, off, u) => c1 h.1)]; exact uF (zk c1) rfl
 refine uT (zl c1) (uC _ (acR _ _ _) ?_)
 by_cases c2 : inR add (-100000000) 100000000
 case neg => rw [zk (fun h : ag0 (till, mul, add, num, den, off, u) => c2 h.2.1)]; exact uF (zk c2) rfl
 refine uT (zl c2) (uC _ (acR _ _ _) ?_)
 by_cases c3 : inR off (-100000000) 100000000
 case neg => rw [zk (fun h : ag0 (till, mul, add, num, den, off, u) => c3 h.2.2.1)]; exact uF (zk c3) rfl
 refine uT (zl c3) (uC _ (acR _ _ _) ?_)
 by_cases c4 : inR num 1 36
 case neg => rw [zk (fun h : ag0 (till, mul, add, num, den, off, u) => c4 h.2.2.2.1)]; exact uF (zk c4) rfl
 refine uT (zl c4) (uC _ (acR _ _ _) ?_)
 by_cases c5 : inR den 1 12
 case neg => rw [zk (fun h : ag0 (till, mul, add, num, den, off, u) => c5 h.2.2.2.2.1)]; exact uF (zk c5) rfl
 refine uT (zl c5) (uC (!decide (Nat.gcd num.natAbs den.natAbs = 1), ()) (by unfold abB; rw [if_pos ⟨c4, c5⟩]) ?_)
 rw [abQ]
 by_cases c6 : Nat.gcd num.natAbs den.natAbs = 1
 ·rw [zl (show ag0 (till, mul, add, num, den, off, u) from ⟨c1, c2, c3, c4, c5, c6⟩), zl c6]; rfl
 ·rw [zk (fun h : ag0 (till, mul, add, num, den, off, u) => c6 h.2.2.2.2.2), zk c6]; rfl
theorem ao6 {c : CvT} (h : shC c) : aeR (c, ()) = some (decide (acK c), ()) := by unfold aeR; rw [if_pos h]
theorem nT {p : Prop} [Decidable p] (h : ¬ p) : (!decide p) = true := by rw [zk h]; rfl
theorem nF {p : Prop} [Decidable p] (h : p) : (!decide p) = false := by rw [zl h]; rfl
theorem agA {α : Type} {p : Prop} [Decidable p] {a b : α} {c : Bool} (h : c = true ↔ p) : (if c then a else b) = if p then a else b := by
 by_cases hp : p
 ·rw [if_pos hp, if_pos (h.2 hp)]
 ·rw [if_neg hp, if_neg (fun e => hp (h.1 e))]
theorem adG {α : Type} (l : List α) (d : α) (p : α → Prop) [DecidablePred p] : (List.range l.length).all (fun k => decide (p (l.getD k d))) = true ↔ ∀ x ∈ l, p x := by
 rw [aJ9 l d (fun x => decide (p x)), yo]
 exact ⟨fun h x hx => of_decide_eq_true (h x hx), fun h x hx => zl (h x hx)⟩
theorem acB {α : Type} {l : List α} {k : Nat} (d : α) (h : k < l.length) : l.getD k d ∈ l := by
 have : l.getD k d = l[k] := by simp [h]
 rw [this]; exact yi h
theorem aCA {l : List Int} (h : shL l) : adI (l, ()) = some (af1 l, ()) := if_pos h
theorem aAQ {l : List Int} (h : shL l) : ab7 (l, ()) = some (af1 l, ()) := if_pos h
theorem aB3 (g : GrT) (y) (h : ah8 (g, ()) = some y) : (ar3 g).toO = some y := by
 unfold ah8 at h
 split at h
 case isFalse => cases h
 case isTrue hl =>
 obtain ⟨l1, l2⟩ := hl
 injection h with h
 subst h
 dsimp only at l1 l2 ⊢
 have l1' : g.1.length ≤ 1000000000000 := l1
 have l2' : g.2.2.1.length ≤ 1000000000000 := l2
 unfold ar3
 refine uC (decide (inR (len g.1) 1 4), ()) rfl ?_
 by_cases c1 : inR (len g.1) 1 4
 case neg =>
  refine uT (nT c1) ?_
  rw [if_neg (fun h => c1 ⟨by have := h.1.1; rw [aaB]; omega, by have := h.1.2; rw [aaB]; omega⟩)]; rfl
 refine uF (nF c1) (uC (decide (inR g.2.1 1 4), ()) rfl ?_)
 by_cases c2 : inR g.2.1 1 4
 case neg =>
  refine uT (nT c2) ?_
  rw [if_neg (fun h => c2 h.2.1)]; rfl
 refine uF (nF c2) (uO (0, ()) rfl ?_)
 have c1' : 1 ≤ g.1.length ∧ g.1.length ≤ 4 := by obtain ⟨a, b⟩ := c1; rw [aaB] at a b; omega
 refine (aa9 (n := g.1.length) (bad := (100, ())) (good := (if g.2.2.1.length ≤ 4096 ∧ (g.2.2.1.length : Int) = w64 (af1 g.1 * g.2.1) ∧ ∀ v ∈ g.2.2.1, inR v 0 65535 then 0 else 100, ())) (fun k => decide (inR (g.1.getD k 0) 2 9)) (fun k hk hp => ?_) (fun k hk hp => ?_) ?_).trans ?_
 ·simp only [akS, aaI]
  refine uT sd (uN sd (uC (decide (inR (g.1.getD k 0) 2 9), ()) rfl (uF (nF (of_decide_eq_true hp)) (uV (uB (uV (uV ?_)))))))
  rw [amU hk l1']; rfl
 ·simp only [akS, aaI]
  exact uT sd (uN sd (uC (decide (inR (g.1.getD k 0) 2 9), ()) rfl (uT (nT (of_decide_eq_false hp)) rfl)))
 ·simp only [akS, aaI]
  refine uF sd ?_
  by_cases d1 : g.2.2.1.length ≤ 4096
  case neg =>
   refine uT (zl (by rw [aaB]; omega)) ?_
   rw [if_neg (fun h => d1 h.1)]; rfl
  refine uF (zk (by rw [aaB]; omega)) (uC _ (aCA l1) ?_)
  by_cases d2 : (g.2.2.1.length : Int) = w64 (af1 g.1 * g.2.1)
  case neg =>
   refine uT (yf.2 d2) ?_
   rw [if_neg (fun h => d2 h.2.1)]; rfl
  refine uF (bne_eq_false_iff_eq.2 d2) (uO (0, ()) rfl ?_)
  refine (aa9 (n := g.2.2.1.length) (bad := .inr (100, ())) (good := .inr (0, ())) (fun k => decide (inR (g.2.2.1.getD k 0) 0 65535)) (fun k hk hp => ?_) (fun k hk hp => ?_) ?_).trans ?_
  ·simp only [aoF, aaI]
   refine uT sd (uN sd (uC (decide (inR (g.2.2.1.getD k 0) 0 65535), ()) rfl (uF (nF (of_decide_eq_true hp)) (uV (uB (uV (uV ?_)))))))
   rw [amU hk l2']; rfl
  ·simp only [aoF, aaI]
   exact uT sd (uN sd (uC (decide (inR (g.2.2.1.getD k 0) 0 65535), ()) rfl (uT (nT (of_decide_eq_false hp)) rfl)))
  ·exact uF sd rfl
  ·rw [agA (adG g.2.2.1 0 (fun v => inR v 0 65535))]
   by_cases d3 : ∀ v ∈ g.2.2.1, inR v 0 65535
   ·rw [if_pos d3, if_pos ⟨d1, d2, d3⟩]
   ·rw [if_neg d3, if_neg (fun h => d3 h.2.2)]
 ·rw [agA (adG g.1 0 (fun v => inR v 2 9))]
  by_cases d : ∀ v ∈ g.1, inR v 2 9
  case neg => rw [if_neg d, if_neg (fun h => d h.2.2.1)]
  rw [if_pos d]
  by_cases e : g.2.2.1.length ≤ 4096 ∧ (g.2.2.1.length : Int) = w64 (af1 g.1 * g.2.1) ∧ ∀ v ∈ g.2.2.1, inR v 0 65535
  ·rw [if_pos e, if_pos ⟨c1', c2, d, e⟩]
  ·rw [if_neg e, if_neg (fun h => e h.2.2.2)]
theorem awW (g : GrT) (y) (h : acZ (g, ()) = some y) : (al4 g).toO = some y := by
 unfold acZ at h
 split at h
 case isFalse => cases h
 case isTrue hl =>
 obtain ⟨l1, l2⟩ := hl
 injection h with h
 subst h
 dsimp only at l1 l2 ⊢
 have l1' : g.1.length ≤ 1000000000000 := l1
 have l2' : g.2.2.1.length ≤ 1000000000000 := l2
 unfold al4
 refine uC (decide (inR (len g.1) 1 4), ()) rfl ?_
 by_cases c1 : inR (len g.1) 1 4
 case neg =>
  refine uT (nT c1) ?_
  rw [zk (fun h : afY g => c1 ⟨by have := h.1.1; rw [aaB]; omega, by have := h.1.2; rw [aaB]; omega⟩)]; rfl
 refine uF (nF c1) (uC (decide (inR g.2.1 1 4), ()) rfl ?_)
 by_cases c2 : inR g.2.1 1 4
 case neg =>
  refine uT (nT c2) ?_
  rw [zk (fun h : afY g => c2 h.2.1)]; rfl
 refine uF (nF c2) (uO (0, ()) rfl ?_)
 have c1' : 1 ≤ g.1.length ∧ g.1.length ≤ 4 := by obtain ⟨a, b⟩ := c1; rw [aaB] at a b; omega
 refine (aa9 (n := g.1.length) (bad := (false, ())) (good := (decide (g.2.2.1.length ≤ 4096 ∧ (g.2.2.1.length : Int) = w64 (af1 g.1 * g.2.1) ∧ ∀ v ∈ g.2.2.1, inR v 0 65535), ())) (fun k => decide (inR (g.1.getD k 0) 2 9)) (fun k hk hp => ?_) (fun k hk hp => ?_) ?_).trans ?_
 ·simp only [agX, aaI]
  refine uT sd (uN sd (uC (decide (inR (g.1.getD k 0) 2 9), ()) rfl (uF (nF (of_decide_eq_true hp)) (uV (uB (uV (uV ?_)))))))
  rw [amU hk l1']; rfl
 ·simp only [agX, aaI]
  exact uT sd (uN sd (uC (decide (inR (g.1.getD k 0) 2 9), ()) rfl (uT (nT (of_decide_eq_false hp)) rfl)))
 ·simp only [agX, aaI]
  refine uF sd (uC _ (aAQ l1) ?_)
  by_cases d2 : (g.2.2.1.length : Int) = w64 (af1 g.1 * g.2.1)
  case neg =>
   refine uT (yf.2 d2) ?_
   rw [zk (fun h : _ ∧ _ ∧ _ => d2 h.2.1)]; rfl
  refine uF (bne_eq_false_iff_eq.2 d2) ?_
  by_cases d1 : g.2.2.1.length ≤ 4096
  case neg =>
   refine uT (zl (by rw [aaB]; omega)) ?_
   rw [zk (fun h : _ ∧ _ ∧ _ => d1 h.1)]; rfl
  refine uF (zk (by rw [aaB]; omega)) (uO (0, ()) rfl ?_)
  refine (aa9 (n := g.2.2.1.length) (bad := .inr (false, ())) (good := .inr (true, ())) (fun k => decide (inR (g.2.2.1.getD k 0) 0 65535)) (fun k hk hp => ?_) (fun k hk hp => ?_) ?_).trans ?_
  ·simp only [ajW, aaI]
   refine uT sd (uN sd (uC (decide (inR (g.2.2.1.getD k 0) 0 65535), ()) rfl (uF (nF (of_decide_eq_true hp)) (uV (uB (uV (uV ?_)))))))
   rw [amU hk l2']; rfl
  ·simp only [ajW, aaI]
   exact uT sd (uN sd (uC (decide (inR (g.2.2.1.getD k 0) 0 65535), ()) rfl (uT (nT (of_decide_eq_false hp)) rfl)))
  ·exact uF sd rfl
  ·rw [agA (adG g.2.2.1 0 (fun v => inR v 0 65535))]
   by_cases d3 : ∀ v ∈ g.2.2.1, inR v 0 65535
   ·rw [if_pos d3, zl (show _ ∧ _ ∧ _ from ⟨d1, d2, d3⟩)]
   ·rw [if_neg d3, zk (fun h : _ ∧ _ ∧ _ => d3 h.2.2)]
 ·rw [agA (adG g.1 0 (fun v => inR v 2 9))]
  by_cases d : ∀ v ∈ g.1, inR v 2 9
  case neg => rw [if_neg d, zk (fun h : afY g => d h.2.2.1)]
  rw [if_pos d]
  by_cases e : g.2.2.1.length ≤ 4096 ∧ (g.2.2.1.length : Int) = w64 (af1 g.1 * g.2.1) ∧ ∀ v ∈ g.2.2.1, inR v 0 65535
  ·rw [zl e, zl (show afY g from ⟨c1', c2, d, e⟩)]
  ·rw [zk e, zk (fun h : afY g => e h.2.2.2)]
theorem aEO (n : Int) (y) (h : anJ (n, ()) = some y) : (axJ n).toO = some y := by
 injection h with h
 subst h
 unfold axJ
 by_cases c : n < -1000000000
 ·refine uT (zl c) ?_
  rw [zk (fun h : aaS n => by have := h.1; omega)]; rfl
 ·refine uF (zk c) ?_
  have e : decide (n > 1000000000) = !decide (aaS n) := by
   by_cases d : n > 1000000000
   ·rw [zl d, zk (fun h : aaS n => by have := h.2; omega)]; rfl
   ·rw [zk d, zl (show aaS n from ⟨by omega, by omega⟩)]; rfl
  rw [e]; rfl
theorem aoO (l : List CvT) (y) (h : ac0 (l, ()) = some y) : (agE l).toO = some y := by
 unfold ac0 at h
 split at h
 case isFalse => cases h
 case isTrue hl =>
 injection h with h
 subst h
 dsimp only at hl ⊢
 have hl' : l.length ≤ 1000000000000 := hl
 unfold agE
 by_cases c1 : l.length < 1
 ·refine uT (zl (by rw [aaB]; omega)) ?_
  rw [zk (fun h : ai8 l => by have := h.1.1; omega)]; rfl
 refine uF (zk (by rw [aaB]; omega)) ?_
 by_cases c2 : l.length > 4
 ·refine uT (zl (by rw [aaB]; omega)) ?_
  rw [zk (fun h : ai8 l => by have := h.1.2; omega)]; rfl
 refine uF (zk (by rw [aaB]; omega)) (uV (uV (uV (uV (uO (0, ()) rfl ?_)))))
 refine (aa9 (n := l.length) (bad := (false, ())) (good := (true, ())) (fun k => decide (acK (l.getD k (0, [], [], ())))) (fun k hk hp => ?_) (fun k hk hp => ?_) ?_).trans ?_
 ·simp only [afC, aaI]
  refine uT sd (uN sd (uV (uV (uC (0, ()) (by have := atK (l.getD k (0, [], [], ())); rw [if_pos (of_decide_eq_true hp)] at this; exact this) (uF rfl (uV (uB (uV (uV ?_)))))))))
  rw [amU hk hl']; rfl
 ·simp only [afC, aaI]
  refine uT sd (uN sd (uV (uV (uC (90, ()) (by have := atK (l.getD k (0, [], [], ())); rw [if_neg (of_decide_eq_false hp)] at this; exact this) (uT rfl ?_)))))
  rw [zl (show ((k : Int) ≥ 0) by omega)]; rfl
 ·exact uF sd rfl
 ·rw [agA (adG l (0, [], [], ()) acK)]
  by_cases d : ∀ c ∈ l, acK c
  ·rw [if_pos d, zl (show ai8 l from ⟨⟨by omega, by omega⟩, d⟩)]
  ·rw [if_neg d, zk (fun h : ai8 l => d h.2)]
theorem atY (l : List CvT) (y) (h : acM (l, ()) = some y) : (ajQ l).toO = some y := by
 unfold acM at h
 split at h
 case isFalse => cases h
 case isTrue hl =>
 obtain ⟨hl, hc⟩ := hl
 injection h with h
 subst h
 dsimp only at hl hc ⊢
 have hl' : l.length ≤ 1000000000000 := hl
 unfold ajQ
 refine uO (0, ()) rfl ?_
 refine (aa9 (n := l.length) (bad := (false, ())) (good := (decide (1 ≤ l.length ∧ l.length ≤ 4), ())) (fun k => decide (acK (l.getD k (0, [], [], ())))) (fun k hk hp => ?_) (fun k hk hp => ?_) ?_).trans ?_
 ·simp only [afH, aaI]
  refine uT sd (uN sd (uC _ (ao6 (hc _ (acB _ hk))) (uF (nF (of_decide_eq_true hp)) (uV (uB (uV (uV ?_)))))))
  rw [amU hk hl']; rfl
 ·simp only [afH, aaI]
  exact uT sd (uN sd (uC _ (ao6 (hc _ (acB _ hk))) (uT (nT (of_decide_eq_false hp)) rfl)))
 ·simp only [afH, aaI]
  refine uF sd ?_
  by_cases c : 1 ≤ l.length
  ·refine uT (zl (by rw [aaB]; omega)) ?_
   have e : decide (len l ≤ 4) = decide (1 ≤ l.length ∧ l.length ≤ 4) := afF (by rw [zC, aaB]; omega)
   rw [e]; rfl
  ·refine uF (zk (by rw [aaB]; omega)) ?_
   rw [zk (fun h : _ ∧ _ => c h.1)]; rfl
 ·rw [agA (adG l (0, [], [], ()) acK)]
  by_cases d : ∀ c ∈ l, acK c
  ·rw [if_pos d]
   have e : decide (1 ≤ l.length ∧ l.length ≤ 4) = decide (ai8 l) := afF (by rw [zC]; exact ⟨fun h => ⟨h, d⟩, fun h => h.1⟩)
   rw [e]
  ·rw [if_neg d, zk (fun h : ai8 l => d h.2)]
theorem awO (l : List Int) (y) (h : aeT (l, ()) = some y) : (alW l).toO = some y := by
 unfold aeT at h
 split at h
 case isFalse => cases h
 case isTrue hl =>
 injection h with h
 subst h
 dsimp only at hl ⊢
 have hl' : l.length ≤ 1000000000000 := hl
 unfold alW
 refine uO (0, ()) rfl ((aa9 (n := l.length) (bad := (false, ())) (good := (true, ())) (fun k => decide (aaS (l.getD k 0))) (fun k hk hp => ?_) (fun k hk hp => ?_) ?_).trans ?_)
 ·obtain ⟨a, b⟩ : aaS (l.getD k 0) := of_decide_eq_true hp
  simp only [ajP, aaI]
  refine uT sd (uN sd (uF sd (uN sd (uF sd (uV (uB (uV (uV ?_))))))))
  rw [amU hk hl']; rfl
 ·have hp : ¬ aaS (l.getD k 0) := of_decide_eq_false hp
  simp only [ajP, aaI]
  refine uT sd (uN sd ?_)
  by_cases a : l.getD k 0 < -1000000000
  ·exact uT (zl a) rfl
  ·exact uF (zk a) (uN sd (uT (zl (by unfold aaS inR at hp; omega)) rfl))
 ·exact uF sd rfl
 ·rw [agA (adG l 0 aaS)]
  by_cases d : ∀ c ∈ l, aaS c
  ·rw [if_pos d, zl d]
  ·rw [if_neg d, zk d]
theorem ayY (g : GrT) (y) (h : ah3 (g, ()) = some y) : (an0 g).toO = some y := by
 injection h with h
 subst h
 unfold an0
 by_cases c1 : g.1 = []
 case neg =>
  refine uF (beq_eq_false_iff_ne.2 (fun h => c1 ?_)) ?_
  ·rw [aaB] at h; exact yU.1 zc
  ·rw [zk (fun h : auE g => c1 h.1)]; rfl
 refine uT (zr.2 (by rw [aaB, c1]; rfl)) ?_
 by_cases c2 : g.2.1 = 0
 case neg =>
  refine uF (beq_eq_false_iff_ne.2 c2) ?_
  rw [zk (fun h : auE g => c2 h.2.1)]; rfl
 refine uT (zr.2 c2) ?_
 have e : (len g.2.2.1 == 0) = decide (auE g) := (afF (by
  rw [zr, aaB]
  exact ⟨fun h => by rw [h.2.2]; rfl, fun h => ⟨c1, c2, yU.1 zc⟩⟩)).symm
 rw [e]; rfl
theorem amS {l : List Int} (h : shL l) : aeT (l, ()) = some (decide (∀ n ∈ l, aaS n), ()) := if_pos h
theorem ak3 (n : Int) : anJ (n, ()) = some (!decide (aaS n), ()) := rfl
theorem aoN (rows : List (List Int)) (off : List Int) (y) (h : acJ (rows, off, ()) = some y) : (agD rows off).toO = some y := by
 unfold acJ at h
 split at h
 case isFalse => cases h
 case isTrue hl =>
 obtain ⟨⟨l1, l2⟩, l3⟩ := hl
 injection h with h
 subst h
 dsimp only at l1 l2 l3 ⊢
 have l1' : rows.length ≤ 1000000000000 := l1
 have l3' : off.length ≤ 1000000000000 := l3
 unfold agD
 have g0 : gi rows 0 [] = rows.getD 0 [] := aaI rows 0 []
 by_cases c1 : rows.length < 1
 ·refine uT (zl (by rw [aaB]; omega)) ?_
  rw [zk (fun h : ad1 rows off => by have := h.1.1; omega)]; rfl
 refine uF (zk (by rw [aaB]; omega)) ?_
 by_cases c2 : rows.length > 4
 ·refine uT (zl (by rw [aaB]; omega)) ?_
  rw [zk (fun h : ad1 rows off => by have := h.1.2; omega)]; rfl
 refine uF (zk (by rw [aaB]; omega)) ?_
 by_cases c3 : off.length = rows.length
 case neg =>
  refine uT (yf.2 (by rw [aaB, aaB]; omega)) ?_
  rw [zk (fun h : ad1 rows off => c3 h.2.1)]; rfl
 refine uF (bne_eq_false_iff_eq.2 (by rw [aaB, aaB]; omega)) (uN ⟨xj _, by rw [aaB]; omega⟩ ?_)
 by_cases c4 : (rows.getD 0 []).length < 1
 ·refine uT (zl (by rw [g0, aaB]; omega)) ?_
  rw [zk (fun h : ad1 rows off => by have := h.2.2.1.1; omega)]; rfl
 refine uF (zk (by rw [g0, aaB]; omega)) ?_
 by_cases c5 : (rows.getD 0 []).length > 4
 ·refine uT (zl (by rw [g0, aaB]; omega)) ?_
  rw [zk (fun h : ad1 rows off => by have := h.2.2.1.2; omega)]; rfl
 refine uF (zk (by rw [g0, aaB]; omega)) (uO (0, ()) rfl ?_)
 refine (aa9 (n := rows.length) (bad := (false, ())) (good := (decide (∀ n ∈ off, aaS n), ())) (fun k => decide ((rows.getD k []).length = (rows.getD 0 []).length ∧ ∀ n ∈ rows.getD k [], aaS n)) (fun k hk hp => ?_) (fun k hk hp => ?_) ?_).trans ?_
 ·obtain ⟨p1, p2⟩ : _ ∧ _ := of_decide_eq_true hp
  have lk : (rows.getD k []).length ≤ 1000000000000 := l2 _ (acB _ hk)
  simp only [adE, aaI, g0]
  refine uT sd (uN sd (uF (bne_eq_false_iff_eq.2 (by rw [aaB, aaB]; omega)) (uV (uV (uV (uV (uO (0, ()) rfl ?_)))))))
  refine (aa9 (n := (rows.getD k []).length) (bad := .inr (false, ())) (good := .inl (((k + 1 : Nat) : Int), ())) (fun j => decide (aaS ((rows.getD k []).getD j 0))) (fun j hj hq => ?_) (fun j hj hq => ?_) ?_).trans ?_
  ·simp only [abM, aaI]
   refine uT sd (uN sd (uC _ (ak3 _) (uF (nF (of_decide_eq_true hq)) (uV (uB (uV (uV ?_)))))))
   rw [amU hj lk]; rfl
  ·simp only [abM, aaI]
   exact uT sd (uN sd (uC _ (ak3 _) (uT (nT (of_decide_eq_false hq)) (uT sd rfl))))
  ·simp only [abM, aaI]
   refine uF sd (uV (uB (uV (uV ?_))))
   rw [amU hk l1']; rfl
  ·rw [agA (adG (rows.getD k []) 0 aaS), if_pos p2]
 ·have hp := of_decide_eq_false hp
  have lk : (rows.getD k []).length ≤ 1000000000000 := l2 _ (acB _ hk)
  simp only [adE, aaI, g0]
  by_cases p1 : (rows.getD k []).length = (rows.getD 0 []).length
  case neg => exact uT sd (uN sd (uT (yf.2 (by rw [aaB, aaB]; omega)) rfl))
  refine uT sd (uN sd (uF (bne_eq_false_iff_eq.2 (by rw [aaB, aaB]; omega)) (uV (uV (uV (uV (uO (0, ()) rfl ?_)))))))
  refine (aa9 (n := (rows.getD k []).length) (bad := .inr (false, ())) (good := .inl (((k + 1 : Nat) : Int), ())) (fun j => decide (aaS ((rows.getD k []).getD j 0))) (fun j hj hq => ?_) (fun j hj hq => ?_) ?_).trans ?_
  ·simp only [abM, aaI]
   refine uT sd (uN sd (uC _ (ak3 _) (uF (nF (of_decide_eq_true hq)) (uV (uB (uV (uV ?_)))))))
   rw [amU hj lk]; rfl
  ·simp only [abM, aaI]
   exact uT sd (uN sd (uC _ (ak3 _) (uT (nT (of_decide_eq_false hq)) (uT sd rfl))))
  ·simp only [abM, aaI]
   refine uF sd (uV (uB (uV (uV ?_))))
   rw [amU hk l1']; rfl
  ·rw [agA (adG (rows.getD k []) 0 aaS), if_neg (fun h => hp ⟨p1, h⟩)]
 ·simp only [adE, aaI, g0]
  refine uF sd (uV (uV (uV (uV (uO (0, ()) rfl ?_)))))
  refine (aa9 (n := off.length) (bad := .inr (false, ())) (good := .inr (true, ())) (fun j => decide (aaS (off.getD j 0))) (fun j hj hq => ?_) (fun j hj hq => ?_) ?_).trans ?_
  ·simp only [afB, aaI]
   refine uT sd (uN sd (uC _ (ak3 _) (uF (nF (of_decide_eq_true hq)) (uV (uB (uV (uV ?_)))))))
   rw [amU hj l3']; rfl
  ·simp only [afB, aaI]
   refine uT sd (uN sd (uC _ (ak3 _) (uT (nT (of_decide_eq_false hq)) ?_)))
   rw [zl (show ((j : Int) ≥ 0) by omega)]; rfl
  ·exact uF sd rfl
  ·rw [agA (adG off 0 aaS)]
   by_cases d : ∀ n ∈ off, aaS n
   ·rw [if_pos d, zl d]
   ·rw [if_neg d, zk d]
 ·rw [agA (adG rows [] (fun r => r.length = (rows.getD 0 []).length ∧ ∀ n ∈ r, aaS n))]
  by_cases d : ∀ r ∈ rows, r.length = (rows.getD 0 []).length ∧ ∀ n ∈ r, aaS n
  case neg => rw [if_neg d, zk (fun h : ad1 rows off => d h.2.2.2.1)]
  rw [if_pos d]
  have e : decide (∀ n ∈ off, aaS n) = decide (ad1 rows off) := afF (by rw [zC]; exact ⟨fun h => ⟨⟨by omega, by omega⟩, c3, ⟨by omega, by omega⟩, d, h⟩, fun h => h.2.2.2.2⟩)
  rw [e]
theorem ayW (x : ElT) (y) (h : aeU (x, ()) = some y) : (anZ x).toO = some y := by
 unfold aeU at h
 split at h
 case isFalse => cases h
 case isTrue hl =>
 obtain ⟨-, ⟨l1, l2⟩, l3, -⟩ := hl
 injection h with h
 subst h
 dsimp only at l1 l2 l3 ⊢
 have l1' : x.2.2.1.length ≤ 1000000000000 := l1
 obtain ⟨kind, cs, rows, off, gr, pg, ci, co, u⟩ := x
 dsimp only at l1 l2 l3 l1' ⊢
 unfold anZ
 dsimp only
 have g0 : gi rows 0 [] = rows.getD 0 [] := aaI rows 0 []
 by_cases c1 : rows.length < 1
 ·refine uT (zl (by rw [aaB]; omega)) ?_
  rw [zk (fun h : ad1 rows off => by have := h.1.1; omega)]; rfl
 refine uF (zk (by rw [aaB]; omega)) ?_
 by_cases c2 : rows.length > 4
 ·refine uT (zl (by rw [aaB]; omega)) ?_
  rw [zk (fun h : ad1 rows off => by have := h.1.2; omega)]; rfl
 refine uF (zk (by rw [aaB]; omega)) ?_
 by_cases c3 : off.length = rows.length
 case neg =>
  refine uT (yf.2 (by rw [aaB, aaB]; omega)) ?_
  rw [zk (fun h : ad1 rows off => c3 h.2.1)]; rfl
 refine uF (bne_eq_false_iff_eq.2 (by rw [aaB, aaB]; omega)) (uC _ (amS l3) ?_)
 by_cases c6 : ∀ n ∈ off, aaS n
 case neg =>
  refine uT (nT c6) ?_
  rw [zk (fun h : ad1 rows off => c6 h.2.2.2.2)]; rfl
 refine uF (nF c6) (uN ⟨xj _, by rw [aaB]; omega⟩ (uO (0, ()) rfl ?_))
 refine (aa9 (n := rows.length) (bad := (false, ())) (good := (decide (1 ≤ (rows.getD 0 []).length ∧ (rows.getD 0 []).length ≤ 4), ())) (fun k => decide ((rows.getD k []).length = (rows.getD 0 []).length ∧ ∀ n ∈ rows.getD k [], aaS n)) (fun k hk hp => ?_) (fun k hk hp => ?_) ?_).trans ?_
 ·obtain ⟨p1, p2⟩ : _ ∧ _ := of_decide_eq_true hp
  simp only [aiE, aaI, g0]
  refine uT sd (uN sd (uF (bne_eq_false_iff_eq.2 (by rw [aaB, aaB]; omega)) (uN sd (uC _ (amS (l2 _ (acB _ hk))) (uF (nF p2) (uV (uB (uV (uV ?_)))))))))
  rw [amU hk l1']; rfl
 ·have hp := of_decide_eq_false hp
  simp only [aiE, aaI, g0]
  by_cases p1 : (rows.getD k []).length = (rows.getD 0 []).length
  case neg => exact uT sd (uN sd (uT (yf.2 (by rw [aaB, aaB]; omega)) rfl))
  exact uT sd (uN sd (uF (bne_eq_false_iff_eq.2 (by rw [aaB, aaB]; omega)) (uN sd (uC _ (amS (l2 _ (acB _ hk))) (uT (nT (fun h => hp ⟨p1, h⟩)) rfl)))))
 ·simp only [aiE, aaI, g0]
  refine uF sd ?_
  by_cases c : 1 ≤ (rows.getD 0 []).length
  ·refine uT (zl (by rw [aaB]; omega)) ?_
   have e : decide (len (rows.getD 0 []) ≤ 4) = decide (1 ≤ (rows.getD 0 []).length ∧ (rows.getD 0 []).length ≤ 4) := afF (by rw [zC, aaB]; omega)
   rw [e]; rfl
  ·refine uF (zk (by rw [aaB]; omega)) ?_
   rw [zk (fun h : _ ∧ _ => c h.1)]; rfl
 ·rw [agA (adG rows [] (fun r => r.length = (rows.getD 0 []).length ∧ ∀ n ∈ r, aaS n))]
  by_cases d : ∀ r ∈ rows, r.length = (rows.getD 0 []).length ∧ ∀ n ∈ r, aaS n
  case neg => rw [if_neg d, zk (fun h : ad1 rows off => d h.2.2.2.1)]
  rw [if_pos d]
  have e : decide (1 ≤ (rows.getD 0 []).length ∧ (rows.getD 0 []).length ≤ 4) = decide (ad1 rows off) := afF (by rw [zC]; exact ⟨fun h => ⟨⟨by omega, by omega⟩, c3, h, d, c6⟩, fun h => h.2.2.1⟩)
  rw [e]
theorem aNH {α : Type} {l : List α} : (len l == 0) = true ↔ l = [] := by rw [zr, aaB]; exact ⟨fun h => yU.1 zc, fun h => by rw [h]; rfl⟩
theorem am6 {α : Type} {l : List α} : len l = 0 ↔ l = [] := by rw [aaB]; exact ⟨fun h => yU.1 zc, fun h => by rw [h]; rfl⟩
theorem atJ {l : List CvT} (h : shL l) : ac0 (l, ()) = some (decide (ai8 l), ()) := if_pos h
theorem atI {r : List (List Int)} {o : List Int} (h : (shL r ∧ ∀ x ∈ r, shL x) ∧ shL o) : acJ (r, o, ()) = some (decide (ad1 r o), ()) := if_pos h
theorem aIk {g : GrT} (h : shG g) : ah8 ((g.1, g.2.1, g.2.2.1, ()), ()) = some (if afY g then 0 else 100, ()) := if_pos h
theorem aFh {p : List OpT} (i o : Int) (h : shL p) : afU (p, i, o, ()) = some (if (aeC p i o).isSome then 0 else 120, ()) := if_pos h
theorem aAp (x : ElT) (y) (h : aeY (x, ()) = some y) : (aoQ x).toO = some y := by
 unfold aeY at h
 split at h
 case isFalse => cases h
 case isTrue hl =>
 obtain ⟨⟨a1, -⟩, a2, a3, a4, a5⟩ := hl
 injection h with h
 subst h
 dsimp only at a1 a2 a3 a4 a5 ⊢
 unfold aoQ aiS aiT aiU aiV
 simp only [atJ a1, atI ⟨a2, a3⟩, aIk a4, aFh _ _ a5, adZ, abQ, zr, am6, ite_self]
 have k1 : x.1 = 1 ∨ x.1 = 2 ∨ x.1 = 3 ∨ x.1 = 4 ∨ (x.1 ≠ 1 ∧ x.1 ≠ 2 ∧ x.1 ≠ 3 ∧ x.1 ≠ 4) := zc
 unfold abK aJu auE aJt
 rcases k1 with k | k | k | k | ⟨e1, e2, e3, e4⟩
 ·simp only [k, show ¬ (1 : Int) = 2 by decide, show ¬ (1 : Int) = 3 by decide, show ¬ (1 : Int) = 4 by decide, if_true, if_false, ite_self, true_and, false_and, or_false, false_or]
  repeat' split
  all_goals first
   | (simp_all; done)
   | (refine uC _ rfl ?_; simp_all [adZ, abQ])
 ·simp only [k, show ¬ (2 : Int) = 1 by decide, show ¬ (2 : Int) = 3 by decide, show ¬ (2 : Int) = 4 by decide, if_true, if_false, ite_self, true_and, false_and, or_false, false_or]
  repeat' split
  all_goals first
   | (simp_all; done)
   | (refine uC _ rfl ?_; simp_all [adZ, abQ])
 ·simp only [k, show ¬ (3 : Int) = 1 by decide, show ¬ (3 : Int) = 2 by decide, show ¬ (3 : Int) = 4 by decide, if_true, if_false, ite_self, true_and, false_and, or_false, false_or]
  repeat' split
  all_goals first
   | (simp_all; done)
   | (refine uC _ rfl ?_; simp_all [adZ, abQ])
 ·simp only [k, show ¬ (4 : Int) = 1 by decide, show ¬ (4 : Int) = 2 by decide, show ¬ (4 : Int) = 3 by decide, if_true, if_false, ite_self, true_and, false_and, or_false, false_or]
  repeat' split
  all_goals first
   | (simp_all; done)
   | (refine uC _ rfl ?_; simp_all [adZ, abQ])
 ·simp only [e1, e2, e3, e4, if_false, ite_self, false_and, or_false]
end Go.Vs
