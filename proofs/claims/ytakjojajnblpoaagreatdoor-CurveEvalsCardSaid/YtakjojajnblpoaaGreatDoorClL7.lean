/-
  Trees of what the functions compute, and their laws. Own work; no condition.
-/
import Derived.Test.YtakjojajnblpoaaGreatDoorClL6
import Derived.Test.YtakjojajnblpoaaGreatDoorProg
set_option linter.unusedVariables false
set_option linter.unusedSimpArgs false
namespace Go.Vs
open Go Go.Vg
theorem avV (q : Rat) : wrF q = aoY (abN q) := by
 unfold wrF abN
 by_cases c : ab6 q
 ·rw [if_pos c, if_pos c]; rfl
 ·rw [if_neg c, if_neg c]; rfl
theorem abD {q p : Rat} (h : abN q = some p) : ab6 p ∧ p = q := by
 unfold abN at h
 split at h
 ·injection h with h; subst h; exact ⟨by assumption, rfl⟩
 ·cases h
theorem aoR {p q : Rat} (h1 : ab6 p) (h2 : ab6 q) : adU (fx p, fx q, ()) = some (aoY (abN (p * q))) := by
 unfold adU aMa; dsimp only; rw [afD h1, afD h2, ← avV]
theorem awC {p q : Rat} (h1 : ab6 p) (h2 : ab6 q) : aeD (fx p, fx q, ()) = some (aoY (abN (p + q))) := by
 unfold aeD aMa; dsimp only; rw [afD h1, afD h2, ← avV]
theorem aJx {p q : Rat} (h1 : ab6 p) (h2 : ab6 q) : afA (fx p, fx q, ()) = some (aoY (abN (p - q))) := by
 unfold afA aMa; dsimp only; rw [afD h1, afD h2, ← avV]
theorem aDB {p q : Rat} (h1 : ab6 p) (h2 : ab6 q) (h3 : q ≠ 0) : aeT (fx p, fx q, ()) = some (aoY (abN (p / q))) := by
 unfold aeT; dsimp only; rw [afD h1, afD h2]; dsimp only; rw [if_neg h3, ← avV]
theorem akT {p q : Rat} (h1 : ab6 p) (h2 : ab6 q) : ahJ (fx p, fx q, ()) = some (aoY (abN (p * q))) := by
 unfold ahJ; rw [if_pos ⟨aoW h1, aoW h2⟩]; exact aoR h1 h2
theorem ar7 {p q : Rat} (h1 : ab6 p) (h2 : ab6 q) : ai9 (fx p, fx q, ()) = some (aoY (abN (p + q))) := by
 unfold ai9; rw [if_pos ⟨aoW h1, aoW h2⟩]; exact awC h1 h2
theorem aFY {p q : Rat} (h1 : ab6 p) (h2 : ab6 q) : aoC (fx p, fx q, ()) = some (aoY (abN (p - q))) := by
 unfold aoC; rw [if_pos ⟨aoW h1, aoW h2⟩]; exact aJx h1 h2
theorem azX {p q : Rat} (h1 : ab6 p) (h2 : ab6 q) (h3 : q ≠ 0) : alT (fx p, fx q, ()) = some (aoY (abN (p / q))) := by
 unfold alT; rw [if_pos ⟨aoW h1, aoW h2⟩]; exact aDB h1 h2 h3
theorem axX {n : Int} (h : n ≠ 0) : mkRat n 1 ≠ 0 := by
 rw [acS]; intro e; exact h (Rat.intCast_eq_zero_iff.1 e)
theorem ahB {n a b : Int} (h : inR n a b) (h1 : -9223372036854775808 ≤ a) (h2 : b ≤ 9223372036854775807) : abA n := ⟨by have := h.1; omega, by have := h.2; omega⟩
theorem aHW (p : PcT) (x : FxT) (y) (h : akR (p, x, ()) = some y) : (ayR p x).toO = some y := by
 obtain ⟨⟨p', q⟩, ⟨hq, hn⟩, hx, rfl⟩ := aaD h
 obtain ⟨rfl, hx2⟩ := Prod.mk.inj hx; obtain ⟨rfl, -⟩ := Prod.mk.inj hx2; dsimp only
 dsimp only at hq hn
 have im := ahB hn.1 zc zc
 have ia := ahB hn.2.1 zc zc
 have i6 : abA 1000000 := ⟨by omega, by omega⟩
 unfold ayR
 unfold atF
 refine uC _ (acH im) (uC _ (aoR (aa7 im) hq) ?_)
 cases h1 : abN (mkRat p.1.2.1 1 * q) with
 | none => exact uT rfl rfl
 | some u =>
  have hu := (abD h1).1
  refine uF rfl (uC _ (acH ia) (uC _ (awC hu (aa7 ia)) ?_))
  simp only [zO]
  cases h2 : abN (u + mkRat p.1.2.2.1 1) with
  | none => exact uT rfl rfl
  | some v =>
   have hv := (abD h2).1
   exact uF rfl (uC _ (acH i6) (uC _ (aDB hv (aa7 i6) (axX zc)) rfl))
theorem ac2 {n : Int} (hn : abA n) : adE (n, 1, ()) = some (fx (mkRat n 1), ()) := ap1 (d := 1) hn zc zc
theorem aGF (s : ad0) (x : FxT) (y) (h : azP (s, x, ()) = some y) : (awZ s x).toO = some y := by
 obtain ⟨⟨s', q⟩, ⟨hq, hn⟩, hx, rfl⟩ := aaD h
 obtain ⟨rfl, hx2⟩ := Prod.mk.inj hx; obtain ⟨rfl, -⟩ := Prod.mk.inj hx2; dsimp only
 dsimp only at hq hn
 have im := ahB hn.1 zc zc
 have ia := ahB hn.2.1 zc zc
 have i6 : abA 1000000 := ⟨by omega, by omega⟩
 unfold awZ
 unfold atF
 refine uC _ (ac2 im) (uC _ (akT (aa7 im) hq) ?_)
 cases h1 : abN (mkRat s.2.1 1 * q) with
 | none => exact uT rfl rfl
 | some u =>
  have hu := (abD h1).1
  refine uF rfl (uC _ (ac2 ia) (uC _ (ar7 hu (aa7 ia)) ?_))
  simp only [zO]
  cases h2 : abN (u + mkRat s.2.2.1 1) with
  | none => exact uT rfl rfl
  | some v =>
   have hv := (abD h2).1
   exact uF rfl (uC _ (ac2 i6) (uC _ (azX hv (aa7 i6) (axX zc)) rfl))
theorem aFk : ab6 0 := by have := aa7 (n := 0) ⟨by omega, by omega⟩; rwa [acS] at this
theorem aTO : mkRat 0 1 = (0 : Rat) := by rw [acS]; rfl
theorem aIM {u : Rat} (h : ab6 u) : ab6 (aGZ u) := by
 unfold aGZ; split
 ·exact aFk
 ·exact h
theorem af9 {n : Int} (h : abA n) : ab6 (mkRat n 1000000) := aeA zc (abK h) (abK ⟨by omega, by omega⟩)
theorem auL (u : Rat) : u.num.sign < 0 ↔ u < 0 := by
 have e : u < 0 ↔ u.num < 0 := by rw [← Rat.not_le, ← Rat.num_nonneg]; omega
 rw [e]
 constructor
 ·intro h
  rcases xj u.num 0 with g | g | g
  ·exact g
  ·rw [g] at h; exact absurd h zf
  ·rw [xq g] at h; omega
 ·intro h; rw [xd h]; omega
noncomputable def aRS (off : Int) (y : Rat) : Option Rat := (abN (y + mkRat off 1000000)).map aeY
theorem ao9 : ∀ (l : List ad0) (last : Int), agZ last l → last ≠ 1000000 → ∃ s ∈ l, s.1 = 1000000
 | [], _, h, hn => absurd h hn
 | s :: r, last, h, _ => by
  by_cases c : s.1 = 1000000
  ·exact ⟨s, yc .., c⟩
  ·obtain ⟨t, ht, e⟩ := ao9 r s.1 h.2 c
   exact ⟨t, zN _ ht, e⟩
theorem aN4 : mkRat 1000000 1000000 = (1 : Rat) := zf
theorem aCt {x : Rat} {l : List ad0} (h : ab9 l) (hx : x ≤ 1) : ae5 x l < l.length := by
 obtain ⟨s, hs, e⟩ := ao9 l 0 h.2.2 zc
 exact List.findIdx_lt_length_of_exists ⟨s, hs, zo (by rw [e, aN4]; exact hx)⟩
theorem aAL : ∀ (l : List ad0) (last : Int), 0 ≤ last → agZ last l → ∀ s ∈ l, ad6 s ∧ inR s.1 0 1000000
 | [], _, _, _, s, hs => by cases hs
 | t :: r, last, h0, h, s, hs => by
  have a := h.1.2.1
  rcases zy.1 hs with e | e
  ·subst e; exact ⟨h.1.1, by omega, h.1.2.2⟩
  ·exact aAL r t.1 zc h.2 s e
theorem atZ (c : CvT × Unit) (x : FxT) (j : Int × Int × Int × Int × Int × Int × Int × Bool × Unit) (y2 : FxT × Int × Unit) (u : Rat) (hu : ab6 u) (h1 : inR j.2.2.2.1 1 36) (io : abA j.2.2.2.2.2.1) :
  adG (fun i1 => (alI c x j y2 (fx u) i1).toO) (0, dec u.num, aa2 u.den, ()) = some (aoY ((acR u (j.2.2.2.1 - 1).toNat u).bind (aRS j.2.2.2.2.2.1))) := by
 obtain ⟨n, hn⟩ : ∃ n : Nat, j.2.2.2.1 - 1 = (n : Int) := zv (by have := h1.1; omega)
 have hn2 : n ≤ 35 := by have := h1.2; omega
 have hw : w64 (j.2.2.2.1 - 1) = (n : Int) := by rw [aaA zc]; exact hn
 rw [hn, zp]
 refine aaL (fun i : Int × List UInt8 × List UInt8 × Unit => ∃ (k : Nat) (q : Rat), k ≤ n ∧ i = ((k : Int), dec q.num, aa2 q.den, ()) ∧ ab6 q ∧ acR u n u = acR u (n - k) q) (fun i => ((n : Int) - i.1).toNat) (fun _ => aoY ((acR u n u).bind (aRS j.2.2.2.2.2.1))) ?_ _ ⟨0, u, by omega, rfl, hu, rfl⟩
 rintro i ⟨k, q, k1, rfl, hq, k2⟩
 simp only [alI, hw]
 rcases zr k n with hk | hk
 ·obtain ⟨m, hm⟩ : ∃ m, n - k = m + 1 := ⟨n - k - 1, by omega⟩
  rw [hm, show acR u (m + 1) q = (abN (q * u)).bind (acR u m) from rfl] at k2
  cases h2 : abN (q * u) with
  | none =>
   right
   rw [h2] at k2
   rw [k2]
   exact uT sd (uC _ (aoR hq hu) (by rw [h2]; exact uT rfl rfl))
  | some w =>
   left
   rw [h2] at k2
   refine ⟨(((k + 1 : Nat) : Int), dec w.num, aa2 w.den, ()), ?_, ⟨k + 1, w, by omega, rfl, (abD h2).1, ?_⟩, by dsimp only; omega, ze⟩
   ·refine uT sd (uC _ (aoR hq hu) ?_)
    rw [h2]
    refine uF rfl ?_
    rw [aaA (x := (k : Int) + 1) zc]
    rfl
   ·rw [k2, show n - (k + 1) = m by omega]; rfl
 ·right
  obtain rfl : k = n := zc
  rw [Nat.sub_self, show acR u 0 q = some q from rfl] at k2
  rw [k2]
  refine uF sd (uC _ (af2 (d := 1000000) io zc zc) (uC _ (awC hq (af9 io)) ?_))
  simp only [zO, aRS]
  cases h3 : abN (q + mkRat j.2.2.2.2.2.1 1000000) with
  | none => exact uT rfl rfl
  | some w => exact uF rfl (uC _ (aeM (abD h3).1) rfl)
theorem aAg (s : ad0) (x : FxT) (y) (h : ai8 (s, x, ()) = some y) : (amD s x).toO = some y := by
 obtain ⟨⟨s', q⟩, ⟨hq, hn⟩, hx, rfl⟩ := aaD h
 obtain ⟨rfl, hx2⟩ := Prod.mk.inj hx; obtain ⟨rfl, -⟩ := Prod.mk.inj hx2; dsimp only
 dsimp only at hq hn
 have io := ahB hn.2.2.1 zc zc
 have h1 := hn.2.2.2.1
 have i0 : abA 0 := ⟨by omega, by omega⟩
 unfold amD aCO
 refine uC _ (aaG (enc := fun p : ad0 × Rat => (p.1, fx p.2, ())) (s, q) ⟨hq, hn⟩ (fun b hb => by
  obtain ⟨e1, e2⟩ := Prod.mk.inj hb
  obtain ⟨e2, -⟩ := Prod.mk.inj e2
  exact Prod.ext e1 (af3 e2))) ?_
 dsimp only
 cases hl : atF s.2.1 s.2.2.1 q with
 | none => exact uT rfl rfl
 | some u =>
  have hu : ab6 u := by
   unfold atF at hl
   cases g1 : abN (mkRat s.2.1 1 * q) with
   | none => rw [g1] at hl; cases hl
   | some w =>
    rw [g1] at hl; simp only [zO] at hl
    cases g2 : abN (w + mkRat s.2.2.1 1) with
    | none => rw [g2] at hl; cases hl
    | some v => rw [g2] at hl; exact (abD hl).1
  refine uF rfl ?_
  have hp := aIM hu
  have hless : aiH (fx u, fx (mkRat 0 1), ()) = some (decide (u < mkRat 0 1), ()) := aaG (enc := fun p : Rat × Rat => (fx p.1, fx p.2, ())) (u, mkRat 0 1) ⟨hu, aa7 i0⟩ (fun b hb => by
   obtain ⟨e1, e2⟩ := Prod.mk.inj hb
   obtain ⟨e2, -⟩ := Prod.mk.inj e2
   exact Prod.ext (af3 e1) (af3 e2))
  refine uL (fx (aGZ u)) ?_ ?_
  ·refine uC _ (ac2 i0) (uC _ hless ?_)
   unfold aGZ
   by_cases c : u < 0
   ·rw [if_pos c]
    exact uT (zo (by rw [aTO]; exact c)) (uC _ (ac2 i0) (by rw [aTO]; rfl))
   ·rw [if_neg c]
    exact uF (zn (by rw [aTO]; exact c)) rfl
  ·simp only [zO]
   generalize aGZ u = u at hp ⊢
   unfold aqD
   obtain ⟨n, hn'⟩ : ∃ n : Nat, s.2.2.2.1 - 1 = (n : Int) := zv (by have := h1.1; omega)
   have hn2 : n ≤ 35 := by have := h1.2; omega
   have hs : s.2.2.2.1 = (n : Int) + 1 := zc
   rw [hn', zp]
   refine uO (1, dec u.num, aa2 u.den, ()) rfl ?_
   refine aaL (fun i : Int × List UInt8 × List UInt8 × Unit => ∃ (k : Nat) (q : Rat), k ≤ n ∧ i = ((k : Int) + 1, dec q.num, aa2 q.den, ()) ∧ ab6 q ∧ acR u n u = acR u (n - k) q) (fun i => ((n : Int) + 1 - i.1).toNat) (fun _ => aoY ((acR u n u).bind (aRS s.2.2.2.2.2.1))) ?_ _ ⟨0, u, by omega, rfl, hp, rfl⟩
   rintro i ⟨k, q, k1, rfl, hq, k2⟩
   simp only [aqC, hs]
   rcases zr k n with hk | hk
   ·obtain ⟨m, hm⟩ : ∃ m, n - k = m + 1 := ⟨n - k - 1, by omega⟩
    rw [hm, show acR u (m + 1) q = (abN (q * u)).bind (acR u m) from rfl] at k2
    cases h2 : abN (q * u) with
    | none =>
     right
     rw [h2] at k2
     rw [k2]
     exact uT sd (uC _ (akT hq hp) (by rw [h2]; exact uT rfl rfl))
    | some w =>
     left
     rw [h2] at k2
     refine ⟨(((k + 1 : Nat) : Int) + 1, dec w.num, aa2 w.den, ()), ?_, ⟨k + 1, w, by omega, rfl, (abD h2).1, ?_⟩, by dsimp only; omega, ze⟩
     ·refine uT sd (uC _ (akT hq hp) ?_)
      rw [h2]
      refine uF rfl ?_
      rw [aaA (x := (k : Int) + 1 + 1) zc]
      rfl
     ·rw [k2, show n - (k + 1) = m by omega]; rfl
   ·right
    obtain rfl : k = n := zc
    rw [Nat.sub_self, show acR u 0 q = some q from rfl] at k2
    rw [k2]
    refine uF sd (uC _ (ap1 (d := 1000000) io zc zc) (uC _ (ar7 hq (af9 io)) ?_))
    simp only [zO, aRS]
    cases h3 : abN (q + mkRat s.2.2.2.2.2.1 1000000) with
    | none => exact uT rfl rfl
    | some w => exact uF rfl (uC _ (aeM (abD h3).1) rfl)
theorem atJ {l : List ad0} {k : Nat} (hk : k < l.length) : l.getD k zs = l[k] := by simp [hk]
theorem aIO {x : Rat} {l : List ad0} {k : Nat} (hk : k < l.length) (h1 : x ≤ mkRat (l.getD k zs).1 1000000) (h2 : ∀ j, j < k → ¬ x ≤ mkRat (l.getD j zs).1 1000000) : ae5 x l = k := by
 unfold ae5
 refine (List.findIdx_eq hk).2 ⟨?_, fun j hj => ?_⟩
 ·rw [atJ hk] at h1
  exact zo h1
 ·have := h2 j hj
  rw [atJ (show j < l.length by omega)] at this
  exact zn this
theorem aIN {x : Rat} {l : List ad0} {k : Nat} (h2 : ∀ j, j < k → ¬ x ≤ mkRat (l.getD j zs).1 1000000) (hp : ae5 x l < l.length) : k ≤ ae5 x l := by
 rcases zr (ae5 x l) k with h | h
 ·refine absurd ?_ (h2 _ h)
  have := List.findIdx_getElem (p := fun s : ad0 => decide (x ≤ mkRat s.1 1000000)) (xs := l) (w := hp)
  rw [atJ hp]
  exact of_decide_eq_true this
 ·exact h
theorem asM {l : List ad0} (h : ab9 l) {k : Nat} (hk : k < l.length) : ad6 (l.getD k zs) ∧ inR (l.getD k zs).1 0 1000000 := by
 refine aAL l 0 zc h.2.2 _ ?_
 rw [atJ hk]
 exact yf hk
theorem ar6 {p q : Rat} (h1 : ab6 p) (h2 : ab6 q) : aiH (fx p, fx q, ()) = some (decide (p < q), ()) := aaG (enc := fun p : Rat × Rat => (fx p.1, fx p.2, ())) (p, q) ⟨h1, h2⟩ (fun b hb => by
 obtain ⟨e1, e2⟩ := Prod.mk.inj hb
 obtain ⟨e2, -⟩ := Prod.mk.inj e2
 exact Prod.ext (af3 e1) (af3 e2))
theorem aGB (c : CvT) (x : FxT) (y) (h : arO (c, x, ()) = some y) : (awW c x).toO = some y := by
 obtain ⟨⟨c', q⟩, ⟨hq, hx1, hl⟩, hx, rfl⟩ := aaD h
 obtain ⟨rfl, hx2⟩ := Prod.mk.inj hx; obtain ⟨rfl, -⟩ := Prod.mk.inj hx2; dsimp only
 dsimp only at hq hx1 hl
 have hlen := hl.2.1
 have hp := aCt hl hx1
 unfold awW
 refine uO (0, ()) rfl ?_
 refine aaL (fun i : Int × Unit => ∃ k : Nat, k ≤ c.2.2.1.length ∧ i = ((k : Int), ()) ∧ ∀ j, j < k → ¬ q ≤ mkRat (c.2.2.1.getD j zs).1 1000000) (fun i => ((c.2.2.1.length : Int) - i.1).toNat) (fun _ => ((ae5 q c.2.2.1 : Int), ())) ?_ _ ⟨0, by omega, rfl, fun j hj => by omega⟩
 rintro i ⟨k, h3, rfl, h4⟩
 simp only [aAQ, aaM]
 have hk := aIN h4 hp
 have hk' : k < c.2.2.1.length := zc
 have hi := ahB (asM hl hk').2 zc zc
 by_cases g : q ≤ mkRat (c.2.2.1.getD k zs).1 1000000
 ·right
  rw [aIO hk' g h4]
  exact uT sd (uN sd (uC _ (ap1 (d := 1000000) hi zc zc) (uC _ (ar6 (af9 hi) hq) (uT (by rw [zn (vl.2 g)]; rfl) rfl))))
 ·left
  refine ⟨(((k + 1 : Nat) : Int), ()), ?_, ⟨k + 1, by omega, rfl, fun j hj => ?_⟩, by dsimp only; omega, ze⟩
  ·refine uT sd (uN sd (uC _ (ap1 (d := 1000000) hi zc zc) (uC _ (ar6 (af9 hi) hq) (uF (by rw [zo (Rat.not_le.1 g)]; rfl) ?_))))
   rw [aaA (x := (k : Int) + 1) zc]; rfl
  ·rcases zr j k with g2 | g2
   ·exact h4 j g2
   ·obtain rfl : j = k := zc
    exact g
theorem az3 {p : PcT} {q : Rat} (h1 : ab6 q) (h2 : ad6 p.1) : akR (p, fx q, ()) = some (aoY (atF p.1.2.1 p.1.2.2.1 q)) := aaG (enc := fun p : PcT × Rat => (p.1, fx p.2, ())) (p, q) ⟨h1, h2⟩ (fun b hb => by
 obtain ⟨e1, e2⟩ := Prod.mk.inj hb
 obtain ⟨e2, -⟩ := Prod.mk.inj e2
 exact Prod.ext e1 (af3 e2))
theorem aN7 {m a : Int} {x u : Rat} (hl : atF m a x = some u) : ab6 u := by
 unfold atF at hl
 cases g1 : abN (mkRat m 1 * x) with
 | none => rw [g1] at hl; cases hl
 | some w =>
  rw [g1] at hl; simp only [zO] at hl
  cases g2 : abN (w + mkRat a 1) with
  | none => rw [g2] at hl; cases hl
  | some v => rw [g2] at hl; exact (abD hl).1
theorem aNl (p q : Rat) : avL p q ≤ 0 ↔ p ≤ q := by
 have := anR p q
 constructor
 ·intro h; exact vl.1 (fun g => by have := this.2 g; omega)
 ·intro h
  rcases zS 0 (avL p q) with g | g
  ·exact absurd (this.1 g) (vl.2 h)
  ·exact g
theorem aAu (c : CvT × Unit) (x : FxT) (y) (h : ajD (c, x, ()) = some y) : (amW c x).toO = some y := by
 obtain ⟨⟨c', q⟩, ⟨hq, hx1, hl⟩, hx, rfl⟩ := aaD h
 obtain ⟨rfl, hx2⟩ := Prod.mk.inj hx; obtain ⟨rfl, -⟩ := Prod.mk.inj hx2; dsimp only
 dsimp only at hq hx1 hl
 have hlen := hl.2.1
 have hp := aCt hl hx1
 obtain ⟨kind, tab, l, u0⟩ := c'
 dsimp only at hl hlen hp
 unfold amW
 dsimp only
 have hsg := asM hl hp
 refine uL ((l.getD (ae5 q l) zs).1, (l.getD (ae5 q l) zs).2.1, (l.getD (ae5 q l) zs).2.2.1, (l.getD (ae5 q l) zs).2.2.2.1, (l.getD (ae5 q l) zs).2.2.2.2.1, (l.getD (ae5 q l) zs).2.2.2.2.2.1, acK l (ae5 q l), (ae5 q l : Int) == 0, ()) ?_ ?_
 ·refine uO (0, 0, 0, 0, 0, 0, 0, 0, 0, false, ()) rfl ?_
  refine aaL (fun i : Int × Int × Int × Int × Int × Int × Int × Int × Int × Bool × Unit => ∃ k : Nat, k ≤ l.length ∧ i.1 = (k : Int) ∧ i.2.1 = acK l k ∧ ∀ j, j < k → ¬ q ≤ mkRat (l.getD j zs).1 1000000) (fun i => ((l.length : Int) - i.1).toNat) (fun _ => Sum.inl ((l.getD (ae5 q l) zs).1, (l.getD (ae5 q l) zs).2.1, (l.getD (ae5 q l) zs).2.2.1, (l.getD (ae5 q l) zs).2.2.2.1, (l.getD (ae5 q l) zs).2.2.2.2.1, (l.getD (ae5 q l) zs).2.2.2.2.2.1, acK l (ae5 q l), (ae5 q l : Int) == 0, ())) ?_ _ ⟨0, by omega, rfl, rfl, fun j hj => by omega⟩
  rintro ⟨i, last, r⟩ ⟨k, h3, h5, h6, h4⟩
  dsimp only at h5 h6
  subst h5
  simp only [arE, aaM]
  have hk := aIN h4 hp
  have hk' : k < l.length := zc
  have hi := ahB (asM hl hk').2 zc zc
  by_cases g : q ≤ mkRat (l.getD k zs).1 1000000
  ·right
   rw [aIO hk' g h4, ← h6]
   exact uT sd (uN sd (uC _ (af2 (d := 1000000) hi zc zc) (uC _ (aDC hq (af9 hi)) (uT (zo ((aNl _ _).2 g)) rfl))))
  ·left
   refine ⟨(((k + 1 : Nat) : Int), (l.getD k zs).1, (l.getD k zs).1, (l.getD k zs).2.1, (l.getD k zs).2.2.1, (l.getD k zs).2.2.2.1, (l.getD k zs).2.2.2.2.1, (l.getD k zs).2.2.2.2.2.1, last, (k : Int) == 0, ()), ?_, ⟨k + 1, by omega, rfl, ?_, fun j hj => ?_⟩, by dsimp only; omega, ze⟩
   ·refine uT sd (uN sd (uC _ (af2 (d := 1000000) hi zc zc) (uC _ (aDC hq (af9 hi)) (uF (zn (fun h => g ((aNl _ _).1 h))) ?_))))
    rw [aaA (x := (k : Int) + 1) zc]; rfl
   ·unfold acK; rw [if_neg zc, xx]
   ·rcases zr j k with g2 | g2
    ·exact h4 j g2
    ·obtain rfl : j = k := zc
     exact g
 ·unfold ax3
  generalize l.getD (ae5 q l) zs = s at hsg ⊢
  obtain ⟨hn, hr⟩ := hsg
  have io := ahB hn.2.2.1 zc zc
  unfold arD
  dsimp only
  by_cases hd : s.2.2.2.2.1 = 1
  ·rw [if_pos hd]
   refine uF (by rw [hd]; rfl) (uC _ (az3 hq hn) ?_)
   dsimp only
   unfold aCO
   cases hl : atF s.2.1 s.2.2.1 q with
   | none => exact uT rfl rfl
   | some u =>
    have hu := aN7 hl
    refine uF rfl ?_
    have hp := aIM hu
    refine uL (fx (aGZ u)) ?_ ?_
    ·refine uC (u.num.sign, 0, ()) (by unfold ar1; dsimp only [aoY]; rw [afD hu]) ?_
     unfold aGZ
     by_cases c : u < 0
     ·rw [if_pos c]
      exact uT (zo ((auL u).2 c)) (uC _ (acH ⟨by omega, by omega⟩) (by rw [aTO]; rfl))
     ·rw [if_neg c]
      exact uF (zn (fun h => c ((auL u).1 h))) rfl
    ·simp only [zO]
     unfold arC
     exact uO (0, dec (aGZ u).num, aa2 (aGZ u).den, ()) rfl (atZ _ _ _ _ _ hp hn.2.2.2.1 io)
  ·rw [if_neg hd]
   exact uT (by simpa using hd) rfl
theorem aBD {q : Rat} (h : ab6 q) : ab6 (aeY q) := by
 have e1 : mkRat 1 1 = (1 : Rat) := by rw [acS]; rfl
 unfold aeY
 split
 ·exact aFk
 ·split
  ·rw [← e1]; exact aa7 ⟨by omega, by omega⟩
  ·exact h
theorem aFC (q : Rat) : aeY q ≤ 1 := by
 unfold aeY
 split
 ·decide
 ·split
  ·exact Rat.le_refl
  ·rename_i h; exact vl.1 h
theorem arA (q : Rat) : 0 ≤ aeY q := by
 unfold aeY
 split
 ·exact Rat.le_refl
 ·split
  ·decide
  ·rename_i h _; exact vl.1 h
theorem aHS {p q : CvT × Rat} (hb : ((p.1, ()), fx p.2, ()) = ((q.1, ()), fx q.2, ())) : p = q := by
 obtain ⟨e1, e2⟩ := Prod.mk.inj hb
 obtain ⟨e2, -⟩ := Prod.mk.inj e2
 exact Prod.ext (Prod.mk.inj e1).1 (af3 e2)
theorem aF5 {c : CvT} {q : Rat} (h1 : ab6 q) (h2 : q ≤ 1) (h3 : ab9 c.2.2.1) : ajD ((c, ()), fx q, ()) = some (ax3 c.2.2.1 q) := aaG (enc := fun p : CvT × Rat => ((p.1, ()), fx p.2, ())) (c, q) ⟨h1, h2, h3⟩ (fun b hb => aHS hb)
theorem aBW {c : CvT} {q : Rat} (h1 : ab6 q) (h0 : 0 ≤ q) (h2 : q ≤ 1) (h3 : adM c.2.1) : agK ((c, ()), fx q, ()) = some (aoY (aL8 c.2.1 q)) := aaG (enc := fun p : CvT × Rat => ((p.1, ()), fx p.2, ())) (c, q) ⟨h1, h0, h2, h3⟩ (fun b hb => aHS hb)
theorem aDE {c : CvT} {q : Rat} (h1 : ab6 q) : ahL ((c, ()), fx q, ()) = some (fx q, 0, ()) := aaG (enc := fun p : CvT × Rat => ((p.1, ()), fx p.2, ())) (c, q) h1 (fun b hb => aHS hb)
theorem ay2 (c : CvT × Unit) (x : FxT) (y) (h : ahL (c, x, ()) = some y) : (arB c x).toO = some y := by
 obtain ⟨⟨c', q⟩, hq, hx, rfl⟩ := aaD h
 obtain ⟨rfl, hx2⟩ := Prod.mk.inj hx; obtain ⟨rfl, -⟩ := Prod.mk.inj hx2; dsimp only
 rfl
theorem aLz (c : CvT) (x : FxT) (y) (h : ab8 (c, x, ()) = some y) : (aDn c x).toO = some y := by
 injection h with h
 subst h
 obtain ⟨kind, tab, l, u0⟩ := c
 unfold aDn
 dsimp only
 refine uC _ (az4 (kind, tab, l, ())) ?_
 by_cases hr : abW (kind, tab, l, ())
 case neg =>
  have hr' : ¬ abW (kind, tab, l, u0) := hr
  rw [if_neg hr', if_neg hr]
  exact uT rfl rfl
 have hr' : abW (kind, tab, l, u0) := hr
 rw [if_pos hr', if_pos hr]
 refine uF rfl (uC (if (rdF x).isSome then 0 else 20, ()) rfl ?_)
 cases hx : rdF x with
 | none => exact uT rfl rfl
 | some q =>
  obtain ⟨hq, rfl⟩ := ac0 hx
  refine uF rfl ?_
  have hc := aBD hq
  have hl := aFC q
  have h0 := arA q
  unfold aC4
  dsimp only
  rcases hr with ⟨k1, k2, k3⟩ | ⟨k1, k2, k3⟩ | ⟨k1, k2, k3⟩
  ·dsimp only at k1; subst k1
   refine uN ⟨by decide, by decide⟩ (uF rfl (uF rfl (uT rfl (uC _ (aeM hq) (uC _ (aDE hc) ?_)))))
   rfl
  ·dsimp only at k1; subst k1
   refine uN ⟨by decide, by decide⟩ (uF rfl (uT rfl (uC _ (aeM hq) (uC _ (aBW (c := (2, tab, l, ())) hc h0 hl k2) ?_))))
   rfl
  ·dsimp only at k1; subst k1
   refine uN ⟨by decide, by decide⟩ (uT rfl (uC _ (aeM hq) (uC _ (aF5 (c := (3, tab, l, ())) hc hl k3) ?_)))
   rfl
theorem aPH {c : CvT} {q : Rat} (h1 : ab6 q) (h2 : q ≤ 1) (h3 : ab9 c.2.2.1) : arO (c, fx q, ()) = some ((ae5 q c.2.2.1 : Int), ()) := aaG (enc := fun p : CvT × Rat => (p.1, fx p.2, ())) (c, q) ⟨h1, h2, h3⟩ (fun b hb => by
 obtain ⟨e1, e2⟩ := Prod.mk.inj hb
 obtain ⟨e2, -⟩ := Prod.mk.inj e2
 exact Prod.ext e1 (af3 e2))
theorem aFX {s : ad0} {q : Rat} (h1 : ab6 q) (h2 : ad6 s) : ai8 (s, fx q, ()) = some (aoY (aCO s q)) := aaG (enc := fun p : ad0 × Rat => (p.1, fx p.2, ())) (s, q) ⟨h1, h2⟩ (fun b hb => by
 obtain ⟨e1, e2⟩ := Prod.mk.inj hb
 obtain ⟨e2, -⟩ := Prod.mk.inj e2
 exact Prod.ext e1 (af3 e2))
theorem aLU {l : List Int} {q : Rat} (h1 : ab6 q) (h0 : 0 ≤ q) (h2 : q ≤ 1) (h3 : adM l) : aoA (l, fx q, ()) = some (aoY (aL8 l q)) := aaG (enc := fun p : List Int × Rat => (p.1, fx p.2, ())) (l, q) ⟨h1, h0, h2, h3⟩ (fun b hb => by
 obtain ⟨e1, e2⟩ := Prod.mk.inj hb
 obtain ⟨e2, -⟩ := Prod.mk.inj e2
 exact Prod.ext e1 (af3 e2))
theorem aGG (c : CvT) (x : FxT) (y) (h : akE (c, x, ()) = some y) : (aw2 c x).toO = some y := by
 unfold akE at h
 split at h
 case isFalse => cases h
 case isTrue hp =>
 obtain ⟨hs1, hs2⟩ := hp
 injection h with h
 subst h
 obtain ⟨kind, tab, l, u0⟩ := c
 dsimp only at hs1 hs2
 unfold aw2
 dsimp only
 refine uC _ (aLV (c := (kind, tab, l, ())) hs1) ?_
 by_cases hr : abW (kind, tab, l, ())
 case neg =>
  have hr' : ¬ abW (kind, tab, l, u0) := hr
  rw [if_neg hr']
  exact uT (by rw [zn hr]; rfl) rfl
 have hr' : abW (kind, tab, l, u0) := hr
 rw [if_pos hr']
 refine uF (by rw [zo hr]; rfl) (uC (if (rdF x).isSome then 0 else 20, ()) (by unfold akG; rw [if_pos hs2]; rfl) ?_)
 cases hx : rdF x with
 | none => exact uT rfl rfl
 | some q =>
  obtain ⟨hq, rfl⟩ := ac0 hx
  refine uF rfl (uC _ (aeM hq) ?_)
  have hc := aBD hq
  have hl := aFC q
  have h0 := arA q
  unfold aC4
  dsimp only
  rcases hr with ⟨k1, k2, k3⟩ | ⟨k1, k2, k3⟩ | ⟨k1, k2, k3⟩
  ·dsimp only at k1; subst k1
   exact uT rfl rfl
  ·dsimp only at k1; subst k1
   exact uF rfl (uT rfl (uC _ (aLU hc h0 hl k2) rfl))
  ·dsimp only at k1; subst k1
   dsimp only at k3
   have hpn := aCt k3 hl
   have hlen := k3.2.1
   refine uF rfl (uF rfl (uC _ (aPH (c := (3, tab, l, ())) hc hl k3) (uN ⟨by exact sn, by exact sn⟩ ?_)))
   dsimp only
   simp only [aaM]
   have hsg := (asM k3 hpn).1
   unfold ax3
   have e32 : ¬ (3 : Int) = 1 := zf
   have e33 : ¬ (3 : Int) = 2 := zf
   rw [if_neg e32, if_neg e33]
   by_cases hd : (l.getD (ae5 (aeY q) l) zs).2.2.2.2.1 = 1
   ·rw [if_pos hd]
    exact uF (by rw [hd]; rfl) (uC _ (aFX hc hsg) rfl)
   ·rw [if_neg hd]
    exact uT (by simpa using hd) rfl
theorem ahT {l : List Int} (h : adM l) {k : Nat} (hk : k < l.length) : inR (l.getD k 0) 0 65535 := by
 refine h.2.2 _ ?_
 have : l.getD k 0 = l[k] := by simp [hk]
 rw [this]
 exact yf hk
theorem aD5 (l : List Int) (x : FxT) (y) (h : aoA (l, x, ()) = some y) : (asP l x).toO = some y := by
 obtain ⟨⟨l', q⟩, ⟨hq, h0, h1, ht⟩, hx, rfl⟩ := aaD h
 obtain ⟨rfl, hx2⟩ := Prod.mk.inj hx; obtain ⟨rfl, -⟩ := Prod.mk.inj hx2; dsimp only
 dsimp only at hq h0 h1 ht
 have hl1 := ht.1
 have hl2 := ht.2.1
 have w1 : w64 (len l - 1) = ((l.length - 1 : Nat) : Int) := by rw [aaC, aaA zc]; omega
 have w2 : w64 (len l - 2) = ((l.length - 2 : Nat) : Int) := by rw [aaC, aaA zc]; omega
 have in1 : abA ((l.length - 1 : Nat) : Int) := ⟨by omega, by omega⟩
 have i6 : abA 65535 := ⟨by omega, by omega⟩
 unfold asP aL8
 rw [w1]
 refine uC _ (ac2 in1) (uC _ (akT hq (aa7 in1)) ?_)
 cases hs : abN (q * mkRat ((l.length - 1 : Nat) : Int) 1) with
 | none => exact uT rfl rfl
 | some p =>
 obtain ⟨hp, e⟩ := abD hs
 have hp0 : 0 ≤ p := by
  rw [e, acS]
  refine Rat.mul_nonneg h0 ?_
  have := wD.2 (show (0 : Int) ≤ ((l.length - 1 : Nat) : Int) by omega)
  exact this
 clear e hs
 simp only [zO]
 have hf0 : 0 ≤ p.floor := Rat.le_floor_iff.2 hp0
 refine uF rfl (uO (0, ()) rfl ?_)
 refine aaL (fun i : Int × Unit => ∃ k : Nat, k ≤ l.length - 2 ∧ i = ((k : Int), ()) ∧ (k : Int) ≤ p.floor) (fun i => ((l.length : Int) - i.1).toNat) (fun _ => _) ?_ _ ⟨0, by omega, rfl, by omega⟩
 rintro i ⟨k, k1, rfl, k2⟩
 simp only [awV, ajJ, w2]
 have ik : abA (k : Int) := ⟨by omega, by omega⟩
 have ik1 : abA (((k + 1 : Nat) : Int)) := ⟨by omega, by omega⟩
 have wk : w64 ((k : Int) + 1) = ((k + 1 : Nat) : Int) := by rw [aaA zc]; omega
 have hless : (decide (p < mkRat ((k + 1 : Nat) : Int) 1)) = decide (p.floor < ((k + 1 : Nat) : Int)) := by rw [acS]; exact decide_eq_decide.2 Rat.floor_lt_iff.symm
 have bv := ahT ht (show k < l.length by omega)
 have bv1 := ahT ht (show k + 1 < l.length by omega)
 have iv := ahB bv zc zc
 have id : abA (l.getD (k + 1) 0 - l.getD k 0) := ⟨by have := bv.1; have := bv.2; have := bv1.1; have := bv1.2; omega, by have := bv.1; have := bv.2; have := bv1.1; have := bv1.2; omega⟩
 have wd : w64 (gi l ((k + 1 : Nat) : Int) 0 - gi l (k : Int) 0) = l.getD (k + 1) 0 - l.getD k 0 := by
  rw [aaM, aaM, aaA (by have := bv.1; have := bv.2; have := bv1.1; have := bv1.2; omega)]
 rw [wk, wd, aaM]
 by_cases c : k < l.length - 2
 ·by_cases d : p.floor < ((k + 1 : Nat) : Int)
  ·right
   have hpl : ag0 l p = k := by unfold ag0; omega
   rw [hpl]
   refine uT sd (uC _ (ac2 ik1) (uC _ (ar6 hp (aa7 ik1)) (uF (by rw [hless, zo d]; rfl) ?_)))
   refine uC _ (ac2 ik) (uC _ (aFY hp (aa7 ik)) ?_)
   cases g1 : abN (p - mkRat (k : Int) 1) with
   | none => exact uT rfl rfl
   | some r =>
    have hr := (abD g1).1
    simp only [zO]
    refine uF rfl (uN ⟨by exact sn, by exact sn⟩ (uN ⟨by exact sn, by exact sn⟩ (uC _ (ac2 id) (uC _ (akT hr (aa7 id)) ?_))))
    cases g2 : abN (r * mkRat (l.getD (k + 1) 0 - l.getD k 0) 1) with
    | none => exact uT rfl rfl
    | some t =>
     have ht' := (abD g2).1
     simp only [zO]
     refine uF rfl (uN ⟨by exact sn, by exact sn⟩ (uC _ (ac2 iv) (uC _ (ar7 (aa7 iv) ht') ?_)))
     cases g3 : abN (mkRat (l.getD k 0) 1 + t) with
     | none => exact uT rfl rfl
     | some y =>
      have hy := (abD g3).1
      exact uF rfl (uC _ (ac2 i6) (uC _ (azX hy (aa7 i6) (axX zc)) rfl))
  ·left
   refine ⟨(((k + 1 : Nat) : Int), ()), ?_, ⟨k + 1, by omega, rfl, by omega⟩, by dsimp only; omega, ze⟩
   exact uT sd (uC _ (ac2 ik1) (uC _ (ar6 hp (aa7 ik1)) (uT (by rw [hless, zn d]; rfl) rfl)))
 ·right
  have hpl : ag0 l p = k := by unfold ag0; omega
  rw [hpl]
  refine uF sd ?_
  refine uC _ (ac2 ik) (uC _ (aFY hp (aa7 ik)) ?_)
  cases g1 : abN (p - mkRat (k : Int) 1) with
  | none => exact uT rfl rfl
  | some r =>
   have hr := (abD g1).1
   simp only [zO]
   refine uF rfl (uN ⟨by exact sn, by exact sn⟩ (uN ⟨by exact sn, by exact sn⟩ (uC _ (ac2 id) (uC _ (akT hr (aa7 id)) ?_))))
   cases g2 : abN (r * mkRat (l.getD (k + 1) 0 - l.getD k 0) 1) with
   | none => exact uT rfl rfl
   | some t =>
    have ht' := (abD g2).1
    simp only [zO]
    refine uF rfl (uN ⟨by exact sn, by exact sn⟩ (uC _ (ac2 iv) (uC _ (ar7 (aa7 iv) ht') ?_)))
    cases g3 : abN (mkRat (l.getD k 0) 1 + t) with
    | none => exact uT rfl rfl
    | some y =>
     have hy := (abD g3).1
     exact uF rfl (uC _ (ac2 i6) (uC _ (azX hy (aa7 i6) (axX zc)) rfl))
set_option maxRecDepth 100000
open Go Go.Vg Go.Proofs
noncomputable section
def aRr : LTab := [(120, 58, 11264, ⟨0, (Int) × (Int) × (Int) × (Int) × Unit, .dat (.s 14) ud <| .dat (.s 5) ud <| .dat (.c 5 0) ud <| .dat (.c 5 1) ud <| .nil, [13, 12, 4, 2], [5, 0], 0⟩)]
def aFH (bands : List uh) (i : (Int) × (Int) × (Int) × (Int) × Unit) : TT (((Int) × (Int) × (Int) × (Int) × Unit) ⊕ uv) :=
 .ite (decide (i.1 < len (List.take (List.length bands - Int.toNat 1) (List.drop (Int.toNat 1) bands))))
 (.need (inb i.1 (len (List.take (List.length bands - Int.toNat 1) (List.drop (Int.toNat 1) bands)))) <| .call (ar3 ((i.2.2.1, i.2.2.2.1, ()), ((gi (List.take (List.length bands - Int.toNat 1) (List.drop (Int.toNat 1) bands)) i.1 (0, 0, ())).1, (gi (List.take (List.length bands - Int.toNat 1) (List.drop (Int.toNat 1) bands)) i.1 (0, 0, ())).2.1, ()), ())) avT fun y =>
 .ite (y.2.1 != 0)
 (.ok (.inr (((0, 0, ()), y.2.1, ()))))
 (.tt <| .lt (w64 (i.1 + 1) : Int) fun z2 => .lt (y.2.1 : Int) fun z3 => .lt (y.1.1 : Int) fun z4 => .lt (y.1.2.1 : Int) fun z5 => .vL (vT z3 z2 (len (List.take (List.length bands - Int.toNat 1) (List.drop (Int.toNat 1) bands)) : Int) (List.take (List.length bands - Int.toNat 1) (List.drop (Int.toNat 1) bands)) <| (vZ 5 0 true) ∧ ui ∧ True) <| .vL (vK (vO 53 z4 z5) <| vK uk True) <| .ok (.inl ((z2, z3, z4, z5, ())))))
 (.ok (.inr (((i.2.2.1, i.2.2.2.1, ()), 0, ()))))
def aDl (bands : List uh) : TT uv :=
 .need (asT Int 0 ≤ 0 ∧ 0 < len bands) <| .need (asT Int 0 ≤ 1 ∧ 1 ≤ len bands) <| .loop 0 (.tt <| .lt ((gi bands 0 (0, 0, ())).1 : Int) fun z => .lt ((gi bands 0 (0, 0, ())).2.1 : Int) fun z1 => .vL (vT (0 : Int) (0 : Int) (len (List.take (List.length bands - Int.toNat 1) (List.drop (Int.toNat 1) bands)) : Int) (List.take (List.length bands - Int.toNat 1) (List.drop (Int.toNat 1) bands)) <| (vZ 5 0 true) ∧ ui ∧ True) <| .vL (vK (vO 53 z z1) <| vK uk True) <| .ok ((0, 0, z, z1, ()))) (aFH bands)
def aLy : LTab := [(118, 58, 9216, ⟨0, (Int) × (List uh) × Unit, .dat (.s 14) ud <| .row 4 tW <| .nil, [13, 12, 4, 2], [4, 0], 0⟩)]
def ay6 (values : List ue) (i : (Int) × (List uh) × Unit) : TT (((Int) × (List uh) × Unit) ⊕ uv) :=
 .ite (decide (i.1 < len values))
 (.need (inb i.1 (len values)) <| .call (agN (((gi values i.1 ([], [], ())).1, (gi values i.1 ([], [], ())).2.1, ()), ())) avT fun y =>
 .ite (y.2.1 != 0)
 (.ok (.inr (((0, 0, ()), y.2.1, ()))))
 (.need (inb i.1 (↑(Int.toNat (len values)) : Int)) <| .tt <| .lt (w64 (i.1 + 1) : Int) fun z1 => .lt (List.set i.2.1 (0 + Int.toNat i.1) (y.1.1, y.1.2.1, ()) : List uh) fun z2 => .vL (vW z1 (len values) values <| (vQ 4 0 (Int.toNat (len values)) true) ∧ ui ∧ True) <| .vL (vK (vP 53 z2) <| vK uk True) <| .ok (.inl ((z1, z2, ())))))
 (.call (ajE (List.take (Int.toNat (len values)) i.2.1, ())) avT fun y1 =>
 .ok (.inr (((y1.1.1, y1.1.2.1, ()), y1.2.1, ()))))
def at3 (values : List ue) : TT uv :=
 .need (0 ≤ len values ∧ len values ≤ len values ∧ len values * (↑16 : Int) ≤ 140737488355328) <| .loop 0 (.tt <| .lt (List.replicate (Int.toNat (len values)) (0, 0, ()) : List uh) fun z => .vL (vW (0 : Int) (len values) values <| (vQ 4 0 (Int.toNat (len values)) true) ∧ ui ∧ True) <| .vL (vK (vP 53 z) <| vK uk True) <| .ok ((0, z, ()))) (ay6 values)
def aHU : LTab := []
def apU (p : uc × Int × Bool × Unit) (lo : Int) (hi : Int) : TT uv :=
 .call (ab0 (lo, 1000000000000, ())) adL fun y =>
 .call (akR (((p.1.1, p.1.2.1, p.1.2.2.1, p.1.2.2.2.1, p.1.2.2.2.2.1, p.1.2.2.2.2.2.1, ()), p.2.1, p.2.2.1, ()), y.1, ())) adS fun y1 =>
 .ite (y1.2.1 != 0)
 (.ok (((0, 0, ()), y1.2.1, ())))
 (.call (ab0 (hi, 1000000000000, ())) adL fun y2 =>
 .call (akR (((p.1.1, p.1.2.1, p.1.2.2.1, p.1.2.2.2.1, p.1.2.2.2.2.1, p.1.2.2.2.2.2.1, ()), p.2.1, p.2.2.1, ()), y2.1, ())) adS fun y3 =>
 .ite (y3.2.1 != 0)
 (.ok (((0, 0, ()), y3.2.1, ())))
 (.call (afJ (List.take 2 [(y1.1.1, y1.1.2.1, ()), (y3.1.1, y3.1.2.1, ())], ())) avT fun y4 =>
 .ite (y4.2.1 != 0)
 (.ok (((0, 0, ()), y4.2.1, ())))
 (.call (azQ ((if 0 > y4.1.1 then 0 else y4.1.1, if 0 > y4.1.2.1 then 0 else y4.1.2.1, ()), p.1.2.2.2.1, p.1.2.2.2.2.1, ())) avT fun y5 =>
 .ite (y5.2.1 != 0)
 (.ok (((0, 0, ()), y5.2.1, ())))
 (.call (ab0 (p.1.2.2.2.2.2.1, 1000000, ())) adL fun y6 =>
 .call (agN (y6.1, ())) avT fun y7 =>
 .ite (y7.2.1 != 0)
 (.ok (((0, 0, ()), y7.2.1, ())))
 (.call (aIg ((y5.1.1, y5.1.2.1, ()), (y7.1.1, y7.1.2.1, ()), ())) avT fun y8 =>
 .ite (y8.2.1 != 0)
 (.ok (((0, 0, ()), y8.2.1, ())))
 (.call (akS ((y8.1.1, y8.1.2.1, ()), 0, 1000000000000, ())) avT fun y9 =>
 .ok (((y9.1.1, y9.1.2.1, ()), y9.2.1, ()))))))))
def atY : LTab := []
def aj7 (c : uf × Unit) (x : Int × Int × Unit) : TT uv :=
 .ok (((x.1, x.2.1, ()), 0, ()))
end
theorem aQA {a b : BdT} (h1 : okB a.1 a.2.1) (h2 : okB b.1 b.2.1) : okB (atI a b).1 (atI a b).2.1 := by
 obtain ⟨a1, a2, u⟩ := a
 obtain ⟨b1, b2, w⟩ := b
 unfold okB atI at *
 dsimp only at *
 omega
theorem aQ3 {a b : BdT} (h1 : okB a.1 a.2.1) (h2 : okB b.1 b.2.1) : aSC a b = (atI a b, 0, ()) := by
 unfold aSC; rw [if_pos ⟨h1, h2⟩]; rfl
theorem aPO {a b : BdT} (h1 : okB a.1 a.2.1) (h2 : okB b.1 b.2.1) : ar3 (a, b, ()) = some (atI a b, 0, ()) := by
 unfold ar3; dsimp only; rw [aQ3 h1 h2]
theorem aLx (l : List BdT) (y) (h : ajE (l, ()) = some y) : (aDl l).toO = some y := by
 unfold ajE at h
 split at h
 case isFalse => cases h
 case isTrue hp =>
 injection h with h
 subst h
 obtain ⟨hn, hl, ho⟩ := hp
 dsimp only at hn hl ho ⊢
 cases l with
 | nil => exact absurd rfl hn
 | cons b r =>
  have hr : r.length ≤ 1000000 := by simp only [zG] at hl; omega
  unfold aDl
  refine uN ⟨by decide, by simp only [aaC, zG]; omega⟩ (uN ⟨by decide, by simp only [aaC, zG]; omega⟩ ?_)
  refine uO (0, 0, b.1, b.2.1, ()) rfl ?_
  have hb := ho b (yc ..)
  have htail : List.take ((b :: r).length - Int.toNat 1) (List.drop (Int.toNat 1) (b :: r)) = r := by
   show List.take ((b :: r).length - 1) r = r
   simp
  refine aaL (fun i : Int × Int × Int × Int × Unit => ∃ (k : Nat) (w : BdT), k ≤ r.length ∧ i = ((k : Int), 0, w.1, w.2.1, ()) ∧ okB w.1 w.2.1 ∧ aAn (b :: r) = (r.drop k).foldl atI w) (fun i => ((r.length : Int) - i.1).toNat) (fun _ => (aAn (b :: r), 0, ())) ?_ _ ⟨0, b, by omega, rfl, hb, rfl⟩
  rintro i ⟨k, w, k1, rfl, hw, k2⟩
  simp only [aFH, htail, aaM]
  rcases zr k r.length with hk | hk
  ·have e : r.getD k (0, 0, ()) = r[k] := by simp [hk]
   have ho2 := ho r[k] (zN _ (yf hk))
   left
   refine ⟨(((k + 1 : Nat) : Int), 0, (atI w r[k]).1, (atI w r[k]).2.1, ()), ?_, ⟨k + 1, atI w r[k], by omega, rfl, aQA hw ho2, ?_⟩, by dsimp only; omega, ze⟩
   ·refine uT sd (uN sd (uC (atI w r[k], 0, ()) (by rw [e]; exact aPO hw ho2) (uF rfl ?_)))
    rw [aaA (x := (k : Int) + 1) zc]
    rfl
   ·rw [k2, yu hk]; rfl
  ·right
   obtain rfl : k = r.length := zc
   rw [List.drop_length] at k2
   refine uF sd ?_
   rw [aaJ, k2]; rfl
theorem aP9 {q : Rat} (h : (agX q q).2.1 = 0) : okB (agX q q).1.1 (agX q q).1.2.1 := by
 unfold agX mkB at *
 split at h
 ·rename_i c; rw [if_pos c]; exact c
 ·exact absurd h zf
theorem az5 {q : Rat} (h : ab6 q) : agN (fx q, ()) = some (agX q q) := by
 unfold agN; dsimp only; rw [afD h]
theorem aFI (l : List FxT) (y) (h : afJ (l, ()) = some y) : (at3 l).toO = some y := by
 obtain ⟨r, ⟨hn, hl, ho⟩, hx, rfl⟩ := aaD h
 obtain ⟨rfl, -⟩ := Prod.mk.inj hx
 have hlen : len (r.map (fun q => fx q)) = (r.length : Int) := by rw [aaC, vB]
 unfold at3
 simp only [hlen, zp]
 refine uN ⟨by omega, by omega, by omega⟩ (uO (0, List.replicate r.length (0, 0, ()), ()) rfl ?_)
 refine aaL (fun i : Int × List BdT × Unit => ∃ k : Nat, k ≤ r.length ∧ i.1 = (k : Int) ∧ i.2.1.length = r.length ∧ i.2.1.take k = (r.take k).map (fun q => (agX q q).1)) (fun i => ((r.length : Int) - i.1).toNat) (fun _ => (aAn (r.map fun q => (agX q q).1), 0, ())) ?_ _ ⟨0, by omega, rfl, by simp, by simp⟩
 rintro ⟨i, bs, u⟩ ⟨k, k1, k2, k3, k4⟩
 dsimp only at k2 k3 k4
 subst k2
 simp only [ay6, hlen, aaM, zp]
 rcases zr k r.length with hk | hk
 ·have e : (r.map (fun q => fx q)).getD k ([], [], ()) = fx r[k] := by simp [hk]
  obtain ⟨f1, f2⟩ := ho r[k] (yf hk)
  left
  refine ⟨(((k + 1 : Nat) : Int), bs.set k (agX r[k] r[k]).1, ()), ?_, ⟨k + 1, by omega, rfl, by simp [k3], ?_⟩, by dsimp only; omega, ze⟩
  ·refine uT sd (uN ⟨by omega, by omega⟩ (uC (agX r[k] r[k]) (by rw [e]; exact az5 f1) (uF (by rw [f2]; rfl) (uN ⟨by omega, by omega⟩ ?_))))
   rw [aaA (x := (k : Int) + 1) zc, zu]
   rfl
  ·rw [zX hk, xT, ← k4]
   rw [zX (by rw [yW]; omega), List.take_set_of_le (zq k)]
   simp
 ·right
  obtain rfl : k = r.length := zc
  rw [zt] at k4
  refine uF sd (uC (aAn (r.map fun q => (agX q q).1), 0, ()) ?_ rfl)
  rw [k4]
  unfold ajE
  refine if_pos ⟨by simpa using hn, by simpa using hl, fun b hb => ?_⟩
  obtain ⟨q, hq, rfl⟩ := zM.1 hb
  exact aP9 (ho q hq).2
theorem af4 {z : Int} (h1 : -1000000000000000000000000 ≤ z) (h2 : z ≤ 1000000000000000000000000) : Fit z := by
 unfold Fit
 refine zC ((ac8 (k := 30) zc).2 ?_) zc
 omega
theorem av2 {m a n : Int} (hm : inR m (-100000000) 100000000) (ha : inR a (-100000000) 100000000) (hn : inU n) : -200000000000000000000 ≤ afO m a n ∧ afO m a n ≤ 200000000000000000000 := by
 obtain ⟨m1, m2⟩ := hm
 obtain ⟨a1, a2⟩ := ha
 obtain ⟨n1, n2⟩ := hn
 unfold afO
 have c1 : (m + 100000000) * n ≥ 0 := yi zc n1
 have c2 : (100000000 - m) * n ≥ 0 := yi zc n1
 rw [wT] at c1
 rw [Int.sub_mul] at c2
 constructor <;> omega
theorem aIS : al1 = mkRat 1000000000000 1 := by rw [acS]; rfl
theorem aB5 (N : Int) {d : Nat} (hd : d ≠ 0) : agX (mkRat N d) (mkRat N d) = mkB 6 (N * 1000000000000 / d) (-(-(N * 1000000000000) / d)) := by
 unfold agX
 rw [aIS, yS, xJ, Rat.neg_mkRat, av6 _ hd, av6 _ hd]
theorem ak6 {m a n : Int} (hm : inR m (-100000000) 100000000) (ha : inR a (-100000000) 100000000) (hn : inU n) :
  atF m a (mkRat n 1000000000000) = some (mkRat (afO m a n) 1000000000000000000) ∧ ab6 (mkRat (afO m a n) 1000000000000000000) := by
 obtain ⟨b1, b2⟩ := av2 hm ha hn
 have c := av2 hm (a := 0) ⟨by omega, by omega⟩ hn
 obtain ⟨c1, c2⟩ := c
 have e : afO m 0 n = m * n := by unfold afO; omega
 rw [e] at c1 c2
 have f1 : ab6 (mkRat (m * n) 1000000000000) := aeA zc (af4 zc zc) (af4 zc zc)
 have f2 : ab6 (mkRat (afO m a n) 1000000000000) := aeA zc (af4 zc zc) (af4 zc zc)
 have f3 : ab6 (mkRat (afO m a n) 1000000000000000000) := aeA zc (af4 zc zc) (af4 zc zc)
 refine ⟨?_, f3⟩
 unfold atF
 rw [yS, Nat.one_mul]
 unfold abN
 rw [if_pos f1]
 simp only [zO]
 have g2 : mkRat (m * n) 1000000000000 + mkRat a 1 = mkRat (afO m a n) 1000000000000 := by
  rw [xF _ _ zc zc]
  unfold afO
  rw [xJ]; simp
 rw [g2, if_pos f2]
 simp only [zO]
 have g3 : mkRat (afO m a n) 1000000000000 / mkRat 1000000 1 = mkRat (afO m a n) 1000000000000000000 := by
  have hm : mkRat (afO m a n) 1000000000000 = mkRat (afO m a n) 1000000000000000000 * mkRat 1000000 1 := by
   rw [yS, yn zc zc]; omega
  rw [hm, Rat.div_def, Rat.mul_assoc, Rat.mul_inv_cancel _ (axX zc), Rat.mul_one]
 rw [g3, if_pos f3]
theorem aAI {N : Int} (h1 : -200000000000000000000 ≤ N) (h2 : N ≤ 200000000000000000000) : agX (mkRat N 1000000000000000000) (mkRat N 1000000000000000000) = ((N / 1000000, -(-N / 1000000), ()), 0, ()) := by
 rw [aB5 _ zc]
 have e1 : N * 1000000000000 / ((1000000000000000000 : Nat) : Int) = N / 1000000 := zc
 have e2 : -(N * 1000000000000) / ((1000000000000000000 : Nat) : Int) = -N / 1000000 := zc
 rw [e1, e2]
 unfold mkB
 rw [if_pos ⟨by omega, by omega, by omega⟩]
theorem aMu {n : Int} (h : inR n (-100000000) 100000000) : agX (mkRat n 1000000) (mkRat n 1000000) = ((n * 1000000, n * 1000000, ()), 0, ()) := by
 obtain ⟨h1, h2⟩ := h
 rw [aB5 _ zc]
 have e1 : n * 1000000000000 / ((1000000 : Nat) : Int) = n * 1000000 := zc
 have e2 : -(-(n * 1000000000000) / ((1000000 : Nat) : Int)) = n * 1000000 := zc
 rw [e1, e2]
 unfold mkB
 rw [if_pos ⟨by omega, by omega, by omega⟩]
theorem ax1 {n : Int} (h : inU n) : abA n := ⟨by have := h.1; omega, by have := h.2; omega⟩
theorem aq2 {n : Int} (h : inU n) : ab6 (mkRat n 1000000000000) := aeA zc (abK (ax1 h)) (abK ⟨by omega, by omega⟩)
theorem aI6 (a : Int) : (if 0 > a then 0 else a) = max a 0 := by split <;> omega
theorem aJp {a b : BdT} (h : (aPy a b).2.1 = 0) : okB (aPy a b).1.1 (aPy a b).1.2.1 := by
 unfold aPy mkB at *
 split
 ·rename_i c
  rw [if_pos c] at h
  split
  ·assumption
  ·rename_i d; rw [if_neg d] at h; exact absurd h zf
 ·rename_i c; rw [if_neg c] at h; exact absurd h zf
theorem ayV {b : BdT} (h : okB b.1 b.2.1) : aBE b 0 1000000000000 = (asI b, 0, ()) := by
 unfold aBE
 rw [if_pos h, if_pos ⟨by omega, by omega, by omega⟩]; rfl
theorem aDe (p : PcT) (lo hi : Int) (y) (h : aeE (p, lo, hi, ()) = some y) : (apU p lo hi).toO = some y := by
 unfold aeE at h
 split at h
 case isFalse => cases h
 case isTrue hp =>
 obtain ⟨hn, hlo, hhi⟩ := hp
 dsimp only at hn hlo hhi h
 injection h with h
 subst h
 obtain ⟨l1, f1⟩ := ak6 hn.1 hn.2.1 hlo
 obtain ⟨l2, f2⟩ := ak6 hn.1 hn.2.1 hhi
 obtain ⟨b1, b2⟩ := av2 hn.1 hn.2.1 hlo
 obtain ⟨b3, b4⟩ := av2 hn.1 hn.2.1 hhi
 have io := ahB hn.2.2.1 zc zc
 unfold apU
 refine uC _ (af2 (d := 1000000000000) (ax1 hlo) zc zc) ?_
 refine uC _ (az3 (p := p) (aq2 hlo) hn) ?_
 rw [l1]
 refine uF rfl ?_
 refine uC _ (af2 (d := 1000000000000) (ax1 hhi) zc zc) ?_
 refine uC _ (az3 (p := p) (aq2 hhi) hn) ?_
 rw [l2]
 refine uF rfl ?_
 have t1 := aAI b1 b2
 have t2 := aAI b3 b4
 have ha : afJ ([fx (mkRat (afO p.1.2.1 p.1.2.2.1 lo) 1000000000000000000), fx (mkRat (afO p.1.2.1 p.1.2.2.1 hi) 1000000000000000000)], ()) = some (atI (agX (mkRat (afO p.1.2.1 p.1.2.2.1 lo) 1000000000000000000) (mkRat (afO p.1.2.1 p.1.2.2.1 lo) 1000000000000000000)).1 (agX (mkRat (afO p.1.2.1 p.1.2.2.1 hi) 1000000000000000000) (mkRat (afO p.1.2.1 p.1.2.2.1 hi) 1000000000000000000)).1, 0, ()) := by
  refine aaG (enc := fun l : List Rat => (l.map (fun q => fx q), ())) [mkRat (afO p.1.2.1 p.1.2.2.1 lo) 1000000000000000000, mkRat (afO p.1.2.1 p.1.2.2.1 hi) 1000000000000000000] ⟨by simp, by simp, fun q hq => ?_⟩ (fun b hb => ?_)
  ·rcases zy.1 hq with e | e
   ·subst e; exact ⟨f1, by rw [t1]⟩
   ·rw [zZ.1 e]; exact ⟨f2, by rw [t2]⟩
  ·have := (Prod.mk.inj hb).1
   exact List.map_inj_right (fun a b hab => af3 hab) |>.1 this
 refine uC _ ha (uF rfl ?_)
 rw [t1, t2]
 simp only [atI]
 refine uC (aL9 (aAd p.1 lo hi) p.1.2.2.2.1 p.1.2.2.2.2.1) (by unfold aAd; rw [← aI6, ← aI6]; rfl) ?_
 unfold aAe
 generalize aL9 (aAd p.1 lo hi) p.1.2.2.2.1 p.1.2.2.2.2.1 = w
 by_cases c1 : w.2.1 = 0
 case neg => rw [if_pos c1]; exact uT (by simpa using c1) rfl
 rw [if_neg (fun h => h c1)]
 refine uF (by simpa using c1) (uC _ (af2 (d := 1000000) io zc zc) (uC _ (az5 (af9 io)) ?_))
 rw [aMu hn.2.2.1]
 refine uF rfl (uC (aPy w.1 (p.1.2.2.2.2.2.1 * 1000000, p.1.2.2.2.2.2.1 * 1000000, ())) rfl ?_)
 have hok := @aJp w.1 (p.1.2.2.2.2.2.1 * 1000000, p.1.2.2.2.2.2.1 * 1000000, ())
 generalize aPy w.1 (p.1.2.2.2.2.2.1 * 1000000, p.1.2.2.2.2.2.1 * 1000000, ()) = z at hok
 by_cases c2 : z.2.1 = 0
 case neg => rw [if_pos c2]; exact uT (by simpa using c2) rfl
 rw [if_neg (fun h => h c2)]
 refine uF (by simpa using c2) (uC (aBE z.1 0 1000000000000) rfl ?_)
 rw [ayV (hok c2)]; rfl
set_option maxRecDepth 100000
open Go Go.Vg Go.Proofs
noncomputable section
def avR : LTab := [(128, 14, 17409, ⟨0, (Int) × (Int) × Bool × (List uh) × Unit, .dat (.s 9) ud <| .dat (.s 3) ud <| .appN (.c 4 0) 17 53 tW <| .nil, [8, 7, 0], [11, 7, 4, 3, 2, 1, 0], 1⟩)]
def aeS (x : Int × Int × Unit) (c : uf × Unit) (i : (Int) × (Int) × Bool × (List uh) × Unit) : TT tj :=
 .ite (decide (x.1 > w64 ((gi c.1.2.2.1 i.1 (0, 0, 0, 0, 0, 0, ())).1 * 1000000)))
 (.tt <| .lt (w64 (i.1 + 1) : Int) fun z15 => .lt ((gi c.1.2.2.1 i.1 (0, 0, 0, 0, 0, 0, ())).1 : Int) fun z16 => .lt (i.2.2.2.1 : List uh) fun z17 => .vL (vT z16 z15 (len c.1.2.2.1) c.1.2.2.1 <| tx ∧ True) <| .vL (vK (vP 53 z17) <| vK (ua (LoopState.ready : LoopState) (none : Option Code) 64 (#[13] : Array Tmp) (aoS (adZ Tryz.f58) [1, 1, 0, 1, 0, 0]) (aoS (adZ Tryz.f58) [1, 1, 0, 1, 0, 1]) <| (vM (128 : FuncId) <| True ∧ tz ∧ True) ∧ (vM ((c.1.1, c.1.2.1, c.1.2.2.1, ()) : Int × List Int × List uc × Unit) <| ui ∧ uY ∧ ur ∧ uw ∧ um ∧ ui ∧ vX c x)) <| vK (vN 42 c.1.1 c.1.2.1 c.1.2.2.1) <| vK (vM 169 <| (vQ 17 0 (List.length z17) true) ∧ True) <| vK tD <| vK uk <| vK (vO 53 x.1 x.2.1) <| vK (vN 96 c.1.1 c.1.2.1 c.1.2.2.1) True) <| .ok (.inl ((z15, z16, false, z17, ()))))
 (.call (aeE ((((gi c.1.2.2.1 i.1 (0, 0, 0, 0, 0, 0, ())).1, (gi c.1.2.2.1 i.1 (0, 0, 0, 0, 0, 0, ())).2.1, (gi c.1.2.2.1 i.1 (0, 0, 0, 0, 0, 0, ())).2.2.1, (gi c.1.2.2.1 i.1 (0, 0, 0, 0, 0, 0, ())).2.2.2.1, (gi c.1.2.2.1 i.1 (0, 0, 0, 0, 0, 0, ())).2.2.2.2.1, (gi c.1.2.2.1 i.1 (0, 0, 0, 0, 0, 0, ())).2.2.2.2.2.1, ()), i.2.1, i.1 == 0, ()), if w64 (i.2.1 * 1000000) > x.1 then w64 (i.2.1 * 1000000) else x.1, if w64 ((gi c.1.2.2.1 i.1 (0, 0, 0, 0, 0, 0, ())).1 * 1000000) < x.2.1 then w64 ((gi c.1.2.2.1 i.1 (0, 0, 0, 0, 0, 0, ())).1 * 1000000) else x.2.1, ())) avT fun y3 =>
 .ite (y3.2.1 != 0)
 (.ok (.inr (((0, 0, ()), y3.2.1, ()))))
 (.need ((List.length i.2.2.2.1 + 1) * 16 ≤ 140737488355328) <| .tt <| .lt (w64 (i.1 + 1) : Int) fun z18 => .lt ((gi c.1.2.2.1 i.1 (0, 0, 0, 0, 0, 0, ())).1 : Int) fun z19 => .lt (List.take (List.length i.2.2.2.1) i.2.2.2.1 ++ [(y3.1.1, y3.1.2.1, ())] : List uh) fun z20 => .vL (vT z19 z18 (len c.1.2.2.1) c.1.2.2.1 <| tx ∧ True) <| .need ((((53 : TypeId) = 53) ∧ ((z20 : List uh) = z20)) ∧ (true = true) ∧ (((LoopState.ready : LoopState) = LoopState.ready) ∧ (((none : Option Code) = none) ∧ (((64) = (64)) ∧ (((#[13] : Array Tmp) = #[13]) ∧ (((aoS (adZ Tryz.f58) [1, 1, 0, 1, 0, 0]) = (aoS (adZ Tryz.f58) [1, 1, 0, 1, 0, 0])) ∧ (((aoS (adZ Tryz.f58) [1, 1, 0, 1, 0, 1]) = (aoS (adZ Tryz.f58) [1, 1, 0, 1, 0, 1])) ∧ ((((128 : FuncId) = 128) ∧ (True ∧ ((((7) = (7)) ∧ (((0) = (0)) ∧ ((true) = (true)))) ∧ True))) ∧ ((((c.1.1, c.1.2.1, c.1.2.2.1, ()) : Int × List Int × List uc × Unit) = (c.1.1, c.1.2.1, c.1.2.2.1, ())) ∧ ((((0) = (0)) ∧ (((0) = (0)) ∧ ((true) = (true)))) ∧ ((((4) = (4)) ∧ (((0) = (0)) ∧ ((true) = (true)))) ∧ ((((3) = (3)) ∧ (((0) = (0)) ∧ ((true) = (true)))) ∧ ((((2) = (2)) ∧ (((0) = (0)) ∧ ((true) = (true)))) ∧ ((((1) = (1)) ∧ (((0) = (0)) ∧ ((true) = (true)))) ∧ ((((0) = (0)) ∧ (((0) = (0)) ∧ ((true) = (true)))) ∧ (((c) = (c)) ∧ (((x) = (x)) ∧ True)))))))))))))))) ∧ (true = true) ∧ (((42 : TypeId) = 42) ∧ (((c.1.1 : Int) = c.1.1) ∧ (((c.1.2.1 : List Int) = c.1.2.1) ∧ (((c.1.2.2.1 : List uc) = c.1.2.2.1) ∧ True)))) ∧ (true = true) ∧ (((169 : TypeId) = 169) ∧ ((((17) = (17)) ∧ (((0) = (0)) ∧ ((List.length i.2.2.2.1 + 1 = List.length z20) ∧ ((true) = (true))))) ∧ True)) ∧ (true = true) ∧ (((48 : TypeId) = 48) ∧ (((0 : Int) = 0) ∧ True)) ∧ (true = true) ∧ (((53 : TypeId) = 53) ∧ (((0 : Int) = 0) ∧ (((0 : Int) = 0) ∧ True))) ∧ (true = true) ∧ (((53 : TypeId) = 53) ∧ (((x.1 : Int) = x.1) ∧ (((x.2.1 : Int) = x.2.1) ∧ True))) ∧ (true = true) ∧ (((96 : TypeId) = 96) ∧ (((c.1.1 : Int) = c.1.1) ∧ (((c.1.2.1 : List Int) = c.1.2.1) ∧ (((c.1.2.2.1 : List uc) = c.1.2.2.1) ∧ True)))) ∧ (true = true) ∧ True) <| .ok (.inl ((z18, z19, false, z20, ())))))
def aeR (x : Int × Int × Unit) (c : uf × Unit) (i : (Int) × (Int) × Bool × (List uh) × Unit) : TT tj :=
 .ite (decide (x.1 > w64 ((gi c.1.2.2.1 i.1 (0, 0, 0, 0, 0, 0, ())).1 * 1000000)))
 (.tt <| .lt (w64 (i.1 + 1) : Int) fun z2 => .lt ((gi c.1.2.2.1 i.1 (0, 0, 0, 0, 0, 0, ())).1 : Int) fun z3 => .vL (vT z3 z2 (len c.1.2.2.1) c.1.2.2.1 <| tx ∧ True) <| .vL (vK (ua (LoopState.ready : LoopState) (none : Option Code) 64 (#[13] : Array Tmp) (aoS (adZ Tryz.f58) [1, 1, 0, 1, 0, 0]) (aoS (adZ Tryz.f58) [1, 1, 0, 1, 0, 1]) <| (vM (128 : FuncId) <| True ∧ tz ∧ True) ∧ (vM ((c.1.1, c.1.2.1, c.1.2.2.1, ()) : Int × List Int × List uc × Unit) <| ui ∧ uY ∧ ur ∧ uw ∧ um ∧ ui ∧ vX c x)) <| vK (vN 42 c.1.1 c.1.2.1 c.1.2.2.1) <| vK se <| vK tD <| vK uk <| vK (vO 53 x.1 x.2.1) <| vK (vN 96 c.1.1 c.1.2.1 c.1.2.2.1) True) <| .ok (.inl ((z2, z3, true, [], ()))))
 (.call (aeE ((((gi c.1.2.2.1 i.1 (0, 0, 0, 0, 0, 0, ())).1, (gi c.1.2.2.1 i.1 (0, 0, 0, 0, 0, 0, ())).2.1, (gi c.1.2.2.1 i.1 (0, 0, 0, 0, 0, 0, ())).2.2.1, (gi c.1.2.2.1 i.1 (0, 0, 0, 0, 0, 0, ())).2.2.2.1, (gi c.1.2.2.1 i.1 (0, 0, 0, 0, 0, 0, ())).2.2.2.2.1, (gi c.1.2.2.1 i.1 (0, 0, 0, 0, 0, 0, ())).2.2.2.2.2.1, ()), i.2.1, i.1 == 0, ()), if w64 (i.2.1 * 1000000) > x.1 then w64 (i.2.1 * 1000000) else x.1, if w64 ((gi c.1.2.2.1 i.1 (0, 0, 0, 0, 0, 0, ())).1 * 1000000) < x.2.1 then w64 ((gi c.1.2.2.1 i.1 (0, 0, 0, 0, 0, 0, ())).1 * 1000000) else x.2.1, ())) avT fun y =>
 .ite (y.2.1 != 0)
 (.ok (.inr (((0, 0, ()), y.2.1, ()))))
 (.need (1 * 16 ≤ 140737488355328) <| .tt <| .lt (w64 (i.1 + 1) : Int) fun z4 => .lt ((gi c.1.2.2.1 i.1 (0, 0, 0, 0, 0, 0, ())).1 : Int) fun z5 => .lt ([(y.1.1, y.1.2.1, ())] : List uh) fun z6 => .vL (vT z5 z4 (len c.1.2.2.1) c.1.2.2.1 <| tx ∧ True) <| .vL (vK (vP 53 z6) <| vK (ua (LoopState.ready : LoopState) (none : Option Code) 64 (#[13] : Array Tmp) (aoS (adZ Tryz.f58) [1, 1, 0, 1, 0, 0]) (aoS (adZ Tryz.f58) [1, 1, 0, 1, 0, 1]) <| (vM (128 : FuncId) <| True ∧ tz ∧ True) ∧ (vM ((c.1.1, c.1.2.1, c.1.2.2.1, ()) : Int × List Int × List uc × Unit) <| ui ∧ uY ∧ ur ∧ uw ∧ um ∧ ui ∧ vX c x)) <| vK (vN 42 c.1.1 c.1.2.1 c.1.2.2.1) <| vK (vM 169 <| (vQ 17 0 1 true) ∧ True) <| vK tD <| vK uk <| vK (vO 53 x.1 x.2.1) <| vK (vN 96 c.1.1 c.1.2.1 c.1.2.2.1) True) <| .ok (.inl ((z4, z5, false, z6, ())))))
def aj8 (c : uf × Unit) (x : Int × Int × Unit) (i : (Int) × (Int) × Bool × (List uh) × Unit) : TT tj :=
 .ite (i.2.2.1)
 (.ite (decide (i.1 < len c.1.2.2.1))
  (.need (inb i.1 (len c.1.2.2.1)) <| .ite (!i.1 == 0)
   (.ite (decide (x.2.1 ≤ w64 (i.2.1 * 1000000)))
    (.tt <| .lt (w64 (i.1 + 1) : Int) fun z => .lt ((gi c.1.2.2.1 i.1 (0, 0, 0, 0, 0, 0, ())).1 : Int) fun z1 => .vL (vT z1 z (len c.1.2.2.1) c.1.2.2.1 <| tx ∧ True) <| .vL (vK (ua (LoopState.ready : LoopState) (none : Option Code) 64 (#[13] : Array Tmp) (aoS (adZ Tryz.f58) [1, 1, 0, 1, 0, 0]) (aoS (adZ Tryz.f58) [1, 1, 0, 1, 0, 1]) <| (vM (128 : FuncId) <| True ∧ tz ∧ True) ∧ (vM ((c.1.1, c.1.2.1, c.1.2.2.1, ()) : Int × List Int × List uc × Unit) <| ui ∧ uY ∧ ur ∧ uw ∧ um ∧ ui ∧ vX c x)) <| vK (vN 42 c.1.1 c.1.2.1 c.1.2.2.1) <| vK se <| vK tD <| vK uk <| vK (vO 53 x.1 x.2.1) <| vK (vN 96 c.1.1 c.1.2.1 c.1.2.2.1) True) <| .ok (.inl ((z, z1, true, [], ()))))
    (aeR x c i))
   (aeR x c i))
  (.call (ajE ([], ())) avT fun y2 =>
   .ok (.inr (((y2.1.1, y2.1.2.1, ()), y2.2.1, ())))))
 (.ite (decide (i.1 < len c.1.2.2.1))
  (.need (inb i.1 (len c.1.2.2.1)) <| .ite (!i.1 == 0)
   (.ite (decide (x.2.1 ≤ w64 (i.2.1 * 1000000)))
    (.tt <| .lt (w64 (i.1 + 1) : Int) fun z12 => .lt ((gi c.1.2.2.1 i.1 (0, 0, 0, 0, 0, 0, ())).1 : Int) fun z13 => .lt (i.2.2.2.1 : List uh) fun z14 => .vL (vT z13 z12 (len c.1.2.2.1) c.1.2.2.1 <| tx ∧ True) <| .vL (vK (vP 53 z14) <| vK (ua (LoopState.ready : LoopState) (none : Option Code) 64 (#[13] : Array Tmp) (aoS (adZ Tryz.f58) [1, 1, 0, 1, 0, 0]) (aoS (adZ Tryz.f58) [1, 1, 0, 1, 0, 1]) <| (vM (128 : FuncId) <| True ∧ tz ∧ True) ∧ (vM ((c.1.1, c.1.2.1, c.1.2.2.1, ()) : Int × List Int × List uc × Unit) <| ui ∧ uY ∧ ur ∧ uw ∧ um ∧ ui ∧ vX c x)) <| vK (vN 42 c.1.1 c.1.2.1 c.1.2.2.1) <| vK (vM 169 <| (vQ 17 0 (List.length z14) true) ∧ True) <| vK tD <| vK uk <| vK (vO 53 x.1 x.2.1) <| vK (vN 96 c.1.1 c.1.2.1 c.1.2.2.1) True) <| .ok (.inl ((z12, z13, false, z14, ()))))
    (aeS x c i))
   (aeS x c i))
  (.call (ajE (List.take (List.length i.2.2.2.1) i.2.2.2.1, ())) avT fun y5 =>
   .ok (.inr (((y5.1.1, y5.1.2.1, ()), y5.2.1, ())))))
def ahC (c : uf × Unit) (x : Int × Int × Unit) : TT uv :=
 .tt <| .tt <| .tt <| .tt <| .loop 0 (.tt <| .vL (vT (0 : Int) (0 : Int) (len c.1.2.2.1) c.1.2.2.1 <| tx ∧ True) <| .vL (vK (ua (LoopState.ready : LoopState) (none : Option Code) 64 (#[13] : Array Tmp) (aoS (adZ Tryz.f58) [1, 1, 0, 1, 0, 0]) (aoS (adZ Tryz.f58) [1, 1, 0, 1, 0, 1]) <| (vM (128 : FuncId) <| True ∧ tz ∧ True) ∧ (vM ((c.1.1, c.1.2.1, c.1.2.2.1, ()) : Int × List Int × List uc × Unit) <| ui ∧ uY ∧ ur ∧ uw ∧ um ∧ ui ∧ vX c x)) <| vK (vN 42 c.1.1 c.1.2.1 c.1.2.2.1) <| vK se <| vK tD <| vK uk <| vK (vO 53 x.1 x.2.1) <| vK (vN 96 c.1.1 c.1.2.1 c.1.2.2.1) True) <| .ok ((0, 0, true, [], ()))) (aj8 c x)
end
theorem ao8 : ∀ (l : List ad0) (last : Int), agZ last l → ∀ j, j < l.length → last < (l.getD j zs).1 ∧ (j + 1 < l.length → (l.getD j zs).1 < (l.getD (j + 1) zs).1)
 | [], _, _, j, hj => by cases hj
 | s :: r, last, h, 0, _ => by
  refine ⟨by have := h.1.2.1; show last < s.1; omega, fun h2 => ?_⟩
  have := (ao8 r s.1 h.2 0 (by simpa using h2)).1
  exact this
 | s :: r, last, h, j + 1, hj => by
  have := ao8 r s.1 h.2 j (by simpa using hj)
  refine ⟨by have := h.1.2.1; have := this; show last < (r.getD j zs).1; omega, fun h2 => this.2 (by simpa using h2)⟩
theorem aR3 {l : List ad0} (h : ab9 l) {i j : Nat} (hij : i < j) (hj : j < l.length) : (l.getD i zs).1 < (l.getD j zs).1 := by
 induction j with
 | zero => omega
 | succ j ih =>
  have h1 := (ao8 l 0 h.2.2 j zc).2 hj
  rcases zr i j with g | g
  ·have := ih g zc; omega
  ·obtain rfl : i = j := zc
   exact h1
theorem as4 {n : Int} {l : List ad0} (h : ab9 l) (hn : inU n) : abB n l < l.length ∧ n ≤ (l.getD (abB n l) zs).1 * 1000000 ∧ ∀ j, j < abB n l → ¬ n ≤ (l.getD j zs).1 * 1000000 := by
 have h1 : abB n l < l.length := by
  obtain ⟨s, hs, e⟩ := ao9 l 0 h.2.2 zc
  exact List.findIdx_lt_length_of_exists ⟨s, hs, zo (by rw [e]; exact hn.2)⟩
 refine ⟨h1, ?_, fun j hj => ?_⟩
 ·have := List.findIdx_getElem (p := fun s : ad0 => decide (n ≤ s.1 * 1000000)) (xs := l) (w := h1)
  rw [atJ h1]
  exact of_decide_eq_true this
 ·have := List.not_of_lt_findIdx (p := fun s : ad0 => decide (n ≤ s.1 * 1000000)) (xs := l) hj
  rw [atJ (show j < l.length by omega)]
  simpa using this
theorem anQ {n : Int} {l : List ad0} (h : ab9 l) (hn : inU n) {k : Nat} (hk : k < l.length) : n ≤ (l.getD k zs).1 * 1000000 ↔ abB n l ≤ k := by
 obtain ⟨h1, h2, h3⟩ := as4 h hn
 constructor
 ·intro g
  rcases zr k (abB n l) with c | c
  ·exact absurd g (h3 k c)
  ·exact c
 ·intro g
  rcases zr (abB n l) k with c | c
  ·have := aR3 h c hk; omega
  ·obtain rfl : abB n l = k := zc
   exact h2
theorem alK {n : Int} {l : List ad0} (h : ab9 l) (hn : inU n) {k : Nat} (hk0 : k ≠ 0) (hk : k < l.length) : n ≤ acK l k * 1000000 ↔ abB n l < k := by
 unfold acK
 rw [if_neg hk0, anQ h hn (show k - 1 < l.length by omega)]
 omega
theorem aLF {l : List ad0} (h : ab9 l) {k : Nat} (hk : k ≤ l.length) : inR (acK l k) 0 1000000 := by
 unfold acK
 split
 ·exact ⟨by omega, by omega⟩
 ·exact (asM h (show k - 1 < l.length by omega)).2
theorem aQh {s : ad0} {a b : Int} (h : (aAe s a b).2.1 = 0) : okB (aAe s a b).1.1 (aAe s a b).1.2.1 := by
 unfold aAe at *
 generalize aL9 (aAd s a b) s.2.2.2.1 s.2.2.2.2.1 = w at *
 by_cases c1 : w.2.1 = 0
 case neg => rw [if_pos c1] at h; exact absurd h c1
 rw [if_neg (fun h => h c1)] at h ⊢
 have hok := @aJp w.1 (s.2.2.2.2.2.1 * 1000000, s.2.2.2.2.2.1 * 1000000, ())
 generalize aPy w.1 (s.2.2.2.2.2.1 * 1000000, s.2.2.2.2.2.1 * 1000000, ()) = z at *
 by_cases c2 : z.2.1 = 0
 case neg => rw [if_pos c2] at h; exact absurd h c2
 rw [if_neg (fun h => h c2)]
 obtain ⟨o1, o2, o3⟩ := hok c2
 unfold asI okB
 dsimp only
 omega
theorem aIk {p : PcT} {lo hi : Int} (h1 : ad6 p.1) (h2 : inU lo) (h3 : inU hi) : aeE (p, lo, hi, ()) = some (aAe p.1 lo hi) := by
 unfold aeE; exact if_pos ⟨h1, h2, h3⟩
theorem amZ (l : List ad0) (lo hi : Int) (n k : Nat) (acc : List BdT) : at5 l lo hi (n + 1) k acc = if (aDH l lo hi k).2.1 ≠ 0 then ((0, 0, ()), (aDH l lo hi k).2.1, ()) else at5 l lo hi n (k + 1) (acc ++ [(aDH l lo hi k).1]) := rfl
theorem arF (c : CvT × Unit) (x : BdT) (y) (h : adR (c, x, ()) = some y) : (ahC c x).toO = some y := by
 unfold adR at h
 split at h
 case isFalse => cases h
 case isTrue hp =>
 obtain ⟨hl, hlo, hhi, hle⟩ := hp
 dsimp only at hl hlo hhi hle h
 injection h with h
 subst h
 obtain ⟨⟨kind, tab, l, u0⟩, u1⟩ := c
 obtain ⟨lo, hi, u2⟩ := x
 dsimp only at hl hlo hhi hle ⊢
 have hlen := hl.2.1
 obtain ⟨pf1, pf2, pf3⟩ := as4 hl hlo
 obtain ⟨pl1, pl2, pl3⟩ := as4 hl hhi
 have hfl : abB lo l ≤ abB hi l := (anQ hl hlo pl1).1 zc
 have hlo1 := hlo.1
 have hlo2 := hlo.2
 have hhi1 := hhi.1
 have hhi2 := hhi.2
 unfold ahC
 refine uO (0, 0, true, [], ()) rfl ?_
 refine aaL (fun i : Int × Int × Bool × List BdT × Unit => ∃ (k : Nat) (acc : List BdT), k ≤ l.length ∧ i = ((k : Int), acK l k, acc.isEmpty, acc, ()) ∧ (k ≤ abB lo l → acc = []) ∧ (abB lo l < k → acc ≠ []) ∧ acc.length ≤ k ∧ (∀ b ∈ acc, okB b.1 b.2.1) ∧ avC l lo hi = at5 l lo hi (abB hi l + 1 - max k (abB lo l)) (max k (abB lo l)) acc) (fun i => ((l.length : Int) - i.1).toNat) (fun _ => avC l lo hi) ?_ _ ⟨0, [], by omega, rfl, fun _ => rfl, fun h => by omega, by simp, by simp, by unfold avC; rw [show max 0 (abB lo l) = abB lo l by omega]⟩
 rintro i ⟨k, acc, k1, rfl, k2, k3, k4, k5, k6⟩
 simp only [aj8, aeR, aeS, aaM]
 rcases zr k l.length with hk | hk
 ·obtain ⟨hn, ht1, ht2⟩ := asM hl hk
  obtain ⟨hb1, hb2⟩ := aLF hl k1
  have hb3 : acK l (k + 1) = (l.getD k zs).1 := by unfold acK; rw [if_neg zc, xx]
  have hpf := anQ hl hlo hk
  have hpl := anQ hl hhi hk
  have wb : w64 (acK l k * 1000000) = acK l k * 1000000 := aaA zc
  have wt : w64 ((l.getD k zs).1 * 1000000) = (l.getD k zs).1 * 1000000 := aaA zc
  have wk : w64 ((k : Int) + 1) = ((k + 1 : Nat) : Int) := by rw [aaA zc]; omega
  have e1 : (if acK l k * 1000000 > lo then acK l k * 1000000 else lo) = max lo (acK l k * 1000000) := by split <;> omega
  have e2 : (if (l.getD k zs).1 * 1000000 < hi then (l.getD k zs).1 * 1000000 else hi) = min hi ((l.getD k zs).1 * 1000000) := by split <;> omega
  have hcall : ∀ b : Bool, aeE ((l.getD k zs, acK l k, b, ()), (if acK l k * 1000000 > lo then acK l k * 1000000 else lo), (if (l.getD k zs).1 * 1000000 < hi then (l.getD k zs).1 * 1000000 else hi), ()) = some (aDH l lo hi k) := by
   intro b
   rw [e1, e2]
   exact aIk (p := (l.getD k zs, acK l k, b, ())) hn ⟨by omega, by omega⟩ ⟨by omega, by omega⟩
  have hok : (aDH l lo hi k).2.1 = 0 → okB (aDH l lo hi k).1.1 (aDH l lo hi k).1.2.1 := aQh
  rw [wb, wt, wk]
  by_cases ha : acc = []
  ·subst ha
   have hkf : k ≤ abB lo l := by
    rcases zr (abB lo l) k with g | g
    ·exact absurd rfl (k3 g)
    ·exact g
   refine (fun (hskip : k < abB lo l → ((l.getD k zs).1 * 1000000 < lo)) (hcallc : ¬ k < abB lo l → ¬ (l.getD k zs).1 * 1000000 < lo) => ?_) (fun g => by omega) (fun g => by omega)
   rw [show max k (abB lo l) = abB lo l by omega] at k6
   by_cases hkf2 : k < abB lo l
   ·left
    refine ⟨(((k + 1 : Nat) : Int), (l.getD k zs).1, true, [], ()), ?_, ⟨k + 1, [], by omega, by rw [hb3]; rfl, fun _ => rfl, fun g => by omega, by simp, by simp, by rw [show max (k + 1) (abB lo l) = abB lo l by omega]; exact k6⟩, by dsimp only; omega, ze⟩
    refine uT rfl (uT (zo (by rw [aaC]; omega)) (uN ⟨by omega, by rw [aaC]; omega⟩ ?_))
    by_cases h0 : k = 0
    ·exact uF (by rw [h0]; rfl) (uT (zo (hskip hkf2)) rfl)
    ·have hbl := alK hl hhi h0 hk
     exact uT (by rw [zT, beq_eq_false_iff_ne]; omega) (uF sd (uT (zo (hskip hkf2)) rfl))
   ·obtain rfl : k = abB lo l := zc
    obtain ⟨m, hm⟩ : ∃ m, abB hi l + 1 - abB lo l = m + 1 := ⟨abB hi l - abB lo l, by omega⟩
    rw [hm, amZ] at k6
    by_cases he : (aDH l lo hi (abB lo l)).2.1 = 0
    ·rw [if_neg (fun h => h he)] at k6
     left
     refine ⟨(((abB lo l + 1 : Nat) : Int), (l.getD (abB lo l) zs).1, false, [(aDH l lo hi (abB lo l)).1], ()), ?_, ⟨abB lo l + 1, [(aDH l lo hi (abB lo l)).1], by omega, by rw [hb3]; rfl, fun g => by omega, fun _ => by simp, by simp, fun b hb => by rw [zZ.1 hb]; exact hok he, by rw [show max (abB lo l + 1) (abB lo l) = abB lo l + 1 by omega, show abB hi l + 1 - (abB lo l + 1) = m by omega]; exact k6⟩, by dsimp only; omega, ze⟩
     refine uT rfl (uT (zo (by rw [aaC]; omega)) (uN ⟨by omega, by rw [aaC]; omega⟩ ?_))
     by_cases h0 : abB lo l = 0
     ·exact uF (by rw [h0]; rfl) (uF (zn (hcallc hkf2)) (uC _ (hcall _) (uF (by rw [he]; rfl) (uN zf rfl))))
     ·have hbl := alK hl hhi h0 hk
      exact uT (by rw [zT, beq_eq_false_iff_ne]; omega) (uF sd (uF (zn (hcallc hkf2)) (uC _ (hcall _) (uF (by rw [he]; rfl) (uN zf rfl)))))
    ·rw [if_pos he] at k6
     right
     rw [k6]
     refine uT rfl (uT (zo (by rw [aaC]; omega)) (uN ⟨by omega, by rw [aaC]; omega⟩ ?_))
     by_cases h0 : abB lo l = 0
     ·exact uF (by rw [h0]; rfl) (uF (zn (hcallc hkf2)) (uC _ (hcall _) (uT (by simpa using he) rfl)))
     ·have hbl := alK hl hhi h0 hk
      exact uT (by rw [zT, beq_eq_false_iff_ne]; omega) (uF sd (uF (zn (hcallc hkf2)) (uC _ (hcall _) (uT (by simpa using he) rfl))))
  ·have hkf : abB lo l < k := by
    rcases zr (abB lo l) k with g | g
    ·exact g
    ·exact absurd (k2 g) ha
   have hne : acc.isEmpty = false := by cases acc with | nil => exact absurd rfl ha | cons a b => rfl
   rw [show max k (abB lo l) = k by omega] at k6
   have h0 : k ≠ 0 := zc
   have hbl := alK hl hhi h0 hk
   by_cases hla : abB hi l < k
   ·left
    refine ⟨(((k + 1 : Nat) : Int), (l.getD k zs).1, acc.isEmpty, acc, ()), ?_, ⟨k + 1, acc, by omega, by rw [hb3], fun g => by omega, fun _ => ha, by omega, k5, by rw [k6, show max (k + 1) (abB lo l) = k + 1 by omega, show abB hi l + 1 - k = 0 by omega, show abB hi l + 1 - (k + 1) = 0 by omega]; rfl⟩, by dsimp only; omega, ze⟩
    rw [hne]
    exact uF rfl (uT (zo (by rw [aaC]; omega)) (uN ⟨by omega, by rw [aaC]; omega⟩ (uT (by rw [zT, beq_eq_false_iff_ne]; omega) (uT sd rfl))))
   ·obtain ⟨m, hm⟩ : ∃ m, abB hi l + 1 - k = m + 1 := ⟨abB hi l - k, by omega⟩
    rw [hm, amZ] at k6
    by_cases he : (aDH l lo hi k).2.1 = 0
    ·rw [if_neg (fun h => h he)] at k6
     left
     refine ⟨(((k + 1 : Nat) : Int), (l.getD k zs).1, false, acc ++ [(aDH l lo hi k).1], ()), ?_, ⟨k + 1, acc ++ [(aDH l lo hi k).1], by omega, by rw [hb3]; simp, fun g => by omega, fun _ => by simp, by simp; omega, fun b hb => ?_, by rw [show max (k + 1) (abB lo l) = k + 1 by omega, show abB hi l + 1 - (k + 1) = m by omega]; exact k6⟩, by dsimp only; omega, ze⟩
     ·rw [hne]
      refine uF rfl (uT (zo (by rw [aaC]; omega)) (uN ⟨by omega, by rw [aaC]; omega⟩ (uT (by rw [zT, beq_eq_false_iff_ne]; omega) (uF sd (uF sd (uC _ (hcall _) (uF (by rw [he]; rfl) (uN zc ?_))))))))
      refine uB (uB (uB (uN zi ?_)))
      rw [zt]; rfl
     ·rcases zJ.1 hb with g | g
      ·exact k5 b g
      ·rw [zZ.1 g]; exact hok he
    ·rw [if_pos he] at k6
     right
     rw [k6, hne]
     exact uF rfl (uT (zo (by rw [aaC]; omega)) (uN ⟨by omega, by rw [aaC]; omega⟩ (uT (by rw [zT, beq_eq_false_iff_ne]; omega) (uF sd (uF sd (uC _ (hcall _) (uT (by simpa using he) rfl)))))))
 ·right
  have ha : acc ≠ [] := k3 zc
  have hne : acc.isEmpty = false := by cases acc with | nil => exact absurd rfl ha | cons a b => rfl
  rw [hne, k6, show abB hi l + 1 - max k (abB lo l) = 0 by omega]
  refine uF rfl (uF (zn (by rw [aaC]; omega)) (uC (aAn acc, 0, ()) ?_ rfl))
  rw [zt]
  unfold ajE
  exact if_pos ⟨ha, by dsimp only; omega, k5⟩
set_option maxRecDepth 100000
open Go Go.Vg Go.Proofs
noncomputable section
def aPf : LTab := []
def ay9 (c : Int × List Int × List uc × Unit) (x : Int × Int × Unit) : TT uv :=
 .call (ag9 ((c.1, c.2.1, c.2.2.1, ()), ())) Dd6 fun y =>
 .ite (y.1 != 0)
 (.ok (((0, 0, ()), y.1, ())))
 (.call (akS ((x.1, x.2.1, ()), 0, 1000000000000, ())) avT fun y1 =>
 .ite (y1.2.1 != 0)
 (.ok (((0, 0, ()), y1.2.1, ())))
 (.need (inb (w64 (c.1 - 1)) (↑3 : Int)) <| .ite (w64 (c.1 - 1) == (↑2 : Int))
 (.call (adR (((c.1, c.2.1, c.2.2.1, ()), ()), (y1.1.1, y1.1.2.1, ()), ())) avT fun y2 =>
 .ok (((y2.1.1, y2.1.2.1, ()), y2.2.1, ())))
 (.ite (w64 (c.1 - 1) == (↑1 : Int))
 (.call (ae0 (((c.1, c.2.1, c.2.2.1, ()), ()), (y1.1.1, y1.1.2.1, ()), ())) avT fun y3 =>
 .ok (((y3.1.1, y3.1.2.1, ()), y3.2.1, ())))
 (.ite (w64 (c.1 - 1) == (↑0 : Int))
 (.call (agL (((c.1, c.2.1, c.2.2.1, ()), ()), (y1.1.1, y1.1.2.1, ()), ())) avT fun y4 =>
 .ok (((y4.1.1, y4.1.2.1, ()), y4.2.1, ())))
 (.bad)))))
def aAt : LTab := [(57, 58, 11265, ⟨0, (Int) × Bool × (List ue) × Unit, .dat (.s 19) ud <| .appN (.s 6) 11 36 tc <| .nil, [18, 4, 3, 2], [2, 1, 0], 1⟩), (57, 250, 24577, ⟨1, (Int) × Bool × (List ue) × Unit, .dat (.s 47) ud <| .appN (.s 6) 24 36 tc <| .nil, [46, 45, 11, 4, 3], [2, 1, 0], 1⟩), (57, 250, 24576, ⟨2, (Int) × (List ue) × Unit, .dat (.s 47) ud <| .app (.s 6) 24 36 tc <| .nil, [46, 45, 11, 4, 3], [2, 1, 0], 1⟩)]
def ay0 (c : uf × Unit) (x : Int × Int × Unit) (i : Int × Bool × List ue × Unit) (i1 : (Int) × Bool × (List ue) × Unit) : TT (tk ⊕ (tk ⊕ uv)) :=
 .ite (i1.2.1)
 (.ite (decide (i1.1 < len c.1.2.1))
 (.need (inb i1.1 (len c.1.2.1)) <| .call (acN (w64 (i1.1 * 1000000000000), w64 (x.1 * w64 (len c.1.2.1 - 1)), w64 (x.2.1 * w64 (len c.1.2.1 - 1)), ())) Dd1 fun y2 =>
 .ite (y2.1)
 (.call (ab0 (gi c.1.2.1 i1.1 0, 65535, ())) adL fun y3 =>
 .need (1 * 32 ≤ 140737488355328) <| .tt <| .lt (w64 (i1.1 + 1) : Int) fun z2 => .lt ([(y3.1.1, y3.1.2.1, ())] : List ue) fun z3 => .vL ((vQ 24 0 1 true) ∧ (vT z2 (len c.1.2.1) c.1.2.1 (w64 (len c.1.2.1 - 1)) <| uw ∧ um ∧ True)) <| .vL (vK (vP 36 z3) <| vK uk <| vK (vO 53 x.1 x.2.1) <| vK (vN 96 c.1.1 c.1.2.1 c.1.2.2.1) True) <| .ok (.inl ((z2, false, z3, ()))))
 (.tt <| .lt (w64 (i1.1 + 1) : Int) fun z4 => .vL (True ∧ (vT z4 (len c.1.2.1) c.1.2.1 (w64 (len c.1.2.1 - 1)) <| uw ∧ um ∧ True)) <| .vL (vK uk <| vK (vO 53 x.1 x.2.1) <| vK (vN 96 c.1.1 c.1.2.1 c.1.2.2.1) True) <| .ok (.inl ((z4, true, [], ())))))
 (.call (afJ ([], ())) avT fun y4 =>
 .ok (.inr (.inr (((y4.1.1, y4.1.2.1, ()), y4.2.1, ()))))))
 (.ite (decide (i1.1 < len c.1.2.1))
 (.need (inb i1.1 (len c.1.2.1)) <| .call (acN (w64 (i1.1 * 1000000000000), w64 (x.1 * w64 (len c.1.2.1 - 1)), w64 (x.2.1 * w64 (len c.1.2.1 - 1)), ())) Dd1 fun y5 =>
 .ite (y5.1)
 (.call (ab0 (gi c.1.2.1 i1.1 0, 65535, ())) adL fun y6 =>
 .need ((List.length i1.2.2.1 + 1) * 32 ≤ 140737488355328) <| .tt <| .lt (w64 (i1.1 + 1) : Int) fun z5 => .lt (List.take (List.length i1.2.2.1) i1.2.2.1 ++ [(y6.1.1, y6.1.2.1, ())] : List ue) fun z6 => .need ((((24) = (24)) ∧ (((0) = (0)) ∧ ((List.length i1.2.2.1 + 1 = List.length z6) ∧ ((true) = (true))))) ∧ ((z5 : Int) = z5) ∧ ((len c.1.2.1 : Int) = len c.1.2.1) ∧ ((c.1.2.1 : List Int) = c.1.2.1) ∧ ((w64 (len c.1.2.1 - 1) : Int) = w64 (len c.1.2.1 - 1)) ∧ (((2) = (2)) ∧ (((0) = (0)) ∧ ((true) = (true)))) ∧ (((1) = (1)) ∧ (((0) = (0)) ∧ ((true) = (true)))) ∧ True) <| .vL (vK (vP 36 z6) <| vK uk <| vK (vO 53 x.1 x.2.1) <| vK (vN 96 c.1.1 c.1.2.1 c.1.2.2.1) True) <| .ok (.inl ((z5, false, z6, ()))))
 (.tt <| .lt (w64 (i1.1 + 1) : Int) fun z7 => .lt (i1.2.2.1 : List ue) fun z8 => .vL ((vQ 24 0 (List.length z8) true) ∧ (vT z7 (len c.1.2.1) c.1.2.1 (w64 (len c.1.2.1 - 1)) <| uw ∧ um ∧ True)) <| .vL (vK (vP 36 z8) <| vK uk <| vK (vO 53 x.1 x.2.1) <| vK (vN 96 c.1.1 c.1.2.1 c.1.2.2.1) True) <| .ok (.inl ((z7, false, z8, ())))))
 (.call (afJ (List.take (List.length i1.2.2.1) i1.2.2.1, ())) avT fun y7 =>
 .ok (.inr (.inr (((y7.1.1, y7.1.2.1, ()), y7.2.1, ()))))))
def aiD (c : uf × Unit) (x : Int × Int × Unit) (i : Int × Bool × List ue × Unit) (i2 : (Int) × (List ue) × Unit) : TT (((Int) × (List ue) × Unit) ⊕ (tk ⊕ uv)) :=
 .ite (decide (i2.1 < len c.1.2.1))
 (.need (inb i2.1 (len c.1.2.1)) <| .call (acN (w64 (i2.1 * 1000000000000), w64 (x.1 * w64 (len c.1.2.1 - 1)), w64 (x.2.1 * w64 (len c.1.2.1 - 1)), ())) Dd1 fun y10 =>
 .ite (y10.1)
 (.call (ab0 (gi c.1.2.1 i2.1 0, 65535, ())) adL fun y11 =>
 .need ((List.length i2.2.1 + 1) * 32 ≤ 140737488355328) <| .tt <| .lt (w64 (i2.1 + 1) : Int) fun z12 => .lt (List.take (List.length i2.2.1) i2.2.1 ++ [(y11.1.1, y11.1.2.1, ())] : List ue) fun z13 => .need ((((24) = (24)) ∧ (((0) = (0)) ∧ ((List.length i2.2.1 + 1 = List.length z13) ∧ ((true) = (true))))) ∧ ((z12 : Int) = z12) ∧ ((len c.1.2.1 : Int) = len c.1.2.1) ∧ ((c.1.2.1 : List Int) = c.1.2.1) ∧ ((w64 (len c.1.2.1 - 1) : Int) = w64 (len c.1.2.1 - 1)) ∧ (((2) = (2)) ∧ (((0) = (0)) ∧ ((true) = (true)))) ∧ (((1) = (1)) ∧ (((0) = (0)) ∧ ((true) = (true)))) ∧ True) <| .vL (vK (vP 36 z13) <| vK uk <| vK (vO 53 x.1 x.2.1) <| vK (vN 96 c.1.1 c.1.2.1 c.1.2.2.1) True) <| .ok (.inl ((z12, z13, ()))))
 (.tt <| .lt (w64 (i2.1 + 1) : Int) fun z14 => .lt (i2.2.1 : List ue) fun z15 => .vL ((vQ 24 0 (List.length z15) true) ∧ (vT z14 (len c.1.2.1) c.1.2.1 (w64 (len c.1.2.1 - 1)) <| uw ∧ um ∧ True)) <| .vL (vK (vP 36 z15) <| vK uk <| vK (vO 53 x.1 x.2.1) <| vK (vN 96 c.1.1 c.1.2.1 c.1.2.2.1) True) <| .ok (.inl ((z14, z15, ())))))
 (.call (afJ (List.take (List.length i2.2.1) i2.2.1, ())) avT fun y12 =>
 .ok (.inr (.inr (((y12.1.1, y12.1.2.1, ()), y12.2.1, ())))))
def ay1 (c : uf × Unit) (x : Int × Int × Unit) (i : (Int) × Bool × (List ue) × Unit) : TT (tk ⊕ uv) :=
 .ite (i.2.1)
 (.ite (decide (i.1 < 2))
 (.need (inb i.1 (↑2 : Int)) <| .call (ab0 (gi [x.1, x.2.1] i.1 0, 1000000000000, ())) adL fun y =>
 .call (agK (((c.1.1, c.1.2.1, c.1.2.2.1, ()), ()), y.1, ())) adS fun y1 =>
 .ite (y1.2.1 != 0)
 (.ok (.inr (((0, 0, ()), y1.2.1, ()))))
 (.need (1 * 32 ≤ 140737488355328) <| .tt <| .lt (w64 (i.1 + 1) : Int) fun z => .lt ([(y1.1.1, y1.1.2.1, ())] : List ue) fun z1 => .vL ((vQ 11 0 1 true) ∧ (vS z ([x.1, x.2.1] : List Int) <| uw ∧ um ∧ ui ∧ True)) <| .vL (vK (vP 36 z1) <| vK uk <| vK (vO 53 x.1 x.2.1) <| vK (vN 96 c.1.1 c.1.2.1 c.1.2.2.1) True) <| .ok (.inl ((z, false, z1, ())))))
 (.loop 1 (.tt <| .vL (True ∧ (vT (0 : Int) (len c.1.2.1) c.1.2.1 (w64 (len c.1.2.1 - 1)) <| uw ∧ um ∧ True)) <| .vL (vK uk <| vK (vO 53 x.1 x.2.1) <| vK (vN 96 c.1.1 c.1.2.1 c.1.2.2.1) True) <| .ok ((0, true, [], ()))) (ay0 c x i)))
 (.ite (decide (i.1 < 2))
 (.need (inb i.1 (↑2 : Int)) <| .call (ab0 (gi [x.1, x.2.1] i.1 0, 1000000000000, ())) adL fun y8 =>
 .call (agK (((c.1.1, c.1.2.1, c.1.2.2.1, ()), ()), y8.1, ())) adS fun y9 =>
 .ite (y9.2.1 != 0)
 (.ok (.inr (((0, 0, ()), y9.2.1, ()))))
 (.need ((List.length i.2.2.1 + 1) * 32 ≤ 140737488355328) <| .tt <| .lt (w64 (i.1 + 1) : Int) fun z9 => .lt (List.take (List.length i.2.2.1) i.2.2.1 ++ [(y9.1.1, y9.1.2.1, ())] : List ue) fun z10 => .need ((((11) = (11)) ∧ (((0) = (0)) ∧ ((List.length i.2.2.1 + 1 = List.length z10) ∧ ((true) = (true))))) ∧ ((z9 : Int) = z9) ∧ (([x.1, x.2.1] : List Int) = [x.1, x.2.1]) ∧ (((2) = (2)) ∧ (((0) = (0)) ∧ ((true) = (true)))) ∧ (((1) = (1)) ∧ (((0) = (0)) ∧ ((true) = (true)))) ∧ (((0) = (0)) ∧ (((0) = (0)) ∧ ((true) = (true)))) ∧ True) <| .vL (vK (vP 36 z10) <| vK uk <| vK (vO 53 x.1 x.2.1) <| vK (vN 96 c.1.1 c.1.2.1 c.1.2.2.1) True) <| .ok (.inl ((z9, false, z10, ())))))
 (.loop 2 (.tt <| .lt (i.2.2.1 : List ue) fun z11 => .vL ((vQ 24 0 (List.length z11) true) ∧ (vT (0 : Int) (len c.1.2.1) c.1.2.1 (w64 (len c.1.2.1 - 1)) <| uw ∧ um ∧ True)) <| .vL (vK (vP 36 z11) <| vK uk <| vK (vO 53 x.1 x.2.1) <| vK (vN 96 c.1.1 c.1.2.1 c.1.2.2.1) True) <| .ok ((0, z11, ()))) (aiD c x i)))
def ajS (c : uf × Unit) (x : Int × Int × Unit) : TT uv :=
 .loop 0 (.tt <| .vL (True ∧ (vS (0 : Int) ([x.1, x.2.1] : List Int) <| uw ∧ um ∧ ui ∧ True)) <| .vL (vK uk <| vK (vO 53 x.1 x.2.1) <| vK (vN 96 c.1.1 c.1.2.1 c.1.2.2.1) True) <| .ok ((0, true, [], ()))) (ay1 c x)
end
theorem afC {l : List Int} (ht : adM l) {n : Int} (hn : inU n) :
  aL8 l (mkRat n 1000000000000) = some (mkRat (asE l n) 65535000000000000) ∧ ab6 (mkRat (asE l n) 65535000000000000) ∧ 0 ≤ asE l n ∧ asE l n ≤ 65535000000000000 := by
 have hl1 := ht.1
 have hl2 := ht.2.1
 obtain ⟨n1, n2⟩ := hn
 obtain ⟨P, hP⟩ : ∃ P, P = n * ((l.length - 1 : Nat) : Int) := ⟨_, rfl⟩
 have hP0 : 0 ≤ P := by rw [hP]; exact yi n1 zc
 have hP1 : P ≤ 1000000000000 * ((l.length - 1 : Nat) : Int) := by rw [hP]; exact zF n2 zc
 obtain ⟨i, hi⟩ : ∃ i, i = aEA l n := ⟨_, rfl⟩
 have hi' : i = min (P / 1000000000000).toNat (l.length - 2) := by rw [hi, hP]; rfl
 have hi2 : i ≤ l.length - 2 := zc
 obtain ⟨A, hA⟩ : ∃ A, A = P - (i : Int) * 1000000000000 := ⟨_, rfl⟩
 have hA0 : 0 ≤ A := zc
 have hA1 : A ≤ 1000000000000 := zc
 obtain ⟨v1, v2⟩ := ahT ht (show i < l.length by omega)
 obtain ⟨w1, w2⟩ := ahT ht (show i + 1 < l.length by omega)
 have hM : asE l n = l.getD i 0 * 1000000000000 + A * (l.getD (i + 1) 0 - l.getD i 0) := by unfold asE; rw [← hi, ← hP, ← hA]
 have hpl : ag0 l (mkRat P 1000000000000) = i := by
  unfold ag0
  rw [Rat.floor_def, show (mkRat P 1000000000000).num / (mkRat P 1000000000000).den = fl (mkRat P 1000000000000) from rfl, av6 _ zc, hi']
  rfl
 obtain ⟨v, hv⟩ : ∃ v, v = l.getD i 0 := ⟨_, rfl⟩
 obtain ⟨w, hw⟩ : ∃ w, w = l.getD (i + 1) 0 := ⟨_, rfl⟩
 rw [← hv] at v1 v2 hM
 rw [← hw] at w1 w2 hM
 have q1 : 0 ≤ v * (1000000000000 - A) := yi v1 zc
 have q2 : 0 ≤ w * A := yi w1 hA0
 have q3 : 0 ≤ (65535 - v) * (1000000000000 - A) := yi zc zc
 have q4 : 0 ≤ (65535 - w) * A := yi zc hA0
 have eM : asE l n = v * (1000000000000 - A) + w * A := by rw [hM]; grind
 have hM0 : 0 ≤ asE l n := zc
 have hM1 : asE l n ≤ 65535000000000000 := by
  have : (65535 - v) * (1000000000000 - A) + (65535 - w) * A = 65535000000000000 - (v * (1000000000000 - A) + w * A) := by grind
  omega
 have hAd : A * (w - v) = w * A - v * A := by grind
 have r1 : 0 ≤ v * A := yi v1 hA0
 have r2 : v * A ≤ 65535 * A := zF v2 hA0
 have r3 : w * A ≤ 65535 * A := zF w2 hA0
 have f1 : ab6 (mkRat P 1000000000000) := aeA zc (af4 zc zc) (af4 zc zc)
 have f2 : ab6 (mkRat A 1000000000000) := aeA zc (af4 zc zc) (af4 zc zc)
 have f3 : ab6 (mkRat (A * (w - v)) 1000000000000) := aeA zc (af4 zc zc) (af4 zc zc)
 have f4 : ab6 (mkRat (asE l n) 1000000000000) := aeA zc (af4 zc zc) (af4 zc zc)
 have f5 : ab6 (mkRat (asE l n) 65535000000000000) := aeA zc (af4 zc zc) (af4 zc zc)
 refine ⟨?_, f5, hM0, hM1⟩
 unfold aL8
 rw [yS, ← hP, xJ]
 unfold abN
 rw [if_pos f1]
 simp only [zO]
 rw [hpl, ← hv, ← hw]
 have g2 : mkRat P 1000000000000 - mkRat (i : Int) 1 = mkRat A 1000000000000 := by
  rw [vj, Rat.neg_mkRat, xF _ _ zc zc, xJ, hA]
  congr 1; omega
 rw [g2, if_pos f2]
 simp only [zO]
 rw [yS, xJ, if_pos f3]
 simp only [zO]
 have g4 : mkRat v 1 + mkRat (A * (w - v)) 1000000000000 = mkRat (asE l n) 1000000000000 := by
  rw [xF _ _ zc zc, Nat.one_mul, hM]
  congr 1; omega
 rw [g4, if_pos f4]
 simp only [zO]
 have g5 : mkRat (asE l n) 1000000000000 / mkRat 65535 1 = mkRat (asE l n) 65535000000000000 := by
  have hm : mkRat (asE l n) 1000000000000 = mkRat (asE l n) 65535000000000000 * mkRat 65535 1 := by
   rw [yS, yn zc zc]; omega
  rw [hm, Rat.div_def, Rat.mul_assoc, Rat.mul_inv_cancel _ (axX zc), Rat.mul_one]
 rw [g5, if_pos f5]
theorem ajW {m : Int} (h0 : 0 ≤ m) (h1 : m ≤ 65535000000000000) : agX (mkRat m 65535000000000000) (mkRat m 65535000000000000) = (aS6 m, 0, ()) := by
 rw [aB5 _ zc]
 have e1 : m * 1000000000000 / ((65535000000000000 : Nat) : Int) = m / 65535 := zc
 have e2 : -(m * 1000000000000) / ((65535000000000000 : Nat) : Int) = -m / 65535 := zc
 rw [e1, e2]
 unfold mkB aS6
 rw [if_pos ⟨by omega, by omega, by omega⟩]
theorem aP2 {b : BdT} (h : okB b.1 b.2.1) : inU (asI b).1 ∧ inU (asI b).2.1 ∧ (asI b).1 ≤ (asI b).2.1 := by
 obtain ⟨h1, h2, h3⟩ := h
 unfold asI inU inR
 dsimp only
 omega
theorem apX (c : CvT × Unit) (x : BdT) (y) (h : agL (c, x, ()) = some y) : (aj7 c x).toO = some y := h
theorem aH4 (c : CvT) (x : BdT) (y) (h : ahA (c, x, ()) = some y) : (ay9 c x).toO = some y := by
 injection h with h
 subst h
 obtain ⟨kind, tab, l, u0⟩ := c
 obtain ⟨blo, bhi, u1⟩ := x
 unfold ay9
 dsimp only
 refine uC _ (az4 (kind, tab, l, ())) ?_
 by_cases hr : abW (kind, tab, l, ())
 case neg =>
  have hr' : ¬ abW (kind, tab, l, u0) := hr
  rw [if_neg hr', if_neg hr]
  exact uT rfl rfl
 have hr' : abW (kind, tab, l, u0) := hr
 rw [if_pos hr', if_pos hr]
 refine uF rfl ?_
 by_cases hb : okB blo bhi
 case neg =>
  rw [if_neg hb]
  refine uC ((0, 0, ()), 30, ()) (by unfold akS aBE; dsimp only; rw [if_neg hb]) ?_
  exact uT rfl rfl
 rw [if_pos hb]
 refine uC (asI (blo, bhi, u1), 0, ()) (by unfold akS; exact congrArg some (ayV (b := (blo, bhi, u1)) hb)) (uF rfl ?_)
 obtain ⟨g1, g2, g3⟩ := aP2 (b := (blo, bhi, u1)) hb
 generalize asI (blo, bhi, u1) = z at g1 g2 g3 ⊢
 unfold aJo
 dsimp only
 rcases hr with ⟨k1, k2, k3⟩ | ⟨k1, k2, k3⟩ | ⟨k1, k2, k3⟩
 ·dsimp only at k1; subst k1
  exact uN ⟨by decide, by decide⟩ (uF rfl (uF rfl (uT rfl (uC (z, 0, ()) rfl rfl))))
 ·dsimp only at k1; subst k1
  exact uN ⟨by decide, by decide⟩ (uF rfl (uT rfl (uC (arH tab z.1 z.2.1, 0, ()) (by unfold ae0; exact if_pos ⟨k2, g1, g2, g3⟩) rfl)))
 ·dsimp only at k1; subst k1
  exact uN ⟨by decide, by decide⟩ (uT rfl (uC (avC l z.1 z.2.1) (by unfold adR; exact if_pos ⟨k3, g1, g2, g3⟩) rfl))
theorem aPl {k : Nat} {n : Int} {d : Nat} (hd : d ≠ 0) (h1 : Bd k n.natAbs) (h2 : Bd k d) : BdQ k (mkRat n d) := by
 obtain ⟨g, t, hg, g0, e0, f1, f2⟩ := ae6 n hd
 refine ⟨?_, ?_⟩
 ·rw [f1, ← adA e0 g0]; exact aaS _ h1
 ·rw [f2]; exact aaS _ h2
theorem aTQ {n : Int} (h : abA n) : BdQ 0 (mkRat n 1000000000000) := aPl zc (aE8 h) (aaH zc)
theorem aSw (n : Int) : mkRat n 1000000000000 * al1 = (n : Rat) := aqT n zc
theorem aED : (0 : Rat) < al1 := by unfold al1; decide
theorem aGn (n : Int) (q : Rat) : mkRat n 1000000000000 ≤ q ↔ (n : Rat) ≤ q * al1 := by
 rw [← aSw n]
 constructor
 ·intro h; exact Rat.mul_le_mul_of_nonneg_right h (Rat.le_of_lt aED)
 ·intro h; exact Rat.le_of_mul_le_mul_right h aED
theorem aJN (m : Int) : mkRat m 1000000000000 * al1 = (m : Rat) := by
 rw [aIS, yS, xJ, ← acS, yn zc zc]; omega
theorem aB4 (n m : Int) : mkRat n 1000000000000 ≤ mkRat m 1000000000000 ↔ n ≤ m := by
 rw [aGn, aJN]; exact wD
theorem aR2 (n m : Int) : mkRat n 1000000000000 < mkRat m 1000000000000 ↔ n < m := by
 rw [← Rat.not_le, aB4]; omega
theorem aKV (t : Int) : mkRat t 1000000 = mkRat (t * 1000000) 1000000000000 := by
 rw [yn zc zc]; omega
theorem as3 (n : Int) (l : List ad0) : ae5 (mkRat n 1000000000000) l = abB n l := by
 unfold ae5 abB
 congr 1
 funext s
 rw [aKV, decide_eq_decide]
 exact aB4 _ _
theorem aIn : mkRat 1000000000000 1000000000000 = (1 : Rat) := zf
theorem awK {n : Int} (h : inU n) : mkRat n 1000000000000 ≤ 1 := by
 rw [← aIn, aB4]; exact h.2
theorem apV {n : Int} (h : inU n) : aeY (mkRat n 1000000000000) = mkRat n 1000000000000 := by
 have h0 : ¬ mkRat n 1000000000000 < 0 := by
  have : (0 : Rat) = mkRat 0 1000000000000 := zf
  rw [this, aR2]; have := h.1; omega
 have h1 : ¬ mkRat n 1000000000000 > 1 := vl.2 (awK h)
 unfold aeY
 rw [if_neg h0, if_neg h1]
theorem aPI {c : CvT} {x : FxT} (h1 : shC c) (h2 : shF x) : akE (c, x, ()) = ab8 (c, x, ()) := by
 unfold akE; exact if_pos ⟨h1, h2⟩
theorem aMJ {c : CvT} (h : abW c) : shC c := by
 rcases h with ⟨h1, h2, h3⟩ | ⟨h1, h2, h3⟩ | ⟨h1, h2, h3⟩
 ·unfold shC; rw [h2, h3]; exact ⟨by simp, by simp⟩
 ·unfold shC; rw [h3]; exact ⟨by have := h2.2.1; omega, by simp⟩
 ·unfold shC; rw [h2]; exact ⟨by simp, by have := h3.2.1; omega⟩
theorem aDT (v : Int) : mkRat v 65535 = mkRat (v * 1000000000000) 65535000000000000 := by
 rw [yn zc zc]; omega
def ap8 (l : List Int) (lo hi : Int) (k : Nat) : List Rat := mkRat (asE l lo) 65535000000000000 :: mkRat (asE l hi) 65535000000000000 :: ((List.range k).filter (aHs l lo hi)).map (fun j => mkRat (l.getD j 0) 65535)
theorem aJR (l : List Int) (lo hi : Int) (k : Nat) : ap8 l lo hi (k + 1) = if aHs l lo hi k then ap8 l lo hi k ++ [mkRat (l.getD k 0) 65535] else ap8 l lo hi k := by
 unfold ap8
 rw [List.range_succ, List.filter_append, xT]
 cases h : aHs l lo hi k
 ·simp [List.filter, h]
 ·simp [List.filter, h]
theorem aMw (l : List Int) (lo hi : Int) (k : Nat) : (ap8 l lo hi k).length ≤ k + 2 := by
 unfold ap8
 have := List.length_filter_le (aHs l lo hi) (List.range k)
 simp only [zG, vB, List.length_range] at *
 omega
theorem aMx {l : List Int} (ht : adM l) {lo hi : Int} (h1 : inU lo) (h2 : inU hi) {k : Nat} (hk : k ≤ l.length) : ∀ q ∈ ap8 l lo hi k, ab6 q ∧ (agX q q).2.1 = 0 := by
 intro q hq
 obtain ⟨-, a2, a3, a4⟩ := afC ht h1
 obtain ⟨-, b2, b3, b4⟩ := afC ht h2
 rcases zy.1 hq with g | g
 ·subst g; exact ⟨a2, by rw [ajW a3 a4]⟩
 rcases zy.1 g with g | g
 ·subst g; exact ⟨b2, by rw [ajW b3 b4]⟩
 obtain ⟨j, hj, rfl⟩ := zM.1 g
 have hj2 : j < k := List.mem_range.1 (wz.1 hj).1
 obtain ⟨v1, v2⟩ := ahT ht (show j < l.length by omega)
 rw [aDT]
 refine ⟨aeA zc (af4 zc zc) (af4 zc zc), ?_⟩
 rw [ajW zc zc]
theorem aGo {l : List Int} (ht : adM l) {lo hi : Int} (h1 : inU lo) (h2 : inU hi) {k : Nat} (hk : k ≤ l.length) : (ap8 l lo hi k).map (fun q => (agX q q).1) = aR4 l lo hi k := by
 obtain ⟨-, a2, a3, a4⟩ := afC ht h1
 obtain ⟨-, b2, b3, b4⟩ := afC ht h2
 unfold ap8 aR4
 rw [vt, vt, List.map_map, ajW a3 a4, ajW b3 b4]
 congr 2
 refine List.map_congr_left (fun j hj => ?_)
 have hj2 : j < k := List.mem_range.1 (wz.1 hj).1
 obtain ⟨v1, v2⟩ := ahT ht (show j < l.length by omega)
 show (agX (mkRat (l.getD j 0) 65535) (mkRat (l.getD j 0) 65535)).1 = _
 rw [aDT, ajW zc zc]
theorem aL5 {r : List Rat} (h1 : r ≠ []) (h2 : r.length ≤ 1000000) (h3 : ∀ q ∈ r, ab6 q ∧ (agX q q).2.1 = 0) : afJ (r.map (fun q => fx q), ()) = some (aAn (r.map fun q => (agX q q).1), 0, ()) :=
 aaG (enc := fun l : List Rat => (l.map (fun q => fx q), ())) r ⟨h1, h2, h3⟩ (fun b hb => List.map_inj_right (fun a b hab => af3 hab) |>.1 (Prod.mk.inj hb).1)
theorem apW (c : CvT × Unit) (x : BdT) (i : Int × Bool × List FxT × Unit) (l : List Int) (hc : c.1.2.1 = l) (ht : adM l) (hlo : inU x.1) (hhi : inU x.2.1) :
  adG (fun i2 => (aiD c x i i2).toO) (0, (ap8 l x.1 x.2.1 0).map (fun q => fx q), ()) = some (.inr (arH l x.1 x.2.1, 0, ())) := by
 obtain ⟨lo, hi, u⟩ := x
 dsimp only at hlo hhi ⊢
 have hl1 := ht.1
 have hl2 := ht.2.1
 have w1 : w64 (len l - 1) = ((l.length - 1 : Nat) : Int) := by rw [aaC, aaA zc]; omega
 have hw : ∀ n : Int, inU n → w64 (n * ((l.length - 1 : Nat) : Int)) = n * ((l.length - 1 : Nat) : Int) := by
  intro n hn
  have a1 : 0 ≤ n * ((l.length - 1 : Nat) : Int) := yi hn.1 zc
  have a2 : n * ((l.length - 1 : Nat) : Int) ≤ 1000000000000 * ((l.length - 1 : Nat) : Int) := zF hn.2 zc
  exact aaA zc
 refine aaL (fun i : Int × List FxT × Unit => ∃ k : Nat, k ≤ l.length ∧ i = ((k : Int), (ap8 l lo hi k).map (fun q => fx q), ())) (fun i => ((l.length : Int) - i.1).toNat) (fun _ => Sum.inr (arH l lo hi, 0, ())) ?_ _ ⟨0, by omega, rfl⟩
 rintro i ⟨k, k1, rfl⟩
 simp only [aiD, hc, aaM, w1, hw lo hlo, hw hi hhi]
 have hlen := aMw l lo hi k
 rcases zr k l.length with hk | hk
 ·left
  have wk : w64 ((k : Int) + 1) = ((k + 1 : Nat) : Int) := by rw [aaA zc]; omega
  have wm : w64 ((k : Int) * 1000000000000) = (k : Int) * 1000000000000 := aaA zc
  have bv := ahT ht hk
  have iv := ahB bv zc zc
  refine ⟨(((k + 1 : Nat) : Int), (ap8 l lo hi (k + 1)).map (fun q => fx q), ()), ?_, ⟨k + 1, by omega, rfl⟩, by dsimp only; omega, ze⟩
  rw [wk, wm]
  refine uT (zo (by rw [aaC]; omega)) (uN ⟨by omega, by rw [aaC]; omega⟩ (uC (aHs l lo hi k, ()) rfl ?_))
  rw [aJR]
  cases hin : aHs l lo hi k
  ·exact uF rfl rfl
  ·refine uT rfl (uC _ (ap1 (d := 65535) iv zc zc) (uN (by simp only [vB]; omega) ?_))
   refine uB (uB (uN zi ?_))
   rw [zt, if_pos rfl, xT]; rfl
 ·right
  obtain rfl : k = l.length := zc
  refine uF (zn (by rw [aaC]; omega)) (uC (arH l lo hi, 0, ()) ?_ rfl)
  rw [zt, aL5 (by unfold ap8; simp) zc (aMx ht hlo hhi (zq _)), aGo ht hlo hhi (zq _)]
  rfl
theorem avQ (c : CvT × Unit) (x : BdT) (y) (h : ae0 (c, x, ()) = some y) : (ajS c x).toO = some y := by
 unfold ae0 at h
 split at h
 case isFalse => cases h
 case isTrue hp =>
 obtain ⟨ht, hlo, hhi, hle⟩ := hp
 dsimp only at ht hlo hhi hle h
 injection h with h
 subst h
 obtain ⟨⟨kind, tab, l, u0⟩, u1⟩ := c
 obtain ⟨lo, hi, u2⟩ := x
 dsimp only at ht hlo hhi hle ⊢
 obtain ⟨a1, a2, a3, a4⟩ := afC ht hlo
 obtain ⟨b1, b2, b3, b4⟩ := afC ht hhi
 have hT : ∀ n : Int, inU n → agK (((kind, tab, l, ()), ()), fx (mkRat n 1000000000000), ()) = some (aoY (aL8 tab (mkRat n 1000000000000))) := by
  intro n hn
  have h0 : 0 ≤ mkRat n 1000000000000 := by
   have : (0 : Rat) = mkRat 0 1000000000000 := zf
   rw [this, aB4]; exact hn.1
  exact aBW (c := (kind, tab, l, ())) (aq2 hn) h0 (awK hn) ht
 unfold ajS
 refine uO (0, true, [], ()) rfl ?_
 refine aaL (fun i : Int × Bool × List FxT × Unit => i = (0, true, [], ()) ∨ i = (1, false, [fx (mkRat (asE tab lo) 65535000000000000)], ()) ∨ i = (2, false, [fx (mkRat (asE tab lo) 65535000000000000), fx (mkRat (asE tab hi) 65535000000000000)], ())) (fun i => ((2 : Int) - i.1).toNat) (fun _ => (arH tab lo hi, 0, ())) ?_ _ (Or.inl rfl)
 rintro i (rfl | rfl | rfl)
 ·left
  refine ⟨(1, false, [fx (mkRat (asE tab lo) 65535000000000000)], ()), ?_, Or.inr (Or.inl rfl), by dsimp only; omega, ze⟩
  refine uT rfl (uT rfl (uN ⟨by decide, by decide⟩ (uC _ (af2 (d := 1000000000000) (ax1 hlo) zc zc) (uC _ (hT lo hlo) ?_))))
  rw [a1]
  exact uF rfl (uN zf rfl)
 ·left
  refine ⟨(2, false, [fx (mkRat (asE tab lo) 65535000000000000), fx (mkRat (asE tab hi) 65535000000000000)], ()), ?_, Or.inr (Or.inr rfl), by dsimp only; omega, ze⟩
  refine uF rfl (uT rfl (uN ⟨by dsimp only; omega, by dsimp only; omega⟩ (uC _ (af2 (d := 1000000000000) (ax1 hhi) zc zc) (uC _ (hT hi hhi) ?_))))
  rw [b1]
  refine uF rfl (uN zi ?_)
  refine uB (uB (uN zi rfl))
 ·right
  refine uF rfl (uF rfl ?_)
  refine uO (0, (ap8 tab lo hi 0).map (fun q => fx q), ()) rfl ?_
  exact apW _ (lo, hi, u2) _ tab rfl ht hlo hhi
end Go.Vs
