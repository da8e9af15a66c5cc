/-
  The engine, part F: that constants, cells and data are read as the evaluator says. Own work; no condition.
-/
import Derived.Test.YtbdojimkdgajgaaGreatDoorEngE
namespace Go.Vg
open Go Go.RowKit

section
variable {C : Ctx} {ρ : Nat → Nat} {H : Heap} {w : World}

theorem RdV.scalar {ok : Nat → Prop} {t : Ty} {x : t.T} {v : Value} (ht : t.agg = false) (h : RdV ok w t x v) : Rd ok w t x [v] := by
  obtain ⟨cs, h1, h2⟩ := h
  simp only [vOf, ht] at h2
  simp at h2
  subst h2; exact h1

theorem RdV.of_scalar {ok : Nat → Prop} {t : Ty} {x : t.T} {v : Value} (ht : t.agg = false) (h : Rd ok w t x [v]) : RdV ok w t x v :=
  ⟨[v], h, by simp [vOf, ht]⟩

theorem VR.datum {t : Ty} {x : t.T} {v : Value} (h : VR C ρ H w (.d t x) v) : RdV (Ok C ρ H w) w t x v := by
  cases h with
  | d h => exact h

theorem VR.as {t u : Ty} {x : t.T} {y : u.T} {v : Value} (h : VR C ρ H w (.d t x) v) (e : t.as u x = some y) : RdV (Ok C ρ H w) w u y v := by
  obtain ⟨e, he⟩ := Ty.as_some e
  subst e
  subst he
  exact h.datum

theorem VRs.length {as : List AV} {vs : List Value} (h : VRs C ρ H w as vs) : as.length = vs.length := by
  induction as generalizing vs with
  | nil => cases h; rfl
  | cons a as ih =>
    cases h with
    | cons h1 h2 => simp [ih h2]

theorem VRs.append {as bs : List AV} {vs us : List Value} (h : VRs C ρ H w as vs) (h' : VRs C ρ H w bs us) : VRs C ρ H w (as ++ bs) (vs ++ us) := by
  induction as generalizing vs with
  | nil => cases h; exact h'
  | cons a as ih =>
    cases h with
    | cons h1 h2 => exact .cons h1 (ih h2)

theorem VRs.get {as : List AV} {vs : List Value} (h : VRs C ρ H w as vs) {i : Nat} {a : AV} (ha : as[i]? = some a) : ∃ v, vs[i]? = some v ∧ VR C ρ H w a v := by
  induction as generalizing vs i with
  | nil => simp at ha
  | cons b as ih =>
    cases h with
    | cons h1 h2 =>
      cases i with
      | zero => simp at ha; subst ha; exact ⟨_, rfl, h1⟩
      | succ i => simpa using ih h2 (by simpa using ha)

theorem VRs.drop {as : List AV} {vs : List Value} (h : VRs C ρ H w as vs) (n : Nat) : VRs C ρ H w (as.drop n) (vs.drop n) := by
  induction n generalizing as vs with
  | zero => exact h
  | succ n ih =>
    cases h with
    | nil => simp; exact .nil
    | cons h1 h2 => simpa using ih h2

theorem VRs.take {as : List AV} {vs : List Value} (h : VRs C ρ H w as vs) (n : Nat) : VRs C ρ H w (as.take n) (vs.take n) := by
  induction n generalizing as vs with
  | zero => simp; exact .nil
  | succ n ih =>
    cases h with
    | nil => simp; exact .nil
    | cons h1 h2 => simpa using VRs.cons h1 (ih h2)

theorem constAV_sound (v : Value) : VR C ρ H w (constAV v) v := by
  unfold constAV
  split
  · exact .d ⟨_, rfl, rfl⟩
  · rename_i k n
    split
    · rename_i h
      simp only [Bool.and_eq_true, decide_eq_true_eq] at h
      exact .d ⟨_, ⟨rfl, h.1, h.2⟩, rfl⟩
    · exact .no
  · rename_i s
    split
    · rename_i h
      exact .d ⟨_, ⟨rfl, Nat.le_of_ble_eq_true h⟩, rfl⟩
    · exact .no
  · exact .nsl
  · exact .nilp
  · exact .nili
  · exact .no

theorem constAVs_sound (vs : List Value) : VRs C ρ H w (constAVs vs) vs := by
  induction vs with
  | nil => exact .nil
  | cons v vs ih => exact .cons (constAV_sound v) ih

theorem allOne_sound {vs : List Value} (h : allOne vs = true) : ∀ v ∈ vs, v.oneCell' = true := by
  induction vs with
  | nil => intro v hv; cases hv
  | cons u vs ih =>
    intro v hv
    simp only [allOne] at h
    cases hu : u.oneCell' with
    | false => rw [hu] at h; cases h
    | true =>
      rw [hu] at h
      rcases List.mem_cons.1 hv with rfl | hv
      · exact hu
      · exact ih h v hv

theorem unpackN_sound {α : Type} {R : α → List Value → Prop} {f : α → List AV} {d : α} (hf : ∀ x cs, R x cs → VRs C ρ H w (f x) cs) :
    ∀ (l : List α) (cs : List Value), RdL R l cs → VRs C ρ H w (unpack.unpackN f d l.length l) cs
  | [], cs, h => by simp [RdL] at h; subst h; exact .nil
  | x :: xs, cs, ⟨c1, c2, e, h1, h2⟩ => by
    subst e
    exact (hf x c1 h1).append (unpackN_sound hf xs c2 h2)

theorem unpack_sound : ∀ (t : Ty) (x : t.T) (cs : List Value), Rd (Ok C ρ H w) w t x cs → VRs C ρ H w (unpack t x) cs
  | .int k, x, cs, h => by obtain ⟨e, h'⟩ := h; subst e; exact .cons (.d ⟨_, ⟨rfl, h'⟩, rfl⟩) .nil
  | .bool, x, cs, h => by obtain rfl : cs = [.bool x] := h; exact .cons (.d ⟨_, rfl, rfl⟩) .nil
  | .str, x, cs, h => by obtain ⟨e, h'⟩ := h; subst e; exact .cons (.d ⟨_, ⟨rfl, h'⟩, rfl⟩) .nil
  | .sl t, x, cs, h => by
    have h0 := h
    obtain ⟨a, cap, e, _⟩ := h
    subst e
    exact .cons (.d ⟨_, h0, rfl⟩) .nil
  | .unit, x, cs, h => by obtain rfl : cs = [] := h; exact .nil
  | .pair t u, x, cs, h => by
    obtain ⟨c1, c2, e, h1, h2⟩ := h
    subst e
    exact (unpack_sound t _ _ h1).append (unpack_sound u _ _ h2)
  | .arr n t, x, cs, h => by
    obtain ⟨e, h'⟩ := h
    have := unpackN_sound (d := t.dflt) (fun x cs => unpack_sound t x cs) x cs h'
    rw [e] at this
    exact this

theorem packN_sound {α : Type} {R : α → List Value → Prop} {f : List AV → Option (α × List AV)}
    (hf : ∀ cells x r vs, f cells = some (x, r) → VRs C ρ H w cells vs → ∃ c1 c2, vs = c1 ++ c2 ∧ R x c1 ∧ VRs C ρ H w r c2) :
    ∀ (n : Nat) (cells : List AV) (xs : List α) (r : List AV) (vs : List Value), pack.packN f n cells = some (xs, r) → VRs C ρ H w cells vs →
      xs.length = n ∧ ∃ c1 c2, vs = c1 ++ c2 ∧ RdL R xs c1 ∧ VRs C ρ H w r c2
  | 0, cells, xs, r, vs, h, hv => by
    simp only [pack.packN] at h
    injection h with h; injection h with h1 h2; subst h1; subst h2
    exact ⟨rfl, [], vs, rfl, rfl, hv⟩
  | n + 1, cells, xs, r, vs, h, hv => by
    simp only [pack.packN] at h
    split at h
    · rename_i x r' hx
      split at h
      · rename_i ys r'' hy
        injection h with h; injection h with h1 h2; subst h1; subst h2
        obtain ⟨c1, c2, e, h1, h2⟩ := hf _ _ _ _ hx hv
        obtain ⟨hl, d1, d2, e', h3, h4⟩ := packN_sound hf n _ _ _ _ hy h2
        refine ⟨by simp [hl], c1 ++ d1, d2, by rw [e, e', List.append_assoc], ⟨c1, d1, rfl, h1, h3⟩, h4⟩
      · cases h
    · cases h

theorem nilOf_sound {ok : Nat → Prop} {t : Ty} {y : t.T} (h : nilOf t = some y) : Rd ok w t y [.slice none 0 0] := by
  cases t <;> first | cases h | skip
  exact ⟨none, 0, rfl, Nat.le_refl _, Nat.zero_le _, Or.inl rfl⟩

theorem packS_sound {t : Ty} (ht : t.agg = false) {cells : List AV} {x : t.T} {r : List AV} {vs : List Value} (h : packS t cells = some (x, r)) (hv : VRs C ρ H w cells vs) :
    ∃ c1 c2, vs = c1 ++ c2 ∧ Rd (Ok C ρ H w) w t x c1 ∧ VRs C ρ H w r c2 := by
  unfold packS at h
  split at h
  · rename_i u y r'
    split at h
    · rename_i z hz
      injection h with h; injection h with h1 h2; subst h1; subst h2
      cases hv with
      | cons h1 h2 => exact ⟨[_], _, rfl, (VR.as h1 hz).scalar ht, h2⟩
    · cases h
  · rename_i r'
    split at h
    · rename_i z hz
      injection h with h; injection h with h1 h2; subst h1; subst h2
      cases hv with
      | cons h1 h2 => cases h1; exact ⟨[_], _, rfl, nilOf_sound hz, h2⟩
    · cases h
  · cases h

theorem pack_sound : ∀ (t : Ty) (cells : List AV) (x : t.T) (r : List AV) (vs : List Value), pack t cells = some (x, r) → VRs C ρ H w cells vs →
    ∃ c1 c2, vs = c1 ++ c2 ∧ Rd (Ok C ρ H w) w t x c1 ∧ VRs C ρ H w r c2 := by
  intro t
  induction t with
  | int k => intro cells x r vs h hv; exact packS_sound rfl h hv
  | bool => intro cells x r vs h hv; exact packS_sound rfl h hv
  | str => intro cells x r vs h hv; exact packS_sound rfl h hv
  | unit =>
    intro cells x r vs h hv
    simp only [pack] at h
    injection h with h; injection h with h1 h2; subst h2
    exact ⟨[], vs, rfl, rfl, hv⟩
  | pair t u iht ihu =>
    intro cells x r vs h hv
    simp only [pack] at h
    split at h
    · rename_i y r' hy
      split at h
      · rename_i z r'' hz
        injection h with h; injection h with h1 h2; subst h1; subst h2
        obtain ⟨c1, c2, e, h1, h2⟩ := iht _ _ _ _ hy hv
        obtain ⟨d1, d2, e', h3, h4⟩ := ihu _ _ _ _ hz h2
        exact ⟨c1 ++ d1, d2, by rw [e, e', List.append_assoc], ⟨c1, d1, rfl, h1, h3⟩, h4⟩
      · cases h
    · cases h
  | arr n t iht =>
    intro cells x r vs h hv
    simp only [pack] at h
    obtain ⟨hl, c1, c2, e, h1, h2⟩ := packN_sound (R := Rd (Ok C ρ H w) w t) (fun cells x r vs hh hvv => iht cells x r vs hh hvv) n cells x r vs h hv
    exact ⟨c1, c2, e, ⟨hl, h1⟩, h2⟩
  | sl t iht => intro cells x r vs h hv; exact packS_sound rfl h hv

theorem nilOf_agg {t : Ty} {y : t.T} (h : nilOf t = some y) : t.agg = false := by cases t <;> first | rfl | cases h

theorem toD_sound {t : Ty} {a : AV} {x : t.T} {v : Value} (h : toD t a = some x) (hv : VR C ρ H w a v) : RdV (Ok C ρ H w) w t x v := by
  unfold toD at h
  split at h
  · exact VR.as hv h
  · cases hv; exact RdV.of_scalar (nilOf_agg h) (nilOf_sound h)
  · split at h
    · rename_i hag
      split at h
      · rename_i y hp
        injection h with h; subst h
        cases hv with
        | ag hvs _ =>
          obtain ⟨c1, c2, e, h1, h2⟩ := pack_sound _ _ _ _ _ hp hvs
          cases h2
          simp at e
          subst e
          exact ⟨_, h1, by simp [vOf, hag]⟩
      · cases h
    · cases h
  · cases h

/-- In which blocks data may lie that are lent. -/
def OkL (C : Ctx) (ρ : Nat → Nat) (H : Heap) (w : World) (b : Nat) : Prop := Ok C ρ H w b ∨ ∃ k ∈ H.keys, ρ k = b

theorem RdV.lend {t : Ty} {x : t.T} {v : Value} (h : RdV (Ok C ρ H w) w t x v) : RdV (OkL C ρ H w) w t x v := h.mono (fun _ hb => ⟨Or.inl hb, rfl⟩)

theorem toDL_sound {H0 : Heap} (hsub : ∀ x ∈ H0, x ∈ H) {next : Nat} (hm : MRel C ρ H next w) {t : Ty} {a : AV} {x : t.T} {v : Value} (h : toDL H0 t a = some x) (hv : VR C ρ H w a v) : RdV (OkL C ρ H w) w t x v := by
  unfold toDL at h
  split at h
  · rename_i k off len
    split at h
    · rename_i u
      split at h
      · rename_i e v' l hf
        obtain ⟨e1, e2⟩ := Ty.as_some h
        injection e1 with e1
        subst e1
        subst e2
        have hk := hsub _ (Heap.find_mem hf)
        cases hv with
        | own hk' hl hc hmx hb hs ha =>
          have hu := Heap.mem_unique hm.nodup hk hk'
          injection hu with hu1 hu2 hu3
          subst hu1; subst hu2
          have hu3 := eq_of_heq hu3
          subst hu3
          obtain ⟨c, h1, h2, h3, h4, h5⟩ := hm.ownCells hk hl
          refine ⟨_, ⟨_, _, by rw [h3], by rw [h3]; exact hc, by rw [h3]; exact h4, ?_⟩, rfl⟩
          by_cases hnil : (l.drop off).take len = []
          · exact Or.inl hnil
          · have hpos : 0 < len := by rw [← h3]; exact List.length_pos_iff.2 hnil
            have ha' := ha.resolve_right (fun h => by omega)
            exact Or.inr ⟨ρ k, off * v'.size, c, e, (0, 0), ha', Or.inr ⟨k, mem_keys hk, rfl⟩, h1, h2, RdL.mono (fun x cs => Rd.mono (fun b hb => ⟨Or.inl hb, rfl⟩) _ x cs) _ _ h5⟩
      · cases h
    · cases h
  · rename_i k n
    split at h
    · rename_i u
      split at h
      · rename_i e cells hf
        split at h
        · rename_i l hp
          injection h with h
          subst h
          have hk := hsub _ (Heap.find_mem hf)
          obtain ⟨c, hc, hvs, _⟩ := hm.mem _ _ hk
          obtain ⟨c1, c2, e1, hl, h2⟩ := pack_sound _ _ _ _ _ hp hvs
          cases h2
          rw [List.append_nil] at e1
          obtain ⟨hn, hr⟩ := hl
          have hsz := RdL.length (fun x cs => Rd.length u x cs) _ _ hr
          cases hv with
          | sv hk' hlim =>
            have hn' : List.length (α := u.T) l = n := hn
            have hsz' : c1.length = n * u.size := by rw [← hn']; exact hsz
            refine ⟨[.slice (some ⟨ρ k, 0, none⟩) n n], ⟨_, n, by rw [hn'], by rw [hn']; exact Nat.le_refl _, by rw [hn']; exact hlim, Or.inr ⟨ρ k, 0, c, e, (0, 0), rfl, Or.inr ⟨k, mem_keys hk, rfl⟩, hc, ?_, ?_⟩⟩, rfl⟩
            · have : c.size = c1.length := by rw [← e1]; simp
              rw [hn']; omega
            · rw [List.drop_zero, e1, hn', ← hsz', List.take_length]
              exact RdL.mono (fun x cs => Rd.mono (fun b hb => ⟨Or.inl hb, rfl⟩) _ x cs) _ _ hr
        · cases h
      · cases h
    · cases h
  · exact (toD_sound h hv).lend

theorem cellsOf_sound {a : AV} {cells : List AV} {v : Value} (h : cellsOf a = some cells) (hv : VR C ρ H w a v) :
    VRs C ρ H w cells v.cells.toList ∧ ∀ u ∈ v.cells.toList, u.oneCell' = true := by
  unfold cellsOf at h
  split at h <;> first | (injection h with h; subst h) | skip
  · exact ⟨unpack_sound _ _ _ hv.datum.cells, Rd.one _ _ _ hv.datum.cells⟩
  · cases hv with
    | ag h1 h2 => exact ⟨h1, h2⟩
  · cases hv with
    | ptr hk => exact ⟨.cons (.ptr hk) .nil, by simp [Value.cells, Value.oneCell']⟩
  · have hv' := hv
    cases hv with
    | efp _ _ _ => exact ⟨.cons hv' .nil, by simp [Value.cells, Value.oneCell']⟩
  · have hv' := hv
    cases hv with
    | own _ _ _ _ _ _ _ => exact ⟨.cons hv' .nil, by simp [Value.cells, Value.oneCell']⟩
  · have hv' := hv
    cases hv with
    | ox _ _ _ _ _ _ => exact ⟨.cons hv' .nil, by simp [Value.cells, Value.oneCell']⟩
  · have hv' := hv
    cases hv with
    | sv _ _ => exact ⟨.cons hv' .nil, by simp [Value.cells, Value.oneCell']⟩
  · have hv' := hv
    cases hv with
    | nsl => exact ⟨.cons hv' .nil, by simp [Value.cells, Value.oneCell']⟩
  · have hv' := hv
    cases hv with
    | fn _ _ => exact ⟨.cons hv' .nil, by simp [Value.cells, Value.oneCell']⟩
  · have hv' := hv
    cases hv with
    | yld _ => exact ⟨.cons hv' .nil, by simp [Value.cells, Value.oneCell']⟩
  · have hv' := hv
    cases hv with
    | mp _ => exact ⟨.cons hv' .nil, by simp [Value.cells, Value.oneCell']⟩
  · have hv' := hv
    cases hv with
    | nilp => exact ⟨.cons hv' .nil, by simp [Value.cells, Value.oneCell']⟩
  · have hv' := hv
    cases hv with
    | nili => exact ⟨.cons hv' .nil, by simp [Value.cells, Value.oneCell']⟩
  · have hv' := hv
    cases hv with
    | nni => exact ⟨.cons hv' .nil, by simp [Value.cells, Value.oneCell']⟩
  · have hv' := hv
    cases hv with
    | ifc _ => exact ⟨.cons hv' .nil, by simp [Value.cells, Value.oneCell']⟩
  · cases h

theorem constAg_sound (v : Value) : VR C ρ H w (constAg v) v := by
  unfold constAg
  split
  · rename_i cs
    split
    · rename_i h
      exact .ag (constAVs_sound _) (allOne_sound h)
    · exact .no
  · exact constAV_sound v

theorem SRel.eval {σ : St} {a : Act} (h : SRel C ρ σ a w) (x : Operand) : VR C ρ σ.H w (σ.eval x) (a.eval x) := by
  cases x with
  | tmp t => exact h.slots t
  | const v => exact constAg_sound v
  | func f => exact .fn .nil .nil
  | global g => exact .no

theorem tyOf_agg {P : Program} {n : Nat} {t : TypeId} {u : Ty} (h : tyOf P n t = some u) : aggOf P t = some u.agg := by
  cases n with
  | zero => cases h
  | succ n =>
    simp only [tyOf] at h
    unfold aggOf
    split at h
    · rename_i hu; rw [hu]; injection h with h; subst h; rfl
    · rename_i hu; rw [hu]; injection h with h; subst h; rfl
    · rename_i hu; rw [hu]; injection h with h; subst h; rfl
    · rename_i e hu
      rw [hu]
      cases ht : tyOf P n e with
      | none => rw [ht] at h; cases h
      | some v => rw [ht] at h; injection h with h; subst h; rfl
    · rename_i m e hu
      rw [hu]
      cases ht : tyOf P n e with
      | none => rw [ht] at h; cases h
      | some v => rw [ht] at h; injection h with h; subst h; rfl
    · rename_i fs hu
      rw [hu]
      simp only
      cases hl : fs.toList with
      | nil => rw [hl] at h; simp only [tyOf.tyFs] at h; injection h with h; subst h; rfl
      | cons f r =>
        rw [hl] at h
        simp only [tyOf.tyFs] at h
        split at h
        · split at h
          · rename_i t' _
            cases hr : tyOf.tyFs (tyOf P n) r (0 + t'.size) with
            | none => rw [hr] at h; cases h
            | some v => rw [hr] at h; injection h with h; subst h; rfl
          · cases h
        · cases h
    · cases h

theorem aggAV_sound {P : Program} {t : TypeId} {cells : List AV} {vs : List Value} (h : VRs C ρ H w cells vs) (h1 : ∀ v ∈ vs, v.oneCell' = true) :
    VR C ρ H w (aggAV P t cells) (.agg ⟨vs⟩) := by
  unfold aggAV
  split
  · split
    · rename_i hag
      split
      · exact .ag h h1
      split
      · rename_i x hp
        obtain ⟨c1, c2, e, h3, h4⟩ := pack_sound _ _ _ _ _ hp h
        cases h4
        simp at e
        subst e
        exact .d ⟨_, h3, by simp [vOf, hag]⟩
      · exact .ag h h1
    · exact .ag h h1
  · exact .ag h h1
end
end Go.Vg
