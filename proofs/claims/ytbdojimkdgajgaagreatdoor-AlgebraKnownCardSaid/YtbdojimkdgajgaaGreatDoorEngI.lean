/-
  The engine, part I: slices of slices and strings, literals, lengths, least and greatest; all operations that leave memory alone in one function. Own work; no condition.
-/
import Derived.Test.YtbdojimkdgajgaaGreatDoorEngH
namespace Go.Vg
open Go Go.RowKit

def boundI (n : Int) (m : Nat) : T Nat := .need (0 ≤ n ∧ n ≤ (m : Int)) (.ok n.toNat)
def bound (a : Option AV) (m d : Nat) : T Nat :=
  match a with
  | none => .ok d
  | some (.d (.int _) n) => boundI n m
  | some _ => .bad

def sliceAV (P : Program) (t : TypeId) (a : AV) (lo hi mx : Option AV) : T AV :=
  match mx with
  | some _ => .bad
  | none => match P.underlying t with
    | some .string => match a with
      | .d .str l => (bound hi l.length l.length).bind fun h => (bound lo h 0).bind fun k => .ok (.d .str ((l.drop k).take (h - k)))
      | _ => .bad
    | some (.slice e) => match a with
      | .d (.sl u) l => match sizeAt P e with
        | some m => match Nat.beq m u.size with
          | true => (bound hi l.length l.length).bind fun h => (bound lo h 0).bind fun k => .ok (.d (.sl u) ((l.drop k).take (h - k)))
          | false => .bad
        | none => .bad
      | .nsl => match sizeAt P e with
        | some _ => (bound hi 0 0).bind fun h => (bound lo h 0).bind fun _ => .ok .nsl
        | none => .bad
      | _ => .bad
    | _ => .bad

/-- A slice with a greatest capacity. -/
def sliceMx (P : Program) (t : TypeId) (a : AV) (lo hi : Option AV) (mx : AV) : T AV :=
  match P.underlying t with
  | some (.slice e) => match a with
    | .d (.sl u) l => match sizeAt P e, hi with
      | some m, some hi => match Nat.beq m u.size with
        | true => (bound (some mx) l.length 0).bind fun c => (bound (some hi) c 0).bind fun h => (bound lo h 0).bind fun k => .ok (.d (.sl u) ((l.drop k).take (h - k)))
        | false => .bad
      | _, _ => .bad
    | _ => .bad
  | _ => .bad

/-- All of an array among the call's own variables, as a slice. -/
def sliceArr (P : Program) (t : TypeId) (k off : Nat) (lo hi mx : Option AV) : T AV :=
  match off, lo, hi, mx with
  | 0, none, none, none => match P.underlying t with
    | some (.array n e) => match Nat.ble n lim, sizeAt P e with
      | true, some _ => .ok (.sv k n)
      | _, _ => .bad
    | _ => .bad
  | _, _, _, _ => .bad

/-- A slice of one of the call's own rows. -/
def sliceOwn (P : Program) (H : Heap) (t : TypeId) (k off len : Nat) (lo hi mx : Option AV) : T AV :=
  match mx with
  | some _ => .bad
  | none => match P.underlying t with
    | some (.slice e) => match H.find k, sizeAt P e with
      | some (.row _ u _), some m => match Nat.beq m u.size with
        | true => (bound hi len len).bind fun h => (bound lo h 0).bind fun j => .ok (.own k (off + j) (h - j))
        | false => .bad
      | _, _ => .bad
    | _ => .bad

def OVR (C : Ctx) (ρ : Nat → Nat) (H : Heap) (w : World) : Option AV → Option Value → Prop
  | none, none => True
  | some a, some v => VR C ρ H w a v
  | _, _ => False

section
variable {C : Ctx} {ρ : Nat → Nat} {H : Heap} {w : World} {P : Program}

theorem sliceBounds_run {lo hi : Option AV} {vlo vhi : Option Value} {b : Bool} {len cap h l : Nat} (hlen : len ≤ cap)
    (hh : (bound hi len len).Leaf h) (hl : (bound lo h 0).Leaf l) (h1 : OVR C ρ H w hi vhi) (h2 : OVR C ρ H w lo vlo) :
    (Instr.sliceBounds b len cap vlo vhi none).run P w = .ok (l, h, cap) w ∧ l ≤ h ∧ h ≤ len := by
  have keyI : ∀ (k : IntKind) (n : Int) (m m' d r : Nat) (code : BoundsCode), m ≤ m' → (boundI n m).Leaf r →
      r ≤ m ∧ ((some (Value.int k n) = none ∧ r = d) ∨ ∃ u, some (Value.int k n) = some u ∧ (Instr.sliceBound u m' code).run P w = .ok r w) := by
    intro k n m m' d r code hm hb
    unfold boundI at hb
    cases hb with
    | need hp hb =>
      cases hb
      refine ⟨by have := hp.2; omega, Or.inr ⟨_, rfl, ?_⟩⟩
      have h3 : 0 ≤ n ∧ n ≤ (m' : Int) := ⟨hp.1, by have := hp.2; omega⟩
      simp only [Instr.sliceBound, asIntOf, Sem.run_bind, Sem.run_pure, Result.andThen_ok, Sem.run_ite, if_pos h3]
  have key : ∀ (a : Option AV) (v : Option Value) (m m' d r : Nat) (code : BoundsCode), m ≤ m' → d ≤ m → (bound a m d).Leaf r → OVR C ρ H w a v →
      r ≤ m ∧ ((v = none ∧ r = d) ∨ ∃ u, v = some u ∧ (Instr.sliceBound u m' code).run P w = .ok r w) := by
    intro a v m m' d r code hm hd hb hv
    unfold bound at hb
    split at hb
    · cases hb
      cases v with
      | none => exact ⟨hd, Or.inl ⟨rfl, rfl⟩⟩
      | some u => exact hv.elim
    · rename_i k n
      cases v with
      | none => exact hv.elim
      | some u =>
        have he := (int_value hv).1
        subst he
        exact keyI k n m m' d r code hm hb
    · cases hb
  obtain ⟨k1, k2⟩ := key hi vhi len cap len h (if b then .sliceAcap else .sliceAlen) hlen (Nat.le_refl _) hh h1
  obtain ⟨k3, k4⟩ := key lo vlo h h 0 l .sliceB (Nat.le_refl _) (Nat.zero_le _) hl h2
  refine ⟨?_, k3, k1⟩
  rcases k2 with ⟨rfl, rfl⟩ | ⟨u, rfl, hu⟩ <;> rcases k4 with ⟨rfl, rfl⟩ | ⟨u', rfl, hu'⟩ <;> simp_all [Instr.sliceBounds]

theorem boundI_run {k : IntKind} {n : Int} {m m' r : Nat} {code : BoundsCode} (hm : m ≤ m') (hb : (boundI n m).Leaf r) :
    r ≤ m ∧ (Instr.sliceBound (.int k n) m' code).run P w = .ok r w := by
  unfold boundI at hb
  cases hb with
  | need hp hb =>
    cases hb
    refine ⟨by have := hp.2; omega, ?_⟩
    have h3 : 0 ≤ n ∧ n ≤ (m' : Int) := ⟨hp.1, by have := hp.2; omega⟩
    simp only [Instr.sliceBound, asIntOf, Sem.run_bind, Sem.run_pure, Result.andThen_ok, Sem.run_ite, if_pos h3]

theorem bound_run {a : Option AV} {v : Option Value} {m m' d r : Nat} {code : BoundsCode} (hm : m ≤ m') (hd : d ≤ m) (hb : (bound a m d).Leaf r) (hv : OVR C ρ H w a v) :
    r ≤ m ∧ ((v = none ∧ r = d) ∨ ∃ u, v = some u ∧ (Instr.sliceBound u m' code).run P w = .ok r w) := by
  unfold bound at hb
  split at hb
  · cases hb
    cases v with
    | none => exact ⟨hd, Or.inl ⟨rfl, rfl⟩⟩
    | some u => exact hv.elim
  · rename_i k n
    cases v with
    | none => exact hv.elim
    | some u =>
      have he := (int_value hv).1
      subst he
      exact ⟨(boundI_run (P := P) (w := w) (k := k) (code := code) hm hb).1, Or.inr ⟨_, rfl, (boundI_run hm hb).2⟩⟩
  · cases hb

theorem sliceBounds3_run {lo : Option AV} {hi mx : AV} {vlo : Option Value} {vhi vmx : Value} {b : Bool} {len len0 cap c h l : Nat} (hlen : len ≤ cap)
    (hc : (bound (some mx) len 0).Leaf c) (hh : (bound (some hi) c 0).Leaf h) (hl : (bound lo h 0).Leaf l) (h0 : VR C ρ H w mx vmx) (h1 : VR C ρ H w hi vhi) (h2 : OVR C ρ H w lo vlo) :
    (Instr.sliceBounds b len0 cap vlo (some vhi) (some vmx)).run P w = .ok (l, h, c) w ∧ l ≤ h ∧ h ≤ c ∧ c ≤ len := by
  obtain ⟨k1, k2⟩ := bound_run (P := P) (w := w) (code := if b then .slice3Acap else .slice3Alen) hlen (Nat.zero_le _) hc (show OVR C ρ H w (some mx) (some vmx) from h0)
  obtain ⟨k3, k4⟩ := bound_run (P := P) (w := w) (code := .slice3B) (Nat.le_refl c) (Nat.zero_le _) hh (show OVR C ρ H w (some hi) (some vhi) from h1)
  obtain ⟨k5, k6⟩ := bound_run (P := P) (w := w) (code := .slice3C) (Nat.le_refl h) (Nat.zero_le _) hl h2
  refine ⟨?_, k5, k3, k1⟩
  rcases k2 with ⟨h, _⟩ | ⟨u, e, hu⟩
  · cases h
  injection e with e; subst e
  rcases k4 with ⟨h, _⟩ | ⟨u, e, hu2⟩
  · cases h
  injection e with e; subst e
  rcases k6 with ⟨rfl, rfl⟩ | ⟨u', rfl, hu'⟩ <;> simp_all [Instr.sliceBounds]

theorem len_window {α : Type} (l : List α) (a b : Nat) (h : a + b ≤ l.length) : ((l.drop a).take b).length = b := by simp; omega

theorem sliceStr_sound {t : TypeId} {l : List UInt8} {lo hi : Option AV} {vlo vhi : Option Value} {hh kk : Nat} (hu : P.underlying t = some .string) (hl : l.length ≤ lim)
    (hb1 : (bound hi l.length l.length).Leaf hh) (hb2 : (bound lo hh 0).Leaf kk) (h1 : OVR C ρ H w hi vhi) (h2 : OVR C ρ H w lo vlo) :
    ∃ v', (Instr.sliceAt t (.string ⟨⟨l⟩⟩) vlo vhi none).run P w = .ok v' w ∧ VR C ρ H w (.d .str ((l.drop kk).take (hh - kk))) v' := by
  obtain ⟨hr, hle1, hle2⟩ := sliceBounds_run (P := P) (b := false) (cap := l.length) (Nat.le_refl _) hb1 hb2 h1 h2
  refine ⟨.string ⟨⟨(l.drop kk).take (hh - kk)⟩⟩, ?_, vr_str (by simp; omega)⟩
  simp only [Instr.sliceAt, Sem.run_bind, run_underlying hu, Result.andThen_ok, Instr.slice, Option.isSome_none, Bool.false_eq_true, if_false, size_mk, hr, extract_mk, Sem.run_pure]

theorem sliceAV_sound {t : TypeId} {a r : AV} {v : Value} {lo hi mx : Option AV} {vlo vhi vmx : Option Value} (h : (sliceAV P t a lo hi mx).Leaf r)
    (ha : VR C ρ H w a v) (h1 : OVR C ρ H w hi vhi) (h2 : OVR C ρ H w lo vlo) (h3 : OVR C ρ H w mx vmx) :
    ∃ v', (Instr.sliceAt t v vlo vhi vmx).run P w = .ok v' w ∧ VR C ρ H w r v' := by
  unfold sliceAV at h
  split at h
  · cases h
  · cases vmx with
    | some _ => exact h3.elim
    | none =>
      split at h
      · rename_i hu
        split at h
        · rename_i l
          obtain ⟨hh, hb1, h⟩ := T.Leaf.bind h
          obtain ⟨kk, hb2, h⟩ := T.Leaf.bind h
          cases h
          obtain ⟨e, hl⟩ := str_value ha
          subst e
          exact sliceStr_sound hu hl hb1 hb2 h1 h2
        · cases h
      · rename_i e hu
        split at h
        · rename_i u l
          split at h
          · rename_i m hs
            split at h
            · rename_i hb
              have hb := beq_true hb
              subst hb
              obtain ⟨hh, hb1, h⟩ := T.Leaf.bind h
              obtain ⟨kk, hb2, h⟩ := T.Leaf.bind h
              cases h
              obtain ⟨a', cap, e1, h4, h5, h6⟩ := ha.datum.scalar rfl
              injection e1 with e1 _
              subst e1
              obtain ⟨hr, hle1, hle2⟩ := sliceBounds_run (P := P) (b := true) (cap := cap) h4 hb1 hb2 h1 h2
              have hlen : ((l.drop kk).take (hh - kk)).length = hh - kk := len_window (α := u.T) l kk (hh - kk) (by omega)
              refine ⟨.slice (if cap = kk then a' else a'.map (fun (x : Addr) => x.add (kk * u.size))) (hh - kk) (cap - kk), ?_, ?_⟩
              · simp only [Instr.sliceAt, Sem.run_bind, run_underlying hu, Result.andThen_ok, Instr.slice, hr, sizeAt_run hs, Sem.run_pure]
              · refine .d ⟨_, ⟨_, _, by rw [hlen], by rw [hlen]; omega, by rw [hlen]; omega, ?_⟩, rfl⟩
                by_cases hnil : (l.drop kk).take (hh - kk) = []
                · exact Or.inl hnil
                · have hpos : 0 < hh - kk := by rw [← hlen]; exact List.length_pos_iff.2 hnil
                  have hne : l ≠ [] := fun e => by subst e; simp at hnil
                  obtain ⟨b, o, c, e', fr, ha', hok, hbk, hs', hr'⟩ := h6.resolve_left hne
                  subst ha'
                  have hck : ¬ cap = kk := by omega
                  have hle : (kk + (hh - kk)) * u.size ≤ l.length * u.size := Nat.mul_le_mul_right _ (by omega)
                  rw [Nat.add_mul] at hle
                  refine Or.inr ⟨b, o + kk * u.size, c, e', fr, by simp [hck, add_mk], hok, hbk, by rw [hlen]; omega, ?_⟩
                  have := RdL.take_drop (fun x cs => Rd.length u x cs) l _ kk (hh - kk) hr'
                  rw [list_window _ _ _ _ hle, List.drop_drop] at this
                  rw [hlen]
                  exact this
            · cases h
          · cases h
        · split at h
          · rename_i m hs
            obtain ⟨hh, hb1, h⟩ := T.Leaf.bind h
            obtain ⟨kk, hb2, h⟩ := T.Leaf.bind h
            cases h
            cases ha
            obtain ⟨hr, hle1, hle2⟩ := sliceBounds_run (P := P) (b := true) (cap := 0) (Nat.le_refl _) hb1 hb2 h1 h2
            have e1 : hh = 0 := by omega
            have e2 : kk = 0 := by omega
            subst e1; subst e2
            refine ⟨.slice none 0 0, ?_, .nsl⟩
            simp only [Instr.sliceAt, Sem.run_bind, run_underlying hu, Result.andThen_ok, Instr.slice, hr, sizeAt_run hs, Sem.run_pure]
            rfl
          · cases h
        · cases h
      · cases h

theorem sliceMx_sound {t : TypeId} {a r : AV} {v : Value} {lo hi : Option AV} {mx : AV} {vlo vhi : Option Value} {vmx : Value} (h : (sliceMx P t a lo hi mx).Leaf r)
    (ha : VR C ρ H w a v) (h1 : OVR C ρ H w hi vhi) (h2 : OVR C ρ H w lo vlo) (h3 : VR C ρ H w mx vmx) :
    ∃ v', (Instr.sliceAt t v vlo vhi (some vmx)).run P w = .ok v' w ∧ VR C ρ H w r v' := by
  unfold sliceMx at h
  split at h
  · rename_i e hu
    split at h
    · rename_i u l
      split at h
      · rename_i m hi' hs
        cases vhi with
        | none => exact h1.elim
        | some vhi =>
        split at h
        · rename_i hb
          have hb := beq_true hb
          subst hb
          obtain ⟨cc, hb0, h⟩ := T.Leaf.bind h
          obtain ⟨hh, hb1, h⟩ := T.Leaf.bind h
          obtain ⟨kk, hb2, h⟩ := T.Leaf.bind h
          cases h
          obtain ⟨a', cap, e1, h4, h5, h6⟩ := ha.datum.scalar rfl
          injection e1 with e1 _
          subst e1
          obtain ⟨hr, hle1, hle2, hle3⟩ := sliceBounds3_run (P := P) (b := true) (len0 := l.length) (cap := cap) h4 hb0 hb1 hb2 h3 h1 h2
          have hlen : ((l.drop kk).take (hh - kk)).length = hh - kk := len_window (α := u.T) l kk (hh - kk) (by omega)
          refine ⟨.slice (if cc = kk then a' else a'.map (fun (x : Addr) => x.add (kk * u.size))) (hh - kk) (cc - kk), ?_, ?_⟩
          · simp only [Instr.sliceAt, Sem.run_bind, run_underlying hu, Result.andThen_ok, Instr.slice, hr, sizeAt_run hs, Sem.run_pure]
          · refine .d ⟨_, ⟨_, _, by rw [hlen], by rw [hlen]; omega, by rw [hlen]; omega, ?_⟩, rfl⟩
            by_cases hnil : (l.drop kk).take (hh - kk) = []
            · exact Or.inl hnil
            · have hpos : 0 < hh - kk := by rw [← hlen]; exact List.length_pos_iff.2 hnil
              have hne : l ≠ [] := fun e => by subst e; simp at hnil
              obtain ⟨b, o, c, e', fr, ha', hok, hbk, hs', hr'⟩ := h6.resolve_left hne
              subst ha'
              have hck : ¬ cc = kk := by omega
              have hle : (kk + (hh - kk)) * u.size ≤ l.length * u.size := Nat.mul_le_mul_right _ (by omega)
              rw [Nat.add_mul] at hle
              refine Or.inr ⟨b, o + kk * u.size, c, e', fr, by simp [hck, add_mk], hok, hbk, by rw [hlen]; omega, ?_⟩
              have := RdL.take_drop (fun x cs => Rd.length u x cs) l _ kk (hh - kk) hr'
              rw [list_window _ _ _ _ hle, List.drop_drop] at this
              rw [hlen]
              exact this
        · cases h
      · cases h
    · cases h
  · cases h

theorem sliceArr_sound {t : TypeId} {k off : Nat} {r : AV} {v : Value} {lo hi mx : Option AV} {vlo vhi vmx : Option Value} (h : (sliceArr P t k off lo hi mx).Leaf r)
    (ha : VR C ρ H w (.ptr k off) v) (h1 : OVR C ρ H w hi vhi) (h2 : OVR C ρ H w lo vlo) (h3 : OVR C ρ H w mx vmx) :
    ∃ v', (Instr.sliceAt t v vlo vhi vmx).run P w = .ok v' w ∧ VR C ρ H w r v' := by
  unfold sliceArr at h
  split at h
  · cases vlo with
    | some _ => exact h2.elim
    | none =>
    cases vhi with
    | some _ => exact h1.elim
    | none =>
    cases vmx with
    | some _ => exact h3.elim
    | none =>
    split at h
    · rename_i n e hu
      split at h
      · rename_i m hn hs
        cases h
        cases ha with
        | ptr hk =>
          refine ⟨.slice (some ⟨ρ k, 0, none⟩) n n, ?_, .sv hk (Nat.le_of_ble_eq_true hn)⟩
          simp [Instr.sliceAt, run_underlying hu, Instr.sureAddr, Instr.sliceBounds, sizeAt_run hs, add_mk]
      · cases h
    · cases h
  · cases h

theorem sliceOwn_sound {H0 : Heap} (hsub : ∀ x ∈ H0, x ∈ H) {next : Nat} (hm : MRel C ρ H next w) {t : TypeId} {r : AV} {v : Value} {k off len : Nat} {lo hi mx : Option AV} {vlo vhi vmx : Option Value} (h : (sliceOwn P H0 t k off len lo hi mx).Leaf r)
    (ha : VR C ρ H w (.own k off len) v) (h1 : OVR C ρ H w hi vhi) (h2 : OVR C ρ H w lo vlo) (h3 : OVR C ρ H w mx vmx) :
    ∃ v', (Instr.sliceAt t v vlo vhi vmx).run P w = .ok v' w ∧ VR C ρ H w r v' := by
  unfold sliceOwn at h
  split at h
  · cases h
  · cases vmx with
    | some _ => exact h3.elim
    | none =>
      split at h
      · rename_i e hu
        split at h
        · rename_i e2 u l m hf hs
          split at h
          · rename_i hb
            have hb := beq_true hb
            subst hb
            obtain ⟨hh, hb1, h⟩ := T.Leaf.bind h
            obtain ⟨j, hb2, h⟩ := T.Leaf.bind h
            cases h
            have hk := hsub _ (Heap.find_mem hf)
            cases ha with
            | own hk' hl hc hmx hbk hsz ha =>
              rename_i a' cap c fr
              have hu' := Heap.mem_unique hm.nodup hk hk'
              injection hu' with hu1 hu2 hu3
              subst hu1; subst hu2
              have hu3 := eq_of_heq hu3
              subst hu3
              obtain ⟨hr, hle1, hle2⟩ := sliceBounds_run (P := P) (b := true) (cap := cap) hc hb1 hb2 h1 h2
              refine ⟨.slice (if cap = j then a' else Option.map (fun (x : Addr) => x.add (j * u.size)) a') (hh - j) (cap - j), ?_, ?_⟩
              · simp only [Instr.sliceAt, Sem.run_bind, run_underlying hu, Result.andThen_ok, Instr.slice, hr, sizeAt_run hs, Sem.run_pure]
              · refine .own hk (by omega) (by omega) (by omega) hbk (by rw [← hsz]; congr 1; omega) ?_
                by_cases hcj : cap = j
                · simp only [hcj, if_true]
                  by_cases hj : j = 0
                  · subst hj
                    rcases ha with ha | ⟨_, ha⟩
                    · left; rw [ha]; simp
                    · right; exact ⟨by omega, by omega⟩
                  · right; exact ⟨by omega, by omega⟩
                · have ha' := ha.resolve_right (fun h => by omega)
                  left
                  rw [ha', if_neg hcj]
                  simp [add_mk, Nat.add_mul]
          · cases h
        · cases h
      · cases h

end

/-- Parts laid into the cells of a literal. -/
def fillAV (place : Nat → Option (Nat × Nat)) : List AV → List (Nat × AV) → Option (List AV)
  | cells, [] => some cells
  | cells, (i, v) :: r => match place i with
    | some (off, size) => match cellsOf v with
      | some cs => match Nat.beq cs.length size && Nat.ble (off + size) cells.length with
        | true => fillAV place (cells.take off ++ cs ++ cells.drop (off + size)) r
        | false => none
      | none => none
    | none => none

theorem foldl_set (off : Nat) : ∀ (vs : List Value) (k : Nat) (cells : Array Value), off + k + vs.length ≤ cells.size →
    (vs.zipIdx k).foldl (fun cs x => cs.setIfInBounds (off + x.2) x.1) cells = ⟨cells.toList.take (off + k) ++ vs ++ cells.toList.drop (off + k + vs.length)⟩
  | [], k, cells, _ => by simp
  | v :: rest, k, cells, h => by
    simp only [List.length_cons] at h
    rw [List.zipIdx_cons, List.foldl_cons, foldl_set off rest (k + 1) _ (by simp; omega)]
    congr 1
    have e := list_seg_step cells.toList (off + k) v rest (by simp; omega)
    simpa [Array.toList_setIfInBounds, Nat.add_assoc] using e

section
variable {C : Ctx} {ρ : Nat → Nat} {H : Heap} {w : World} {P : Program}

inductive Parts (C : Ctx) (ρ : Nat → Nat) (H : Heap) (w : World) : List (Nat × AV) → List (Nat × Value) → Prop where
  | nil : Parts C ρ H w [] []
  | cons {i : Nat} {a : AV} {v : Value} {as : List (Nat × AV)} {vs : List (Nat × Value)} (h : VR C ρ H w a v) (hs : Parts C ρ H w as vs) : Parts C ρ H w ((i, a) :: as) ((i, v) :: vs)

theorem fillAV_sound {place : Nat → Option (Nat × Nat)} : ∀ (ps : List (Nat × AV)) (cells : List AV) (cs : List Value) (vps : List (Nat × Value)) (r : List AV),
    fillAV place cells ps = some r → VRs C ρ H w cells cs → (∀ v ∈ cs, v.oneCell' = true) → Parts C ρ H w ps vps →
    ∃ rs, Instr.fill place ⟨cs⟩ vps = some ⟨rs⟩ ∧ VRs C ρ H w r rs ∧ ∀ v ∈ rs, v.oneCell' = true
  | [], cells, cs, vps, r, h, hv, h1, hp => by
    cases hp
    simp only [fillAV] at h
    injection h with h; subst h
    exact ⟨cs, rfl, hv, h1⟩
  | (i, a) :: ps, cells, cs, vps, r, h, hv, h1, hp => by
    cases hp with
    | cons ha hps =>
      rename_i v vs
      simp only [fillAV] at h
      split at h
      · rename_i off size hpl
        split at h
        · rename_i as hcs
          split at h
          · rename_i hc
            simp only [Bool.and_eq_true] at hc
            have hlen := beq_true hc.1
            have hle := Nat.le_of_ble_eq_true hc.2
            obtain ⟨hva, hva1⟩ := cellsOf_sound hcs ha
            have hl1 := hva.length
            have hl2 := hv.length
            have hsz : v.cells.size = size := by rw [← hlen, hl1]; simp
            subst hsz
            have hnew : VRs C ρ H w (cells.take off ++ as ++ cells.drop (off + v.cells.size)) (cs.take off ++ v.cells.toList ++ cs.drop (off + v.cells.size)) :=
              ((hv.take off).append hva).append (hv.drop _)
            obtain ⟨rs, hr1, hr2, hr3⟩ := fillAV_sound ps _ _ _ r h hnew (by
              intro u hu
              rcases List.mem_append.1 hu with hu | hu
              · rcases List.mem_append.1 hu with hu | hu
                · exact h1 u (List.mem_of_mem_take hu)
                · exact hva1 u hu
              · exact h1 u (List.mem_of_mem_drop hu)) hps
            refine ⟨rs, ?_, hr2, hr3⟩
            simp only [Instr.fill, hpl]
            rw [if_neg (by simp; omega)]
            rw [← hr1]
            congr 1
            rw [← Array.foldl_toList, Array.toList_zipIdx]
            have := foldl_set off v.cells.toList 0 ⟨cs⟩ (by simp; omega)
            simpa using this
          · cases h
        · cases h
      · cases h
end
end Go.Vg
