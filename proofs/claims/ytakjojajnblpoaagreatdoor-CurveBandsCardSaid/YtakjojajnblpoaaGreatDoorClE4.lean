/-
  An evaluator of Go code over plain data, proved sound against the model. Own work; no condition.
-/
import Derived.Test.YtakjojajnblpoaaGreatDoorClE3
set_option linter.unusedVariables false
set_option linter.unusedSimpArgs false
namespace Go.Vg
open Go Go.RowKit
def dLe (u : Ty) (y : u.T) : AV → Prop
 | .d t x => match t.as u x with
  | some x' => x' = y
  | none => False
 | .nsl => match aP4 u with
  | some z => z = y
  | none => False
 | .ag l => match toD u (.ag l) with
  | some z => z = y
  | none => False
 | _ => False
def aWk (u : Ty) (y : u.T) : AV → Prop
 | .dptr t x => match t.as u x with
  | some x' => x' = y
  | none => False
 | _ => False
mutual
/-- The first says no more than the second; it refers to blocks of which p holds alone. -/
def aBQ (p : Nat → Bool) : AV → AV → Prop
 | .no, _ => True
 | .d u y, a => dLe u y a
 | .dptr u y, a => aWk u y a
 | .nsl, a => match a with | .nsl => True | _ => False
 | .nilp, a => match a with | .nilp => True | _ => False
 | .nili, a => match a with | .nili => True | _ => False
 | .nni, a => match a with | .nni => True | _ => False
 | .und, a => match a with | .und => True | _ => False
 | .ptr k i, a => match a with | .ptr k' i' => k' = k ∧ i' = i ∧ p k = true | _ => False
 | .eptr k i, a => match a with | .eptr k' i' => k' = k ∧ i' = i ∧ p k = true | _ => False
 | .efp k i f, a => match a with | .efp k' i' f' => k' = k ∧ i' = i ∧ f' = f ∧ p k = true | _ => False
 | .own k o n, a => match a with | .own k' o' n' => k' = k ∧ o' = o ∧ n' = n ∧ p k = true | _ => False
 | .sv k n, a => match a with | .sv k' n' => k' = k ∧ n' = n ∧ p k = true | _ => False
 | .fn f x y, a => match a with | .fn f' x' y' => f' = f ∧ axM p x x' ∧ axM p y y' | _ => False
 | .yld l, a => match a with | .yld l' => l' = l ∧ p l = true | _ => False
 | .ag l, a => match a with | .ag l' => axM p l l' | _ => False
 | .tup l, a => match a with | .tup l' => axM p l l' | _ => False
def axM (p : Nat → Bool) : List AV → List AV → Prop
 | [], as => match as with | [] => True | _ :: _ => False
 | b :: bs, as => match as with | [] => False | a :: as => aBQ p b a ∧ axM p bs as
end
def auC (p : Nat → Bool) (s : List (Nat × AV)) : List (Nat × AV) → Prop
 | [] => True
 | (t, b) :: r => aBQ p b (agT s t) ∧ auC p s r
def aVS (p : Nat → Bool) (r r' : LoopA) : Prop := r'.st = r.st ∧ r'.pend = r.pend ∧ r'.n = r.n ∧ r'.ps = r.ps ∧ r'.assign = r.assign ∧ r'.body = r.body ∧ auC p r'.slots r.slots
def aWt (p : Nat → Bool) : Bk → Bk → Prop
 | .loop r, .loop r' => aVS p r r'
 | .any, .any => True
 | .vars e cells, .vars e' cells' => e' = e ∧ axM p cells cells'
 | .row e t l, .row e' t' l' => e' = e ∧ match (t'.sl).as (.sl t) l' with
  | some z => z = l
  | none => False
 | _, _ => False
def aGX (p : Nat → Bool) (H : Heap) (n : Nat) : Heap → Prop
 | [] => True
 | (k, b) :: r => (match H.find k with
  | some b' => aWt p b b'
  | none => False) ∧ Nat.blt k n = true ∧ aGX p H n r
def Le (σ σ' : St) : Prop := σ'.n = σ.n ∧ auC (aiR σ'.H) σ.slots σ'.slots ∧ aGX (aiR σ'.H) σ.H σ'.next σ'.H ∧ az0 σ'.H.keys = true
section
variable {C : Ctx} {P : Program} {G : World → Prop}
theorem aOe {ρ : Nat → Nat} {H H' : Heap} {w : World} {p : Nat → Bool} (hd : ∀ b, Ok C ρ H w b → Ok C ρ H' w b) (hk : ∀ k, p k = true → k ∈ H'.keys)
  (hr : ∀ k e t l, p k = true → (k, Bk.row e t l) ∈ H → (k, Bk.row e t l) ∈ H') :
  (∀ b a v, aBQ p b a → VR C ρ H w a v → VR C ρ H' w b v) := by
 have hd' : ∀ b, Ok C ρ H w b → Ok C ρ H' w b ∧ w.heap[b]? = w.heap[b]? := fun b h => ⟨hd b h, rfl⟩
 have dat : ∀ (u : Ty) (y : u.T) (a : AV) (v : Value), dLe u y a → VR C ρ H w a v → VR C ρ H' w (.d u y) v := by
  intro u y a v h hv
  unfold dLe at h
  split at h
  ·split at h
   ·rename_i z hz; subst h; exact .d ((VR.as hv hz).mono hd')
   ·exact h.elim
  ·split at h
   ·rename_i z hz; subst h; cases hv; exact .d (RdV.of_scalar (aGH hz) (aqZ hz))
   ·exact h.elim
  ·split at h
   ·rename_i z hz; subst h; exact .d ((aiH hz hv).mono hd')
   ·exact h.elim
  ·exact h.elim
 intro b
 refine AV.rec (motive_1 := fun b => ∀ a v, aBQ p b a → VR C ρ H w a v → VR C ρ H' w b v) (motive_2 := fun bs => ∀ as vs, axM p bs as → VRs C ρ H w as vs → VRs C ρ H' w bs vs)
  ?_ ?_ ?_ ?_ ?_ ?_ ?_ ?_ ?_ ?_ ?_ ?_ ?_ ?_ ?_ ?_ ?_ ?_ ?_ b
 ·intro t x a v h hv; exact dat t x a v h hv
 ·intro k i a v h hv
  simp only [aBQ] at h
  split at h
  ·obtain ⟨rfl, rfl, hp⟩ := h; cases hv; exact .ptr (hk _ hp)
  ·exact h.elim
 ·intro k i a v h hv
  simp only [aBQ] at h
  split at h
  ·obtain ⟨rfl, rfl, hp⟩ := h
   cases hv with
   | eptr hm hi => exact .eptr (hr _ _ _ _ hp hm) hi
  ·exact h.elim
 ·intro k i f a v h hv
  simp only [aBQ] at h
  split at h
  ·obtain ⟨rfl, rfl, rfl, hp⟩ := h
   cases hv with
   | efp hm hi ho => exact .efp (hr _ _ _ _ hp hm) hi ho
  ·exact h.elim
 ·intro t x a v h hv
  simp only [aBQ, aWk] at h
  split at h
  ·split at h
   ·rename_i t' x' _ z hz
    subst h
    obtain ⟨e, he⟩ := Ty.as_some hz
    subst e
    subst he
    cases hv with
    | dptr hb hc ho hrd => exact .dptr (hd _ hb) hc ho (Rd.mono hd' _ _ _ hrd)
   ·exact h.elim
  ·exact h.elim
 ·intro k o n a v h hv
  simp only [aBQ] at h
  split at h
  ·obtain ⟨rfl, rfl, rfl, hp⟩ := h
   cases hv with
   | own hm hl hc hmx hb hs ha => exact .own (hr _ _ _ _ hp hm) hl hc hmx hb hs ha
  ·exact h.elim
 ·intro k n a v h hv
  simp only [aBQ] at h
  split at h
  ·obtain ⟨rfl, rfl, hp⟩ := h
   cases hv with
   | sv hm hn => exact .sv (hk _ hp) hn
  ·exact h.elim
 ·intro a v h hv
  simp only [aBQ] at h
  split at h
  ·cases hv; exact .nsl
  ·exact h.elim
 ·intro a v h hv
  simp only [aBQ] at h
  split at h
  ·cases hv; exact .nilp
  ·exact h.elim
 ·intro a v h hv
  simp only [aBQ] at h
  split at h
  ·cases hv; exact .nili
  ·exact h.elim
 ·intro a v h hv
  simp only [aBQ] at h
  split at h
  ·cases hv; exact .nni
  ·exact h.elim
 ·intro f x y hx hy a v h hv
  simp only [aBQ] at h
  split at h
  ·obtain ⟨rfl, h1, h2⟩ := h
   cases hv with
   | fn h3 h4 => exact .fn (hx _ _ h1 h3) (hy _ _ h2 h4)
  ·exact h.elim
 ·intro l a v h hv
  simp only [aBQ] at h
  split at h
  ·obtain ⟨rfl, hp⟩ := h; cases hv; exact .yld (hk _ hp)
  ·exact h.elim
 ·intro l hl a v h hv
  simp only [aBQ] at h
  split at h
  ·cases hv with
   | ag h3 h4 => exact .ag (hl _ _ h h3) h4
  ·exact h.elim
 ·intro l hl a v h hv
  simp only [aBQ] at h
  split at h
  ·cases hv with
   | tup h3 => exact .tup (hl _ _ h h3)
  ·exact h.elim
 ·intro a v h hv
  simp only [aBQ] at h
  split at h
  ·cases hv; exact .und
  ·exact h.elim
 ·intro a v _ _; exact .no
 ·intro as vs h hv
  simp only [axM] at h
  split at h
  ·cases hv; exact .nil
  ·exact h.elim
 ·intro b bs hb hbs as vs h hv
  simp only [axM] at h
  split at h
  ·exact h.elim
  ·cases hv with
   | cons h1 h2 => exact .cons (hb _ _ h.1 h1) (hbs _ _ h.2 h2)
theorem aBm {ρ : Nat → Nat} {H H' : Heap} {w : World} {p : Nat → Bool} (h : ∀ b a v, aBQ p b a → VR C ρ H w a v → VR C ρ H' w b v) : ∀ (bs as : List AV) (vs : List Value), axM p bs as → VRs C ρ H w as vs → VRs C ρ H' w bs vs
 | [], as, vs, hl, hv => by
  simp only [axM] at hl
  split at hl
  ·cases hv; exact .nil
  ·exact hl.elim
 | b :: bs, as, vs, hl, hv => by
  simp only [axM] at hl
  split at hl
  ·exact hl.elim
  ·cases hv with
   | cons h1 h2 => exact .cons (h _ _ _ hl.1 h1) (aBm h bs _ _ hl.2 h2)
theorem aCN {p : Nat → Bool} {H : Heap} {n : Nat} : ∀ {H' : Heap}, aGX p H n H' → ∀ k b, (k, b) ∈ H' → k < n ∧ ∃ b', (k, b') ∈ H ∧ aWt p b b'
 | [], _, k, b, hm => by cases hm
 | (j, c) :: r, h, k, b, hm => by
  simp only [aGX] at h
  rcases zx.1 hm with e | hm
  ·injection e with e1 e2; subst e1; subst e2
   refine ⟨Nat.le_of_ble_eq_true h.2.1, ?_⟩
   cases hf : H.find k with
   | none => rw [hf] at h; exact h.1.elim
   | some b' => rw [hf] at h; exact ⟨b', Heap.find_mem hf, h.1⟩
  ·exact aCN h.2.2 k b hm
theorem anH {p : Nat → Bool} {s : List (Nat × AV)} : ∀ {s' : List (Nat × AV)}, auC p s s' → ∀ t, agT s' t = .no ∨ aBQ p (agT s' t) (agT s t)
 | [], _, t => Or.inl rfl
 | (u, b) :: r, h, t => by
  simp only [auC] at h
  simp only [agT]
  cases hb : Nat.beq u t with
  | true => have := aaM hb; subst this; exact Or.inr h.1
  | false => exact anH h.2 t
theorem SRel.weaken {ρ : Nat → Nat} {σ σ' : St} {a : Act} {w : World} (hs : SRel C ρ σ a w) (h : Le σ σ') : SRel C ρ σ' a w ∧ ∀ n, Fr C n ρ σ.H w ρ σ'.H w := by
 obtain ⟨hn, hsl, hh, hnd⟩ := h
 have hm := hs.m
 have hmem := fun k b hk => aCN hh k b hk
 have hkeys : ∀ k, k ∈ σ'.H.keys → k ∈ σ.H.keys := by
  intro k hk
  obtain ⟨x, hx, e⟩ := zN.1 hk
  obtain ⟨_, b', hb', _⟩ := hmem x.1 x.2 hx
  exact e ▸ aaO hb'
 have hrow : ∀ k e t l, k ∈ σ'.H.keys → (k, Bk.row e t l) ∈ σ.H → (k, Bk.row e t l) ∈ σ'.H := by
  intro k e t l hk hkm
  obtain ⟨x, hx, rfl⟩ := zN.1 hk
  obtain ⟨_, b', hb', hle⟩ := hmem x.1 x.2 hx
  have := Heap.mem_unique hm.nodup hkm hb'
  subst this
  obtain ⟨k, b⟩ := x
  cases b with
  | vars e' cells => exact hle.elim
  | loop r => exact hle.elim
  | any => exact hle.elim
  | row e' t' l' =>
   obtain ⟨h1, h2⟩ := hle
   subst h1
   split at h2
   ·rename_i z hz
    obtain ⟨e1, e2⟩ := Ty.as_some hz
    injection e1 with e1
    subst e1
    have e2' : l = z := e2
    have h2' : z = l' := h2
    subst e2'; subst h2'
    exact hx
   ·exact h2.elim
 have hd : ∀ b, Ok C ρ σ.H w b → Ok C ρ σ'.H w b := fun b ⟨h1, h2, h3⟩ => ⟨h1, h2, fun k hk => h3 k (hkeys k hk)⟩
 have hd' : ∀ b, Ok C ρ σ.H w b → Ok C ρ σ'.H w b ∧ w.heap[b]? = w.heap[b]? := fun b h => ⟨hd b h, rfl⟩
 have hav := aOe (C := C) (ρ := ρ) (H := σ.H) (H' := σ'.H) (w := w) (p := aiR σ'.H) hd (fun k hk => hasKey_iff.1 hk) (fun k e t l hp hk => hrow k e t l (hasKey_iff.1 hp) hk)
 refine ⟨⟨⟨hm.below, awO hnd, ?_, fun k hk k' hk' => hm.inj k (hkeys k hk) k' (hkeys k' hk'), fun k hk => hm.low k (hkeys k hk), ?_⟩, fun t => ?_, by rw [hn]; exact hs.size, hs.defers.mono hd' (zq _)⟩, fun n => ⟨hd', fun k _ hk => ⟨hkeys k hk, rfl⟩, fun k e t l _ hkm hk => ⟨l, hrow k e t l hk hkm, zq _, fun c fr hc => ⟨c, fr, hc, rfl⟩⟩, zq _⟩⟩
 ·intro k hk
  obtain ⟨x, hx, e⟩ := zN.1 hk
  exact e ▸ (hmem x.1 x.2 hx).1
 ·intro k b hb
  obtain ⟨_, b', hb', hle⟩ := hmem k b hb
  have hbr := hm.mem k b' hb'
  cases b with
  | vars e cells =>
   cases b' with
   | row e' t' l' => exact hle.elim
   | loop r => exact hle.elim
   | any => exact hle.elim
   | vars e' cells' =>
    obtain ⟨h1, h2⟩ := hle
    subst h1
    obtain ⟨c, g1, g2, g3⟩ := hbr
    exact ⟨c, g1, aBm hav _ _ _ h2 g2, g3⟩
  | row e t l =>
   cases b' with
   | vars e' cells' => exact hle.elim
   | loop r => exact hle.elim
   | any => exact hle.elim
   | row e' t' l' =>
    obtain ⟨h1, h2⟩ := hle
    subst h1
    split at h2
    ·rename_i z hz
     obtain ⟨e1, e2⟩ := Ty.as_some hz
     injection e1 with e1
     subst e1
     have e2' : l' = z := e2
     have h2' : z = l := h2
     subst e2'; subst h2'
     obtain ⟨c, g1, g2, g3, g4, g5⟩ := hbr
     exact ⟨c, g1, g2, g3, RdL.mono (fun x cs => Rd.mono hd' _ x cs) _ _ g4, g5⟩
    ·exact h2.elim
  | loop r =>
   cases b' with
   | vars e' cells' => exact hle.elim
   | row e' t' l' => exact hle.elim
   | any => exact hle.elim
   | loop r' =>
    obtain ⟨h1, h2, h3, h4, h5, h6, h7⟩ := hle
    obtain ⟨fn, tmps, d, g1, g2, g3⟩ := hbr
    refine ⟨fn, tmps, d, by rw [← h1, ← h2, ← h4, ← h5, ← h6]; exact g1, by rw [← h3]; exact g2, fun t => ?_⟩
    rcases anH h7 t with h | h
    ·rw [h]; exact .no
    ·exact hav _ _ _ h (g3 t)
  | any =>
   cases b' with
   | any => exact hbr
   | vars e' cells' => exact hle.elim
   | row e' t' l' => exact hle.elim
   | loop r' => exact hle.elim
 ·rcases anH hsl t with h | h
  ·rw [h]; exact .no
  ·exact hav _ _ _ h (hs.slots t)
def RdOk (rd : Option Nat) (rnd : Option Nat) (next : Nat) (H : Heap) (ρ : Nat → Nat) : Prop :=
 match rd with
 | none => rnd = none
 | some l => l < next ∧ (l ∈ H.keys → rnd = some (ρ l))
theorem RdOk.fr {rd rnd : Option Nat} {next next' : Nat} {H H' : Heap} {ρ ρ' : Nat → Nat} {w w' : World} (h : RdOk rd rnd next H ρ) (hf : Fr C next ρ H w ρ' H' w') (hn : next ≤ next') : RdOk rd rnd next' H' ρ' := by
 cases rd with
 | none => exact h
 | some l =>
  refine ⟨yn h.1 hn, fun hl => ?_⟩
  obtain ⟨h1, h2⟩ := hf.keys l h.1 hl
  rw [h2]; exact h.2 h1
def Sat (P : Program) (G : World → Prop) (rd : Option Nat) (c : Code) (σ : St) (Q : Exit → St → Prop) : Prop :=
 ∀ (C : Ctx), G C.w0 → ∀ (ρ : Nat → Nat) (a : Act) (w : World), SRel C ρ σ a w → ∀ rnd : Option Nat, RdOk rd rnd σ.next σ.H ρ → c.wpIn (af4 rnd) 0 P (fun e a' w' => Reach C σ ρ w (Q e) a' w') a w
end
def aV7 (X : St → (Exit → St → Prop) → Prop) (Q : Exit → St → Prop) : Exit → St → Prop
 | .normal, σ => X σ Q
 | e, σ => Q e σ
def aRo (id : Nat) (Q : Exit → St → Prop) : Exit → St → Prop
 | .exit j, σ => match Nat.beq j id with
  | true => Q .normal σ
  | false => Q (.exit j) σ
 | e, σ => Q e σ
def aVj (Q : Exit → St → Prop) : Exit → St → Prop
 | .goto _, _ => False
 | e, σ => Q e σ
def St.lay (σ : St) (K : Nat) (ps : Array Tmp) (assign body : Code) : Heap :=
 (K, .loop { st := .ready, pend := none, slots := σ.slots, n := σ.n, ps := ps, assign := assign, body := body }) :: σ.H
def axV : Option Code → Option Exit
 | none => some .normal
 | some .ret => some .ret
 | some (.exit id) => some (.exit id)
 | some _ => none
def aKF (σ : St) (l : Nat) (Q : Exit → St → Prop) (_ : AV) (H : Heap) (n : Nat) : Prop :=
 match H.find l with
 | some (.loop r) => match r.st, axV r.pend with
  | .busy, _ => False
  | _, some e => Q e { slots := ad7 (aiR (H.up l (.loop { r with st := .exhausted }))) aEL σ.slots, H := H.up l (.loop { r with st := .exhausted }), next := n, n := σ.n }
  | _, none => False
 | _ => False
section
variable {P : Program} {G : World → Prop}
def aVr (Q : Exit → Act → World → Prop) : Exit → Act → World → Prop
 | .goto _, _, _ => False
 | e, a, w => Q e a w
theorem aLG {F : Fence} {n : Nat} {Q : Exit → Act → World → Prop} {a : Act} {w : World} {c : Code} (h : c.wpIn F n P (aVr Q) a w) : (Code.scope c).wpIn F n P Q a w := by
 intro b k cs hro hb hr
 have h0 : (lone (b.atR a (.code (.scope c) :: k)) cs w).fenced P F := fenced_calm hb hr rfl
 have s1 : step P (lone (b.atR a (.code (.scope c) :: k)) cs w) = .next (lone (b.atR a (.code c :: .inScope c :: k)) cs w) := step_lone_go (by simp [stepG, stepG.exec, Frame.atR])
 obtain ⟨e, a₁, w₁, hq, harr⟩ := h b (.inScope c :: k) cs hro hb hr
 have s2 : step P (lone (b.atR a₁ (.inScope c :: k)) cs w₁) = .next (lone (b.atR a₁ k) cs w₁) := step_lone_go (by simp [stepG, stepG.exec, Frame.atR])
 cases e with
 | normal => exact ⟨.normal, a₁, w₁, hq, .head h0 s1 (StepsIn.trans harr (.one (fenced_calm hb hr rfl) s2))⟩
 | exit id =>
  have hx : exitTo id (.inScope c :: k) = exitTo id k := by simp [exitTo]
  exact ⟨.exit id, a₁, w₁, hq, fun k' hk => .head h0 s1 (harr.1 k' (by rw [hx]; exact hk)),
   fun hr' hk => let ⟨k₁, h1, h2⟩ := harr.2 hr' (by rw [hx]; exact hk); ⟨k₁, h1, .head h0 s1 h2⟩⟩
 | goto l => exact hq.elim
 | ret => exact ⟨_, a₁, w₁, hq, .of_steps (.one h0 s1) harr⟩
 | panic ch => exact ⟨_, a₁, w₁, hq, .of_steps (.one h0 s1) harr⟩
 | outgrown => exact ⟨_, a₁, w₁, hq, .of_steps (.one h0 s1) harr⟩
theorem aVe {H : Heap} {l : Nat} {r : LoopA} (hf : H.find l = some (.loop r)) (hn : H.keys.Nodup) {k : Nat} {e : TypeId} {t : Ty} {m : List t.T} (r' : LoopA) (h : (k, Bk.row e t m) ∈ H) : (k, Bk.row e t m) ∈ H.up l (.loop r') := by
 refine (Heap.mem_up_ne ?_).2 h
 intro e
 subst e
 have := Heap.mem_unique hn h (Heap.find_mem hf)
 cases this
theorem MRel.turn {C : Ctx} {ρ : Nat → Nat} {H : Heap} {next : Nat} {w : World} (hm : MRel C ρ H next w) {l : Nat} {r : LoopA} (hf : H.find l = some (.loop r)) (st : LoopState) (pe : Option Code)
  {fn : FuncId} {tmps : Array Value} {d : Nat} (hl : w.heap[ρ l]? = some (.loop { state := r.st, pending := r.pend, fn := fn, tmps := tmps, params := r.ps, assign := r.assign, body := r.body, defers := d }))
  (hsz : tmps.size = r.n) (hsl : ∀ t, VR C ρ H w (agT r.slots t) (tmps.getD t undef)) :
  MRel C ρ (H.up l (.loop { r with st := st, pend := pe })) next (w.putObj (ρ l) (.loop { state := st, pending := pe, fn := fn, tmps := tmps, params := r.ps, assign := r.assign, body := r.body, defers := d })) ∧
   Ext C ρ H w ρ (H.up l (.loop { r with st := st, pend := pe })) (w.putObj (ρ l) (.loop { state := st, pending := pe, fn := fn, tmps := tmps, params := r.ps, assign := r.assign, body := r.body, defers := d })) := by
 have hk := Heap.find_mem hf
 have hkk := aaO hk
 have hlt := afM hl
 generalize hO : Obj.loop { state := st, pending := pe, fn := fn, tmps := tmps, params := r.ps, assign := r.assign, body := r.body, defers := d } = O
 have hext : Ext C ρ H w ρ (H.up l (.loop { r with st := st, pend := pe })) (w.putObj (ρ l) O) := by
  refine ⟨fun b hb => ?_, fun j hj => ⟨by rw [Heap.keys_up]; exact hj, rfl⟩, fun j e' t m hmem => ?_, by simp⟩
  ·obtain ⟨h1, h2, h3⟩ := hb
   exact ⟨⟨h1, by simpa using h2, fun j hj => h3 j (by rwa [Heap.keys_up] at hj)⟩, World.putObj_heap_other (fun e => h3 l hkk e.symm)⟩
  ·refine ⟨m, aVe hf hm.nodup _ hmem, zq _, fun c fr hc => ⟨c, fr, ?_, rfl⟩⟩
   rw [World.putObj_heap_other]; exact hc
   intro e
   rw [e, hl] at hc
   cases hc
 refine ⟨⟨?_, ?_, ?_, ?_, ?_, ?_⟩, hext⟩
 ·exact hm.below.trans ⟨rfl, rfl, rfl, by simp, fun i hi => World.putObj_heap_other (fun e => by have := hm.low l hkk; omega)⟩
 ·rw [Heap.keys_up]; exact hm.nodup
 ·rw [Heap.keys_up]; exact hm.lt
 ·rw [Heap.keys_up]; exact hm.inj
 ·rw [Heap.keys_up]; exact hm.low
 ·intro j b hjb
  by_cases hj : j = l
  ·subst hj
   rw [Heap.mem_up_eq hm.nodup hjb]
   exact ⟨fn, tmps, d, by rw [World.putObj_heap_same hlt, hO], hsz, fun t => hext.vr (hsl t)⟩
  ·have hjb' := (Heap.mem_up_ne hj).1 hjb
   exact (hm.mem j b hjb').ext hext (World.putObj_heap_other (fun e => hj (hm.inj j (aaO hjb') l hkk e)))
theorem aJr {rnd : Option Nat} {j : Code} {e : Exit} (h : axV (some j) = some e) {Q : Exit → Act → World → Prop} {a : Act} {w : World} (hq : Q e a w) : j.wpIn (af4 rnd) 0 P Q a w := by
 cases j <;> simp only [axV] at h <;> first | (cases h; done) | (injection h with h; subst h)
 ·exact wpIn_exit hq
 ·exact wpIn_ret hq
theorem Dfs.push {C : Ctx} {ρ ρ' : Nat → Nat} {H H' : Heap} {w w' : World} {l : List Deferred} (h : Dfs C ρ H w l) (hd : ∀ b, Ok C ρ H w b → Ok C ρ' H' w' b ∧ w'.heap[b]? = w.heap[b]?) (hsz : w.heap.size ≤ w'.heap.size) {d : Nat} (hnew : w.heap.size ≤ d)
  (hk : ∀ k ∈ H'.keys, ρ' k ≠ d) (hb : w'.heap[d]? = some (.deferred (some []))) : Dfs C ρ' H' w' ({ target := .collected d, args := #[] } :: l) := by
 obtain ⟨h0, ds, h1, h2, h3⟩ := h.mono hd hsz
 obtain ⟨g0, ds0, g1, g2, g3⟩ := h
 refine ⟨h0, d :: ds, by rw [h1]; rfl, yL.2 ⟨fun hm => ?_, h2⟩, fun x hx => ?_⟩
 ·have e : ds0 = ds := by
   have := g1.symm.trans h1
   exact List.map_inj_right (fun a b h => by injection h with h; injection h) |>.1 this
  subst e
  have := afM (g3 d hm).2
  omega
 ·rcases zx.1 hx with rfl | hx
  ·exact ⟨⟨zz g0 hnew, hk⟩, hb⟩
  ·exact h3 x hx
theorem aLF {rnd : Option Nat} {Q : Exit → Act → World → Prop} {ι : Type} {c : Code} (I : ι → Act → World → Prop) (μ : ι → Nat)
  (round : ∀ i a w, I i a w → c.wpIn (af4 rnd) 0 P (Exit.then (fun a' w' => ∃ i', I i' a' w' ∧ μ i' < μ i) Q) a w) (i : ι) (a : Act) (w : World) (h₀ : I i a w) : (Code.loop c).wpIn (af4 rnd) 0 P Q a w := by
 intro b k cs hro hb hr
 have key : ∀ j i a w, μ i = j → I i a w →
   ∃ e a' w', Q e a' w' ∧ ArrivesIn (Machine.fenced P (af4 rnd)) P (lone (b.atR a (.code c :: .inLoop c :: k)) cs w) b k cs e a' w' := by
  intro j
  induction j using Nat.strongRecOn with
  | _ j ih =>
   intro i a w hn hI
   obtain ⟨e, a₁, w₁, hq, harr⟩ := round i a w hI b (.inLoop c :: k) cs hro hb hr
   cases e with
   | normal =>
    obtain ⟨i', hI₁, hlt⟩ := hq
    obtain ⟨e₂, a₂, w₂, hq₂, harr₂⟩ := ih (μ i') (hn ▸ hlt) i' a₁ w₁ rfl hI₁
    exact ⟨e₂, a₂, w₂, hq₂, .of_steps (StepsIn.trans harr (.one (fenced_calm hb hr rfl) stepR_inLoop)) harr₂⟩
   | exit id => exact ⟨_, a₁, w₁, hq, .pass (x := .inLoop c) rfl (fun _ _ => .inl zi) harr⟩
   | goto l => exact ⟨_, a₁, w₁, hq, .pass (x := .inLoop c) rfl (fun _ _ => .inl zi) harr⟩
   | ret => exact ⟨_, a₁, w₁, hq, .pass (x := .inLoop c) rfl (fun _ _ => .inl zi) harr⟩
   | panic ch => exact ⟨_, a₁, w₁, hq, .pass (x := .inLoop c) rfl (fun _ _ => .inl zi) harr⟩
   | outgrown => exact ⟨_, a₁, w₁, hq, .pass (x := .inLoop c) rfl (fun _ _ => .inl zi) harr⟩
 obtain ⟨e, a', w', hq, harr⟩ := key _ i a w rfl h₀
 exact ⟨e, a', w', hq, .of_steps (.one (fenced_calm hb hr rfl) stepR_loop) harr⟩
end
open Go Go.RowKit
def ah1 : Nat → List AV → List (Nat × AV)
 | _, [] => []
 | i, a :: as => (i, a) :: ah1 (i + 1) as
def aTP (P : Program) (σ : St) : List ResultVar → T (List AV)
 | [] => .ok []
 | .tmp t :: r => (aTP P σ r).bind fun l => .ok (agT σ.slots t :: l)
 | .cell a t :: r => (aGL P σ.H t (agT σ.slots a)).bind fun x => (aTP P σ r).bind fun l => .ok (x :: l)
def aV8 (P : Program) (fn : Func) (K : List AV → St → Prop) : Exit → St → Prop
 | .normal, σ => (aTP P σ fn.results.toList).holds fun l => K l σ
 | .ret, σ => (aTP P σ fn.results.toList).holds fun l => K l σ
 | _, _ => False
def aVI (K : AV → Heap → Nat → Prop) (l : List AV) (σ : St) : Prop := K (aUi l) σ.H σ.next
def aBL (σ : St) : List Nat → List AV → St
 | p :: ps, a :: as => aBL (σ.put (some p) a) ps as
 | _, _ => σ
def aVx : Exit → Option (Option Code)
 | .normal => some none
 | .ret => some (some .ret)
 | .exit id => some (some (.exit id))
 | _ => none
def aDM (st : Option Code) : LoopState := match st with | none => .ready | some _ => .done
def aTZ (l : Nat) (K : AV → Heap → Nat → Prop) (e : Exit) (σ : St) : Prop :=
 match aVx e with
 | some j => match σ.H.find l with
  | some (.loop r) => K (.d .bool j.isNone) (σ.H.up l (.loop { r with st := aDM j, pend := j })) σ.next
  | _ => False
 | none => False
def aVJ (l : Nat) (X : St → Prop) : Exit → St → Prop
 | .normal, σ => match σ.H.find l with
  | some (.loop r) => match r.st with
   | .ready => X { σ with H := σ.H.up l (.loop { r with st := .busy }) }
   | _ => False
  | _ => False
 | _, _ => False
def aS1 (H : Heap) : Nat → Nat → Nat → AV := fun k off len =>
 match H.find k with
 | some (.row _ t l) => .d (.sl t) ((l.drop off).take len)
 | _ => .no
def axB : (t : Ty) → List AV → Option t.T
 | .unit, [] => some ()
 | .pair t u, a :: as => match toD t a with
  | some x => match axB u as with
   | some y => some (x, y)
   | none => none
  | none => none
 | _, _ => none
def aWf (t : Ty) (y : t.T) (l : List AV) (σ : St) : Prop :=
 match axB t (AV.maps (fun _ => false) (aS1 σ.H) l) with
 | some z => z = y
 | none => False
def Wf : (t : Ty) → t.T → Prop
 | .int k, (x : Int) => k.min ≤ x ∧ x ≤ k.max
 | .bool, _ => True
 | .str, (x : List UInt8) => x.length ≤ lim
 | .unit, _ => True
 | .pair t u, x => Wf t x.1 ∧ Wf u x.2
 | .arr n t, (x : List t.T) => x.length = n ∧ ∀ y ∈ x, Wf t y
 | .sl t, (x : List t.T) => x.length ≤ lim ∧ ∀ y ∈ x, Wf t y
def aAV : (t : Ty) → t.T → List AV
 | .pair t u, x => .d t x.1 :: aAV u x.2
 | _, _ => []
section
variable {C : Ctx} {P : Program} {G : World → Prop}
theorem RdL.wf {α : Type} {R : α → List Value → Prop} {W : α → Prop} (h : ∀ x cs, R x cs → W x) : ∀ (l : List α) (cs : List Value), RdL R l cs → ∀ y ∈ l, W y
 | [], _, _, y, hy => by cases hy
 | x :: xs, cs, ⟨c1, c2, _, h1, h2⟩, y, hy => by
  rcases zx.1 hy with rfl | hy
  ·exact h _ _ h1
  ·exact RdL.wf h xs c2 h2 y hy
theorem Rd.wf {ok : Nat → Prop} {w : World} : ∀ (t : Ty) (x : t.T) (cs : List Value), Rd ok w t x cs → Wf t x
 | .int _, _, _, ⟨_, h⟩ => h
 | .bool, _, _, _ => trivial
 | .str, _, _, ⟨_, h⟩ => h
 | .unit, _, _, _ => trivial
 | .pair t u, _, _, ⟨_, _, _, h1, h2⟩ => ⟨Rd.wf t _ _ h1, Rd.wf u _ _ h2⟩
 | .arr _ t, _, _, ⟨hl, hr⟩ => ⟨hl, RdL.wf (fun x cs => Rd.wf t x cs) _ _ hr⟩
 | .sl t, x, _, ⟨_, _, _, _, hl, h3⟩ => by
  refine ⟨hl, ?_⟩
  rcases h3 with h3 | ⟨_, _, _, _, _, _, _, _, _, hr⟩
  ·rw [h3]; intro y hy; cases hy
  ·exact RdL.wf (fun x cs => Rd.wf t x cs) _ _ hr
theorem RdVs.wf {ok : Nat → Prop} {w : World} : ∀ (t : Ty) (x : t.T) (vs : List Value), RdVs ok w t x vs → Wf t x
 | .unit, _, _, _ => trivial
 | .pair t u, _, _, ⟨_, _, _, h1, h2⟩ => ⟨Rd.wf t _ _ h1.cells, RdVs.wf u _ _ h2⟩
 | .int _, _, _, h => h.elim
 | .bool, _, _, h => h.elim
 | .str, _, _, h => h.elim
 | .arr _ _, _, _, h => h.elim
 | .sl _, _, _, h => h.elim
theorem RdVs.args {ok : Nat → Prop} {ρ : Nat → Nat} {H : Heap} {w : World} (hk : ∀ b, ok b → Ok C ρ H w b) : ∀ (t : Ty) (x : t.T) (vs : List Value), RdVs ok w t x vs → VRs C ρ H w (aAV t x) vs
 | .unit, _, vs, h => by obtain rfl : vs = [] := h; exact .nil
 | .pair t u, x, vs, ⟨v, us, e, h1, h2⟩ => by subst e; exact .cons (.d (h1.mono (fun b hb => ⟨hk b hb, rfl⟩))) (RdVs.args hk u _ _ h2)
 | .int _, _, _, h => h.elim
 | .bool, _, _, h => h.elim
 | .str, _, _, h => h.elim
 | .arr _ _, _, _, h => h.elim
 | .sl _, _, _, h => h.elim
theorem asB : ∀ (as : List AV) (i t : Nat), agT (ah1 i as) t = if i ≤ t then (as[t - i]?).getD .no else .no
 | [], i, t => by simp [ah1, agT]
 | a :: as, i, t => by
  simp only [ah1, agT]
  cases hb : Nat.beq i t with
  | true => have := aaM hb; subst this; simp
  | false =>
   have hne := adE hb
   simp only
   rw [asB as (i + 1) t]
   by_cases h : i + 1 ≤ t
   ·rw [if_pos h, if_pos zc]
    rw [show t - i = (t - (i + 1)) + 1 by omega]
    simp
   ·rw [if_neg h]
    by_cases h2 : i ≤ t
    ·omega
    ·rw [if_neg h2]
theorem aHh {ρ : Nat → Nat} {H : Heap} {next : Nat} {w : World} {args : List AV} {vs : List Value} {n : Nat} (hm : MRel C ρ H next w) (hlo : C.lo ≤ w.heap.size) (hv : VRs C ρ H w args vs) (hn : args.length ≤ n) :
  SRel C ρ { slots := ah1 0 args, H := H, next := next, n := n } { tmps := (⟨vs⟩ : Array Value) ++ Array.replicate (n - (⟨vs⟩ : Array Value).size) undef, defers := [] } w := by
 have hlen := hv.length
 refine ⟨hm, fun t => ?_, by simp; omega, Dfs.nil hlo⟩
 show VR C ρ H w (agT (ah1 0 args) t) _
 rw [asB args 0 t, if_pos (ye _), Nat.sub_zero]
 cases ha : args[t]? with
 | none => exact .no
 | some a =>
  obtain ⟨v, h1, h2⟩ := hv.get ha
  have hlt : t < vs.length := (zR.1 h1).1
  have e : ((⟨vs⟩ : Array Value) ++ Array.replicate (n - (⟨vs⟩ : Array Value).size) undef).getD t undef = v := by
   rw [zI, Array.getElem?_append_left (by simpa using hlt)]
   have : (⟨vs⟩ : Array Value)[t]? = some v := by simpa using h1
   rw [this]; rfl
  rw [e]
  exact h2
def aB5 (a : Act) : ResultVar → Sem Value
 | .tmp t => pure (a.tmps.getD t undef)
 | .cell x t => do loadVar t (← asAddr (a.tmps.getD x undef))
theorem auG {ρ : Nat → Nat} {σ : St} {a : Act} {w : World} (hs : SRel C ρ σ a w) : ∀ (rs : List ResultVar) (l : List AV), (aTP P σ rs).Leaf l →
  ∃ vs, (rs.mapM (aB5 a)).run P w = .ok vs w ∧ VRs C ρ σ.H w l vs
 | [], l, h => by cases h; exact ⟨[], rfl, .nil⟩
 | .tmp t :: r, l, h => by
  obtain ⟨l', h1, h2⟩ := T.Leaf.bind h
  cases h2
  obtain ⟨vs, h3, h4⟩ := auG hs r l' h1
  exact ⟨_ :: vs, by simp only [List.mapM_cons, aB5, Sem.run_bind, Sem.run_pure, Result.andThen_ok, h3], .cons (hs.slots t) h4⟩
 | .cell x t :: r, l, h => by
  obtain ⟨y, h1, h2⟩ := T.Leaf.bind h
  obtain ⟨l', h3, h4⟩ := T.Leaf.bind h2
  cases h4
  obtain ⟨vs, h5, h6⟩ := auG hs r l' h3
  have hv := hs.slots x
  obtain ⟨v, h7, h8⟩ := awQ (fun _ h => h) hs.m h1 hv
  refine ⟨v :: vs, ?_, .cons h8 h6⟩
  have hl : (aB5 a (.cell x t)).run P w = .ok v w := by
   have hptr : ∃ ad, a.tmps.getD x undef = .pointer (some ad) := by
    generalize a.tmps.getD x undef = u at hv
    unfold aGL at h1
    split at h1
    ·rename_i he; rw [he] at hv; cases hv; exact ⟨_, rfl⟩
    ·rename_i he; rw [he] at hv; cases hv; exact ⟨_, rfl⟩
    ·rename_i he; rw [he] at hv; cases hv; exact ⟨_, rfl⟩
    ·rename_i he; rw [he] at hv; cases hv; exact ⟨_, rfl⟩
    ·cases h1
   obtain ⟨ad, had⟩ := hptr
   rw [had] at h7
   show (do loadVar t (← asAddr (a.tmps.getD x undef)) : Sem Value).run P w = _
   rw [had]
   simpa [Instr.loadAt, Instr.sureAddr, asAddr] using h7
  simp only [List.mapM_cons, Sem.run_bind, hl, Result.andThen_ok, h5, Sem.run_pure]
theorem aIr {fn : Func} {a : Act} {w : World} {vs : List Value} (h : (fn.results.toList.mapM (aB5 a)).run P w = .ok vs w) : (results fn a.tmps).run P w = .ok (aOO vs) w := by
 have hm : (fn.results.mapM (aB5 a)).run P w = .ok vs.toArray w := by
  rw [Array.mapM_eq_mapM_toList]
  simp only [Sem.run_map]
  rw [h]
  rfl
 have e : results fn a.tmps = (do let vs ← fn.results.mapM (aB5 a); pure (if h : vs.size = 1 then vs[0] else .tuple vs) : Sem Value) := by
  unfold results
  congr 2
 rw [e]
 simp only [Sem.run_bind, hm, Result.andThen_ok, Sem.run_pure]
 congr 1
 match vs with
 | [] => rfl
 | [v] => rfl
 | v :: u :: r => rfl
theorem aS0 {ρ : Nat → Nat} {H : Heap} {next : Nat} {w : World} (hm : MRel C ρ H next w) {x : AV} {v : Value} (h : VR C ρ H w x v) : VR C ρ [] w (x.map (fun _ => false) (aS1 H)) v := by
 have hd : ∀ b, Ok C ρ H w b → Ok C ρ [] w b ∧ w.heap[b]? = w.heap[b]? := fun b ⟨h1, h2, _⟩ => ⟨⟨h1, h2, by intro k hk; cases hk⟩, rfl⟩
 refine VR.map hd (fun _ _ h => by cases h) (fun _ _ _ _ _ h => by cases h) ?_ h
 intro k off len v _ hov
 unfold aS1
 cases hov with
 | own hk hl hc hmx hb hs ha =>
  split
  ·rename_i e t l hf
   have hu := Heap.mem_unique hm.nodup (Heap.find_mem hf) hk
   injection hu with hu1 hu2 hu3
   subst hu1; subst hu2
   have hu3 := eq_of_heq hu3
   subst hu3
   obtain ⟨c, h1, h2, h3, h4, h5⟩ := hm.ownCells hk hl
   refine .d ⟨_, ⟨_, _, by rw [h3], by rw [h3]; exact hc, by rw [h3]; exact h4, ?_⟩, rfl⟩
   by_cases hnil : (l.drop off).take len = []
   ·exact Or.inl hnil
   ·have hpos : 0 < len := by rw [← h3]; exact yb.2 hnil
    have ha' := ha.resolve_right (fun h => by omega)
    exact Or.inr ⟨ρ k, off * t.size, c, e, (0, 0), ha', ⟨Or.inr (hm.low k (aaO hk)), hm.key_lt (aaO hk), by intro k hk; cases hk⟩, h1, h2, RdL.mono (fun x cs => Rd.mono hd t x cs) _ _ h5⟩
  ·exact .no
theorem ayE {ρ : Nat → Nat} {w : World} : ∀ (t : Ty) (as : List AV) (vs : List Value) (x : t.T), axB t as = some x → VRs C ρ [] w as vs → RdVs (Ok C ρ [] w) w t x vs
 | .unit, [], vs, x, h, hv => by cases hv; rfl
 | .pair t u, a :: as, vs, x, h, hv => by
  cases hv with
  | cons h1 h2 =>
   simp only [axB] at h
   split at h
   ·rename_i y hy
    split at h
    ·rename_i z hz
     injection h with h; subst h
     exact ⟨_, _, rfl, aiH hy h1, ayE u as _ z hz h2⟩
    ·cases h
   ·cases h
 | .int _, _, _, _, h, _ => by simp [axB] at h
 | .bool, _, _, _, h, _ => by simp [axB] at h
 | .str, _, _, _, h, _ => by simp [axB] at h
 | .arr _ _, _, _, _, h, _ => by simp [axB] at h
 | .sl _, _, _, _, h, _ => by simp [axB] at h
 | .unit, _ :: _, _, _, h, _ => by simp [axB] at h
 | .pair _ _, [], _, _, h, _ => by simp [axB] at h
def Ctx.at (C : Ctx) (n : Nat) (h : C.w0.heap.size ≤ n) : Ctx := { C with lo := n, hlo := h }
theorem VR.at {ρ : Nat → Nat} {H : Heap} {w : World} {n : Nat} {hn : C.w0.heap.size ≤ n} {x : AV} {v : Value} (h : VR C ρ H w x v) : VR (C.at n hn) ρ H w x v := by
 refine VR.rec (motive_1 := fun x v _ => VR (C.at n hn) ρ H w x v) (motive_2 := fun xs vs _ => VRs (C.at n hn) ρ H w xs vs)
  ?_ ?_ ?_ ?_ ?_ ?_ ?_ ?_ ?_ ?_ ?_ ?_ ?_ ?_ ?_ ?_ ?_ ?_ ?_ h
 ·intro t x v h; exact .d h
 ·intro k off h; exact .ptr h
 ·intro k i e t l h hi; exact .eptr h hi
 ·intro k i f o u e t l h hi ho; exact .efp h hi ho
 ·intro t x b o c e fr hb hc ho h; exact .dptr hb hc ho h
 ·intro k off len e t l a cap c fr h hl hc hm hb hs ha; exact .own h hl hc hm hb hs ha
 ·intro k n h hn; exact .sv h hn
 ·exact .nsl
 ·exact .nilp
 ·exact .nili
 ·exact .nni
 ·intro g first caps vf vc _ _ h1 h2; exact .fn h1 h2
 ·intro l h; exact .yld h
 ·intro cells vs _ h1 h; exact .ag h h1
 ·intro l vs _ h; exact .tup h
 ·exact .und
 ·intro v; exact .no
 ·exact .nil
 ·intro a v as vs _ _ h hs; exact .cons h hs
theorem VR.back {ρ : Nat → Nat} {H : Heap} {w : World} {n : Nat} {hn : C.w0.heap.size ≤ n} {x : AV} {v : Value} (h : VR (C.at n hn) ρ H w x v) : VR C ρ H w x v :=
 VR.at (C := C.at n hn) (n := C.lo) (hn := C.hlo) h
theorem VRs.at {ρ : Nat → Nat} {H : Heap} {w : World} {n : Nat} {hn : C.w0.heap.size ≤ n} : ∀ {xs : List AV} {vs : List Value}, VRs C ρ H w xs vs → VRs (C.at n hn) ρ H w xs vs
 | _, _, .nil => .nil
 | _, _, .cons h hs => .cons h.at (VRs.at hs)
theorem BkR.at {ρ : Nat → Nat} {H : Heap} {w : World} {n b : Nat} {hn : C.w0.heap.size ≤ n} {x : Bk} (h : BkR C ρ H w b x) : BkR (C.at n hn) ρ H w b x := by
 cases x with
 | vars e cells => obtain ⟨c, h1, h2, h3⟩ := h; exact ⟨c, h1, h2.at, h3⟩
 | row e t l => exact h
 | loop r => obtain ⟨fn, tmps, d, h1, h2, h3⟩ := h; exact ⟨fn, tmps, d, h1, h2, fun t => (h3 t).at⟩
 | any => exact h
theorem MRel.at {ρ : Nat → Nat} {H : Heap} {next : Nat} {w : World} {n : Nat} {hn : C.w0.heap.size ≤ n} (h : MRel C ρ H next w) : MRel (C.at n hn) ρ H next w :=
 ⟨h.below, h.nodup, h.lt, h.inj, h.low, fun k b hb => (h.mem k b hb).at⟩
theorem MRel.back {ρ : Nat → Nat} {H : Heap} {next : Nat} {w : World} {n : Nat} {hn : C.w0.heap.size ≤ n} (h : MRel (C.at n hn) ρ H next w) : MRel C ρ H next w :=
 MRel.at (C := C.at n hn) (n := C.lo) (hn := C.hlo) h
theorem Fr.back {ρ ρ' : Nat → Nat} {H H' : Heap} {w w' : World} {m n : Nat} {hn : C.w0.heap.size ≤ n} (h : Fr (C.at n hn) m ρ H w ρ' H' w') : Fr C m ρ H w ρ' H' w' :=
 ⟨h.data, h.keys, h.rows, h.size⟩
theorem MRel.shut {ρ : Nat → Nat} {H : Heap} {next : Nat} {w : World} (hm : MRel C ρ H next w) {d : Nat} (hd : w.heap[d]? = some (.deferred (some []))) (hk : ∀ k ∈ H.keys, ρ k ≠ d) (hlow : C.w0.heap.size ≤ d) (o : Obj) :
  MRel C ρ H next (w.putObj d o) ∧ ∀ x v, VR C ρ H w x v → VR C ρ H (w.putObj d o) x v := by
 have hdC : ∀ b c e fr, Ok C ρ H w b → w.heap[b]? = some (.cells c e fr) → Ok C ρ H (w.putObj d o) b ∧ (w.putObj d o).heap[b]? = w.heap[b]? := by
  intro b c e fr hb hc
  have hne : b ≠ d := by intro e; rw [e, hd] at hc; cases hc
  exact ⟨⟨hb.1, by simpa using hb.2.1, hb.2.2⟩, World.putObj_heap_other hne⟩
 have hv : ∀ x v, VR C ρ H w x v → VR C ρ H (w.putObj d o) x v := by
  intro x v h
  have := VR.mapC (p := fun _ => true) (f := fun _ _ _ => .no) (ρ' := ρ) (H' := H) hdC (fun k hk _ => ⟨hk, rfl⟩)
   (fun k e t l hmem _ => ⟨l, hmem, zq _, fun c fr hc => ⟨c, fr, by rw [World.putObj_heap_other (hk k (aaO hmem))]; exact hc, rfl⟩⟩) (fun _ _ _ _ h => by cases h) h
  rwa [AV.map_true] at this
 refine ⟨⟨?_, hm.nodup, hm.lt, hm.inj, hm.low, fun k b hb => ?_⟩, hv⟩
 ·exact hm.below.trans ⟨rfl, rfl, rfl, by simp, fun i hi => World.putObj_heap_other zc⟩
 ·have hbr := hm.mem k b hb
  have he : (w.putObj d o).heap[ρ k]? = w.heap[ρ k]? := World.putObj_heap_other (hk k (aaO hb))
  cases b with
  | vars e cells => obtain ⟨c, h1, h2, h3⟩ := hbr; exact ⟨c, he.trans h1, h2.imp hv, h3⟩
  | row e t l => obtain ⟨c, h1, h2, h3, h4, h5⟩ := hbr; exact ⟨c, he.trans h1, h2, h3, RdL.mono (fun x cs => Rd.monoC hdC t x cs) _ _ h4, h5⟩
  | loop r => obtain ⟨fn, tmps, dd, h1, h2, h3⟩ := hbr; exact ⟨fn, tmps, dd, he.trans h1, h2, fun t => hv _ _ (h3 t)⟩
  | any => obtain ⟨o', h1⟩ := hbr; exact ⟨o', he.trans h1⟩
theorem az2 {F : Fence} {n : Nat} {ρ : Nat → Nat} {H : Heap} {next : Nat} {fn : Func} {tmps : Array Value} {R : Ending → World → Prop} : ∀ (ds : List Nat) (w : World), MRel C ρ H next w → ds.Nodup →
  (∀ d ∈ ds, (C.lo ≤ d ∧ ∀ k ∈ H.keys, ρ k ≠ d) ∧ w.heap[d]? = some (.deferred (some []))) →
  (∀ w'', MRel C ρ H next w'' → (∀ x v, VR C ρ H w x v → VR C ρ H w'' x v) → (∀ b, b < C.lo → w''.heap[b]? = w.heap[b]?) → (∀ k ∈ H.keys, w''.heap[ρ k]? = w.heap[ρ k]?) → w''.heap.size = w.heap.size → LeavesIn F n P fn tmps R [] .returning w'') →
  LeavesInM F n P fn tmps R (ds.map (fun d => { target := .collected d, args := #[] })) .returning w
 | [], w, hm, _, _, h => h w hm (fun _ _ h => h) (fun _ _ => rfl) (fun _ _ => rfl) rfl
 | d :: ds, w, hm, hnd, hds, h => by
  obtain ⟨⟨hlo, hk⟩, hd⟩ := hds d zZ
  obtain ⟨hnd1, hnd2⟩ := yL.1 hnd
  obtain ⟨hm', hv'⟩ := hm.shut hd hk (zz C.hlo hlo) (.deferred none)
  refine ⟨by simp, Or.inl ⟨d, w.putObj d (.deferred none), rfl, run_takeDeferred hd, ?_⟩⟩
  refine az2 ds _ hm' hnd2 (fun e he => ?_) (fun w'' g1 g2 g3 g4 g5 => h w'' g1 (fun x v hx => g2 x v (hv' x v hx)) (fun b hb => ?_) (fun k hk' => ?_) (by rw [g5]; simp))
  ·obtain ⟨h1, h2⟩ := hds e (zM _ he)
   refine ⟨h1, ?_⟩
   rw [World.putObj_heap_other (fun e' : e = d => hnd1 (e' ▸ he))]
   exact h2
  ·rw [g3 b hb, World.putObj_heap_other zc]
  ·rw [g4 k hk', World.putObj_heap_other (hk k hk')]
theorem aON {F : Fence} {n : Nat} {ρ : Nat → Nat} {fn : Func} {σ : St} {a : Act} {w : World} {Q : List AV → St → Prop} {R : Ending → World → Prop} (hs : SRel C ρ σ a w) (h : (aTP P σ fn.results.toList).holds fun l => Q l σ)
  (hR : ∀ l vs w'', Q l σ → MRel C ρ σ.H σ.next w'' → VRs C ρ σ.H w'' l vs → (∀ b, b < C.lo → w''.heap[b]? = w.heap[b]?) → (∀ k ∈ σ.H.keys, w''.heap[ρ k]? = w.heap[ρ k]?) → w''.heap.size = w.heap.size → R (.returned (aOO vs)) w'') :
  LeavesInM F n P fn a.tmps R a.defers .returning w := by
 obtain ⟨hlo, ds, h1, h2, h3⟩ := hs.defers
 rw [h1]
 refine az2 ds w hs.m h2 h3 (fun w'' g1 g2 g3 g4 g5 => ?_)
 obtain ⟨l, hl1, hl2⟩ := T.leaf h
 have hs' : SRel C ρ σ { a with defers := [] } w'' := ⟨g1, fun t => g2 _ _ (hs.slots t), hs.size, Dfs.nil (by rw [g5]; exact hlo)⟩
 obtain ⟨us, k1, k2⟩ := auG (P := P) hs' _ _ hl1
 exact ⟨_, aIr k1, hR l us w'' hl2 g1 k2 g3 g4 g5⟩
theorem aHA {ρ : Nat → Nat} {w : World} : ∀ (ps : List Nat) (as : List AV) (vs : List Value) (σ : St) (a : Act), SRel C ρ σ a w → VRs C ρ σ.H w as vs →
  SRel C ρ (aBL σ ps as) { a with tmps := (ps.zip vs).foldl (fun t x => t.setIfInBounds x.1 x.2) a.tmps } w ∧ (aBL σ ps as).H = σ.H ∧ (aBL σ ps as).next = σ.next
 | [], as, vs, σ, a, hs, hv => by cases as <;> exact ⟨hs, rfl, rfl⟩
 | p :: ps, [], vs, σ, a, hs, hv => by cases hv; exact ⟨hs, rfl, rfl⟩
 | p :: ps, x :: as, vs, σ, a, hs, hv => by
  cases hv with
  | @cons _ v _ vs h1 h2 =>
   have h3 := hs.put (dst := some p) h1
   obtain ⟨g1, g2, g3⟩ := aHA ps as vs (σ.put (some p) x) (a.put (some p) v) h3 (by rw [St.put_H]; exact h2)
   refine ⟨g1, ?_, ?_⟩
   ·rw [show aBL σ (p :: ps) (x :: as) = aBL (σ.put (some p) x) ps as from rfl, g2, St.put_H]
   ·rw [show aBL σ (p :: ps) (x :: as) = aBL (σ.put (some p) x) ps as from rfl, g3, St.put_next]
end
open Go Go.RowKit
def rn (k k' j : Nat) : Nat := match Nat.beq j k with | true => k' | false => j
mutual
def AV.ren (k k' : Nat) : AV → AV
 | .ptr j off => .ptr (rn k k' j) off
 | .eptr j i => .eptr (rn k k' j) i
 | .efp j i f => .efp (rn k k' j) i f
 | .own j off len => .own (rn k k' j) off len
 | .sv j n => .sv (rn k k' j) n
 | .fn g first caps => .fn g (AV.rens k k' first) (AV.rens k k' caps)
 | .yld l => .yld (rn k k' l)
 | .ag cells => .ag (AV.rens k k' cells)
 | .tup l => .tup (AV.rens k k' l)
 | .d t x => .d t x
 | .dptr t x => .dptr t x
 | .nsl => .nsl
 | .nilp => .nilp
 | .nili => .nili
 | .nni => .nni
 | .und => .und
 | .no => .no
def AV.rens (k k' : Nat) : List AV → List AV
 | [] => []
 | a :: as => a.ren k k' :: AV.rens k k' as
end
def ao5 (k k' : Nat) : List (Nat × AV) → List (Nat × AV)
 | [] => []
 | (t, a) :: r => (t, a.ren k k') :: ao5 k k' r
def Bk.ren (k k' : Nat) : Bk → Bk
 | .vars e cells => .vars e (AV.rens k k' cells)
 | .row e t l => .row e t l
 | .loop r => .loop { r with slots := ao5 k k' r.slots }
 | .any => .any
def Heap.ren (k k' : Nat) : Heap → Heap
 | [] => []
 | (j, b) :: r => (rn k k' j, b.ren k k') :: Heap.ren k k' r
def St.rekey (σ : St) (k k' : Nat) : St := { σ with slots := ao5 k k' σ.slots, H := Heap.ren k k' σ.H, next := Nat.max σ.next (k' + 1) }
section
variable {C : Ctx} {ρ : Nat → Nat} {H : Heap} {w : World} {k k' : Nat}
theorem aDN : rn k k' k = k' := by simp [rn]
theorem aOL {j : Nat} (h : j ≠ k) : rn k k' j = j := by simp [rn, aCF h]
theorem akM (hk' : k' ∉ H.keys) {j : Nat} (hj : j ∈ H.keys) : upd ρ k' (ρ k) (rn k k' j) = ρ j := by
 by_cases h : j = k
 ·subst h; rw [aDN, abG]
 ·rw [aOL h, afT]; intro e; subst e; exact hk' hj
theorem ajJ : (Heap.ren k k' H).keys = H.keys.map (rn k k') := by
 induction H with
 | nil => rfl
 | cons x r ih =>
  obtain ⟨j, b⟩ := x
  show rn k k' j :: (Heap.ren k k' r).keys = rn k k' j :: ((Heap.keys r).map (rn k k'))
  rw [ih]
theorem mem_ren {j : Nat} {b : Bk} : (j, b) ∈ Heap.ren k k' H ↔ ∃ i c, (i, c) ∈ H ∧ j = rn k k' i ∧ b = c.ren k k' := by
 induction H with
 | nil => exact ⟨fun h => (by cases h), fun ⟨_, _, h, _⟩ => (by cases h)⟩
 | cons x r ih =>
  obtain ⟨i, c⟩ := x
  simp only [Heap.ren, zx, Prod.mk.injEq]
  constructor
  ·rintro (⟨h1, h2⟩ | h)
   ·exact ⟨i, c, Or.inl ⟨rfl, rfl⟩, h1, h2⟩
   ·obtain ⟨i', c', h1, h2⟩ := ih.1 h
    exact ⟨i', c', Or.inr h1, h2⟩
  ·rintro ⟨i', c', ⟨rfl, rfl⟩ | h1, h2, h3⟩
   ·exact Or.inl ⟨h2, h3⟩
   ·exact Or.inr (ih.2 ⟨i', c', h1, h2, h3⟩)
theorem Ok.ren (hk' : k' ∉ H.keys) {b : Nat} (h : Ok C ρ H w b) : Ok C (upd ρ k' (ρ k)) (Heap.ren k k' H) w b := by
 refine ⟨h.1, h.2.1, ?_⟩
 intro j hj
 rw [ajJ] at hj
 obtain ⟨i, hi, rfl⟩ := zN.1 hj
 rw [akM hk' hi]
 exact h.2.2 i hi
theorem VR.ren (hk' : k' ∉ H.keys) {x : AV} {v : Value} (h : VR C ρ H w x v) : VR C (upd ρ k' (ρ k)) (Heap.ren k k' H) w (x.ren k k') v := by
 have hd : ∀ b, Ok C ρ H w b → Ok C (upd ρ k' (ρ k)) (Heap.ren k k' H) w b ∧ w.heap[b]? = w.heap[b]? := fun b h => ⟨h.ren hk', rfl⟩
 have hkey : ∀ j, j ∈ H.keys → rn k k' j ∈ (Heap.ren k k' H).keys := fun j hj => by rw [ajJ]; exact zN.2 ⟨j, hj, rfl⟩
 have hrow : ∀ j e t l, (j, Bk.row e t l) ∈ H → (rn k k' j, Bk.row e t l) ∈ Heap.ren k k' H := fun j e t l hj => mem_ren.2 ⟨j, _, hj, rfl, rfl⟩
 refine VR.rec (motive_1 := fun x v _ => VR C (upd ρ k' (ρ k)) (Heap.ren k k' H) w (x.ren k k') v) (motive_2 := fun xs vs _ => VRs C (upd ρ k' (ρ k)) (Heap.ren k k' H) w (AV.rens k k' xs) vs)
  ?_ ?_ ?_ ?_ ?_ ?_ ?_ ?_ ?_ ?_ ?_ ?_ ?_ ?_ ?_ ?_ ?_ ?_ ?_ h
 ·intro t x v h; exact .d (RdV.mono hd h)
 ·intro j off h
  rw [← akM (ρ := ρ) (k := k) hk' h]
  exact .ptr (hkey j h)
 ·intro j i e t l h hi
  rw [← akM (ρ := ρ) (k := k) hk' (aaO h)]
  exact .eptr (hrow j e t l h) hi
 ·intro j i f o u e t l h hi ho
  rw [← akM (ρ := ρ) (k := k) hk' (aaO h)]
  exact .efp (hrow j e t l h) hi ho
 ·intro t x b o c e fr hb hc ho h
  exact .dptr (hd b hb).1 hc ho (Rd.mono hd _ _ _ h)
 ·intro j off len e t l a cap c fr h hl hc hm hb hs ha
  have e1 := akM (ρ := ρ) (k := k) hk' (aaO h)
  exact .own (hrow j e t l h) hl hc hm (by rw [e1]; exact hb) hs (by rw [e1]; exact ha)
 ·intro j n h hn
  rw [← akM (ρ := ρ) (k := k) hk' h]
  exact .sv (hkey j h) hn
 ·exact .nsl
 ·exact .nilp
 ·exact .nili
 ·exact .nni
 ·intro g first caps vf vc _ _ h1 h2; exact .fn h1 h2
 ·intro l h
  rw [← akM (ρ := ρ) (k := k) hk' h]
  exact .yld (hkey l h)
 ·intro cells vs _ h1 h; exact .ag h h1
 ·intro l vs _ h; exact .tup h
 ·exact .und
 ·intro v; exact .no
 ·exact .nil
 ·intro a v as vs _ _ h hs; exact .cons h hs
theorem VRs.ren (hk' : k' ∉ H.keys) : ∀ {xs : List AV} {vs : List Value}, VRs C ρ H w xs vs → VRs C (upd ρ k' (ρ k)) (Heap.ren k k' H) w (AV.rens k k' xs) vs
 | _, _, .nil => .nil
 | _, _, .cons h1 h2 => .cons (h1.ren hk') (VRs.ren hk' h2)
theorem aK7 (s : List (Nat × AV)) (t : Nat) : agT (ao5 k k' s) t = (agT s t).ren k k' := by
 induction s with
 | nil => rfl
 | cons x r ih =>
  obtain ⟨j, a⟩ := x
  simp only [ao5, agT]
  cases Nat.beq j t <;> simp [ih]
theorem SRel.rekey {σ : St} {a : Act} (hs : SRel C ρ σ a w) (hk' : k' ∉ σ.H.keys) : SRel C (upd ρ k' (ρ k)) (σ.rekey k k') a w := by
 have hm := hs.m
 have hd : ∀ b, Ok C ρ σ.H w b → Ok C (upd ρ k' (ρ k)) (Heap.ren k k' σ.H) w b ∧ w.heap[b]? = w.heap[b]? := fun b h => ⟨h.ren hk', rfl⟩
 refine ⟨⟨hm.below, ?_, ?_, ?_, ?_, ?_⟩, fun t => ?_, hs.size, hs.defers.mono hd (zq _)⟩
 ·show (Heap.ren k k' σ.H).keys.Nodup
  rw [ajJ]
  refine List.nodup_iff_pairwise_ne.2 (List.pairwise_map.2 (List.Pairwise.imp_of_mem ?_ (List.nodup_iff_pairwise_ne.1 hm.nodup)))
  intro i j hi hj hne e
  apply hne
  have h1 := akM (ρ := fun x => x) (k := k) hk' hi
  have h2 := akM (ρ := fun x => x) (k := k) hk' hj
  rw [e] at h1
  exact h1.symm.trans h2
 ·intro j hj
  have hj' : j ∈ (Heap.ren k k' σ.H).keys := hj
  rw [ajJ] at hj'
  obtain ⟨i, hi, rfl⟩ := zN.1 hj'
  by_cases h : i = k
  ·subst h; rw [aDN]; exact yn (xO _) (Nat.le_max_right _ _)
  ·rw [aOL h]; exact yn (hm.lt i hi) (Nat.le_max_left _ _)
 ·intro j hj i hi e
  have hj' : j ∈ (Heap.ren k k' σ.H).keys := hj
  have hi' : i ∈ (Heap.ren k k' σ.H).keys := hi
  rw [ajJ] at hj' hi'
  obtain ⟨j0, hj0, rfl⟩ := zN.1 hj'
  obtain ⟨i0, hi0, rfl⟩ := zN.1 hi'
  rw [akM hk' hj0, akM hk' hi0] at e
  rw [hm.inj _ hj0 _ hi0 e]
 ·intro j hj
  have hj' : j ∈ (Heap.ren k k' σ.H).keys := hj
  rw [ajJ] at hj'
  obtain ⟨j0, hj0, rfl⟩ := zN.1 hj'
  rw [akM hk' hj0]
  exact hm.low _ hj0
 ·intro j b hb
  obtain ⟨i, c, h1, rfl, rfl⟩ := mem_ren.1 hb
  rw [akM hk' (aaO h1)]
  have hbr := hm.mem i c h1
  cases c with
  | vars e cells =>
   obtain ⟨c, g1, g2, g3⟩ := hbr
   exact ⟨c, g1, g2.ren hk', g3⟩
  | row e t l =>
   obtain ⟨c, g1, g2, g3, g4, g5⟩ := hbr
   exact ⟨c, g1, g2, g3, RdL.mono (fun x cs => Rd.mono hd t x cs) _ _ g4, g5⟩
  | loop r =>
   obtain ⟨fn, tmps, d, g1, g2, g3⟩ := hbr
   exact ⟨fn, tmps, d, g1, g2, fun t => by rw [aK7]; exact (g3 t).ren hk'⟩
  | any => exact hbr
 ·show VR C _ (Heap.ren k k' σ.H) w (agT (ao5 k k' σ.slots) t) _
  rw [aK7]
  exact (hs.slots t).ren hk'
theorem Fr.rekey {n : Nat} (hk' : k' ∉ H.keys) (h1 : n ≤ k') : Fr C n ρ H w (upd ρ k' (ρ k)) (Heap.ren k k' H) w := by
 refine ⟨fun b h => ⟨h.ren hk', rfl⟩, fun j hj hjm => ?_, fun j e t l hj hjm hj' => ⟨l, mem_ren.2 ⟨j, _, hjm, (aOL ?_).symm, rfl⟩, zq _, fun c fr hc => ⟨c, fr, hc, rfl⟩⟩, zq _⟩
 rotate_left
 ·rintro rfl
  rw [ajJ] at hj'
  obtain ⟨i, hi, e⟩ := zN.1 hj'
  by_cases h : i = j
  ·subst h; rw [aDN] at e; subst e; exact hk' hi
  ·rw [aOL h] at e; exact h e
 rw [ajJ] at hjm
 obtain ⟨i, hi, rfl⟩ := zN.1 hjm
 by_cases h : i = k
 ·subst h; rw [aDN] at hj; omega
 ·rw [aOL h] at hj ⊢
  exact ⟨hi, afT ρ zc⟩
end
section
variable {P : Program} {G : World → Prop}
end
def asT (α : Type) (x : α) : α := x
def len {α : Type} (l : List α) : Int := (l.length : Int)
def gi {α : Type} (l : List α) (i : Int) (d : α) : α := l.getD i.toNat d
def w64 (x : Int) : Int := IntKind.wrap .i64 x
def abZ (x : Int) : Int := IntKind.wrap .u64 x
def aeU (x : Int) : Int := IntKind.wrap .u32 x
def wu8 (x : Int) : Int := IntKind.wrap .u8 x
def inb (a b : Int) : Prop := 0 ≤ a ∧ a < b
def inc (a b : Int) : Prop := 0 ≤ a ∧ a ≤ b
def aeB (fn : Func) : Code := fn.body.getD .skip
def ap4 : Code → List Nat → Code
 | c, [] => c
 | .seq a _, 0 :: r => ap4 a r
 | .seq _ b, _ :: r => ap4 b r
 | .cond _ a _, 0 :: r => ap4 a r
 | .cond _ _ b, _ :: r => ap4 b r
 | .block _ a, _ :: r => ap4 a r
 | .loop a, _ :: r => ap4 a r
 | .scope a, _ :: r => ap4 a r
 | .rangeFunc _ _ a _, 0 :: r => ap4 a r
 | .rangeFunc _ _ _ b, _ :: r => ap4 b r
 | _, _ => .skip
open Go Go.RowKit
inductive Loc where
 | s (t : Nat)
 | l (k t : Nat)
 | c (k o : Nat)
def St.at (σ : St) : Loc → AV
 | .s t => agT σ.slots t
 | .l k t => match σ.H.find k with
  | some (.loop r) => agT r.slots t
  | _ => .no
 | .c k o => match σ.H.find k with
  | some (.vars _ l) => l.getD o .no
  | _ => .no
def St.set (σ : St) (x : AV) : Loc → St
 | .s t => { σ with slots := (t, x) :: del σ.slots t }
 | .l k t => match σ.H.find k with
  | some (.loop r) => { σ with H := σ.H.up k (.loop { r with slots := (t, x) :: del r.slots t }) }
  | _ => σ
 | .c k o => match σ.H.find k with
  | some (.vars e l) => { σ with H := σ.H.up k (.vars e (l.set o x)) }
  | _ => σ
inductive VarQ : Type → Type 1 where
 | nil : VarQ Unit
 | dat {α : Type} (p : Loc) (ty : Ty) (r : VarQ α) : VarQ (ty.T × α)
 | row {α : Type} (k : Nat) (ty : Ty) (r : VarQ α) : VarQ (List ty.T × α)
 | app {α : Type} (p : Loc) (k : Nat) (e : TypeId) (ty : Ty) (r : VarQ α) : VarQ (List ty.T × α)
 | appN {α : Type} (p : Loc) (k : Nat) (e : TypeId) (ty : Ty) (r : VarQ α) : VarQ (Bool × List ty.T × α)
 | cells {α : Type} (k : Nat) (ty : Ty) (r : VarQ α) : VarQ (ty.T × α)
 | forget {α : Type} (p : Loc) (r : VarQ α) : VarQ α
 | ptrN {α : Type} (p : Loc) (k o : Nat) (r : VarQ α) : VarQ (Bool × α)
def aRT : {α : Type} → VarQ α → α → St → St
 | _, .nil, _, σ => σ
 | _, .dat p ty r, i, σ => aRT r i.2 (σ.set (.d ty i.1) p)
 | _, .row k ty r, i, σ => aRT r i.2 (match σ.H.find k with
  | some (.row e _ _) => { σ with H := σ.H.up k (.row e ty i.1) }
  | _ => σ)
 | _, .app p k e ty r, i, σ => aRT r i.2 { (σ.set (.own k 0 i.1.length) p) with H := (k, .row e ty i.1) :: (σ.set (.own k 0 i.1.length) p).H }
 | _, .appN p k e ty r, i, σ => match i.1 with
  | true => aRT r i.2.2 (σ.set .nsl p)
  | false => aRT r i.2.2 { (σ.set (.own k 0 i.2.1.length) p) with H := (k, .row e ty i.2.1) :: (σ.set (.own k 0 i.2.1.length) p).H }
 | _, .cells k ty r, i, σ => aRT r i.2 (match σ.H.find k with
  | some (.vars e _) => { σ with H := σ.H.up k (.vars e (unpack ty i.1)) }
  | _ => σ)
 | _, .forget p r, i, σ => aRT r i (σ.set .no p)
 | _, .ptrN p k o r, i, σ => match i.1 with
  | true => aRT r i.2 (σ.set .nilp p)
  | false => aRT r i.2 (σ.set (.ptr k o) p)
def akK : {α : Type} → VarQ α → α → (α → Prop) → Prop
 | _, .nil, _, K => K ()
 | _, .dat _ _ r, i, K => akK r i.2 fun j => K (i.1, j)
 | _, .row _ _ r, i, K => akK r i.2 fun j => K (i.1, j)
 | _, .app _ _ _ _ r, i, K => akK r i.2 fun j => K (i.1, j)
 | _, .appN _ _ _ _ r, i, K => aNR i.1 (akK r i.2.2 fun j => K (true, i.2.1, j)) (akK r i.2.2 fun j => K (false, i.2.1, j))
 | _, .cells _ _ r, i, K => akK r i.2 fun j => K (i.1, j)
 | _, .forget _ r, i, K => akK r i K
 | _, .ptrN _ _ _ r, i, K => aNR i.1 (akK r i.2 fun j => K (true, j)) (akK r i.2 fun j => K (false, j))
theorem ab0 : ∀ {α : Type} (vs : VarQ α) (i : α) (K : α → Prop), akK vs i K → K i
 | _, .nil, _, _, h => h
 | _, .dat _ _ r, i, _, h => ab0 r i.2 _ h
 | _, .row _ _ r, i, _, h => ab0 r i.2 _ h
 | _, .app _ _ _ _ r, i, _, h => ab0 r i.2 _ h
 | _, .appN _ _ _ _ r, i, K, h => by
  obtain ⟨b, l, j⟩ := i
  cases b with
  | true => exact ab0 r j _ h
  | false => exact ab0 r j _ h
 | _, .cells _ _ r, i, _, h => ab0 r i.2 _ h
 | _, .forget _ r, i, _, h => ab0 r i _ h
 | _, .ptrN _ _ _ r, i, K, h => by
  obtain ⟨b, j⟩ := i
  cases b with
  | true => exact ab0 r j _ h
  | false => exact ab0 r j _ h
def aHe (σ : St) : {α : Type} → VarQ α → (α → Prop) → Prop
 | _, .nil, K => K ()
 | _, .dat p ty r, K => match toD ty (σ.at p) with
  | some x => aHe σ r (fun i => K (x, i))
  | none => False
 | _, .row k ty r, K => match σ.H.find k with
  | some (.row _ u l) => match (u.sl).as (.sl ty) l with
   | some l => aHe σ r (fun i => K (l, i))
   | none => False
  | _ => False
 | _, .app _ k _ ty r, K => match σ.H.find k with
  | some (.row _ u l) => match (u.sl).as (.sl ty) l with
   | some l => aHe σ r (fun i => K (l, i))
   | none => False
  | _ => False
 | _, .appN p k _ ty r, K => match σ.at p with
  | .nsl => aHe σ r (fun i => K (true, [], i))
  | _ => match σ.H.find k with
   | some (.row _ u l) => match (u.sl).as (.sl ty) l with
    | some l => aHe σ r (fun i => K (false, l, i))
    | none => False
   | _ => False
 | _, .cells k ty r, K => match σ.H.find k with
  | some (.vars _ l) => match pack ty l with
   | some (x, []) => aHe σ r (fun i => K (x, i))
   | _ => False
  | _ => False
 | _, .forget _ r, K => aHe σ r K
 | _, .ptrN p _ _ r, K => match σ.at p with
  | .nilp => aHe σ r (fun i => K (true, i))
  | .ptr _ _ => aHe σ r (fun i => K (false, i))
  | _ => False
theorem afE {σ : St} : ∀ {α : Type} (vs : VarQ α) (K : α → Prop), aHe σ vs K → ∃ i, K i
 | _, .nil, _, h => ⟨(), h⟩
 | _, .dat p ty r, _, h => by
  simp only [aHe] at h
  split at h
  ·obtain ⟨i, h⟩ := afE r _ h; exact ⟨_, h⟩
  ·exact h.elim
 | _, .row k ty r, _, h => by
  simp only [aHe] at h
  split at h
  ·split at h
   ·obtain ⟨i, h⟩ := afE r _ h; exact ⟨_, h⟩
   ·exact h.elim
  ·exact h.elim
 | _, .app _ k _ ty r, _, h => by
  simp only [aHe] at h
  split at h
  ·split at h
   ·obtain ⟨i, h⟩ := afE r _ h; exact ⟨_, h⟩
   ·exact h.elim
  ·exact h.elim
 | _, .appN p k _ ty r, _, h => by
  simp only [aHe] at h
  split at h
  ·obtain ⟨i, h⟩ := afE r _ h; exact ⟨_, h⟩
  ·split at h
   ·split at h
    ·obtain ⟨i, h⟩ := afE r _ h; exact ⟨_, h⟩
    ·exact h.elim
   ·exact h.elim
 | _, .cells k ty r, _, h => by
  simp only [aHe] at h
  split at h
  ·split at h
   ·obtain ⟨i, h⟩ := afE r _ h; exact ⟨_, h⟩
   ·exact h.elim
  ·exact h.elim
 | _, .forget _ r, _, h => afE r _ h
 | _, .ptrN p _ _ r, _, h => by
  simp only [aHe] at h
  split at h
  ·obtain ⟨i, h⟩ := afE r _ h; exact ⟨_, h⟩
  ·obtain ⟨i, h⟩ := afE r _ h; exact ⟨_, h⟩
  ·exact h.elim
def au9 : {α : Type} → VarQ α → List (Loc × Nat)
 | _, .nil => []
 | _, .dat _ _ r => au9 r
 | _, .row _ _ r => au9 r
 | _, .app p k _ _ r => (p, k) :: au9 r
 | _, .appN p k _ _ r => (p, k) :: au9 r
 | _, .cells _ _ r => au9 r
 | _, .forget _ r => au9 r
 | _, .ptrN _ _ _ r => au9 r
def St.rekeyL (n : Nat) (σ : St) : List (Loc × Nat) → St
 | [] => σ
 | (p, k') :: r => match σ.at p with
  | .own K _ _ => match Nat.beq K k' with
   | true => σ.rekeyL n r
   | false => match aiR σ.H k', aiR σ.H K, Nat.ble n k' with
    | false, true, true => (σ.rekey K k').rekeyL n r
    | _, _, _ => σ.rekeyL n r
  | _ => σ.rekeyL n r
theorem SRel.rekeyL {C : Ctx} {w : World} {n : Nat} : ∀ (r : List (Loc × Nat)) {ρ : Nat → Nat} {σ : St} {a : Act}, SRel C ρ σ a w → ∃ ρ', SRel C ρ' (σ.rekeyL n r) a w ∧ Fr C n ρ σ.H w ρ' (σ.rekeyL n r).H w
 | [], ρ, σ, a, hs => ⟨ρ, hs, Fr.refl _ _ _ _ _⟩
 | (s, k') :: r, ρ, σ, a, hs => by
  simp only [St.rekeyL]
  split
  ·rename_i K _ _ _
   split
   ·exact SRel.rekeyL r hs
   ·split
    ·rename_i h1 h2 h3
     have hk' : k' ∉ σ.H.keys := fun h => by rw [hasKey_iff.2 h] at h1; cases h1
     obtain ⟨ρ', g1, g2⟩ := SRel.rekeyL (n := n) r (hs.rekey hk')
     exact ⟨ρ', g1, (Fr.rekey hk' (Nat.le_of_ble_eq_true h3)).trans (zq _) g2⟩
    ·exact SRel.rekeyL r hs
  ·exact SRel.rekeyL r hs
def avJ : {α : Type} → VarQ α → List Loc
 | _, .nil => []
 | _, .dat p _ r => p :: avJ r
 | _, .row _ _ r => avJ r
 | _, .app _ _ _ _ r => avJ r
 | _, .appN _ _ _ _ r => avJ r
 | _, .cells _ _ r => avJ r
 | _, .forget _ r => avJ r
 | _, .ptrN _ _ _ r => avJ r
def St.thawQ (σ : St) : List Loc → St
 | [] => σ
 | p :: r => match σ.at p with
  | .own k _ _ => (σ.thaw k).thawQ r
  | _ => σ.thawQ r
theorem St.thawQ_sound {C : Ctx} {ρ : Nat → Nat} {a : Act} {w : World} : ∀ (l : List Loc) {σ : St}, SRel C ρ σ a w → SRel C ρ (σ.thawQ l) a w ∧ ∀ n, Fr C n ρ σ.H w ρ (σ.thawQ l).H w
 | [], σ, h => ⟨h, fun _ => Fr.refl _ _ _ _ _⟩
 | p :: r, σ, h => by
  simp only [St.thawQ]
  split
  ·rename_i k _ _ _
   obtain ⟨h1, h2, h3⟩ := St.thaw_sound h k
   obtain ⟨h4, h5⟩ := St.thawQ_sound r h1
   refine ⟨h4, fun n => ?_⟩
   have h6 : Fr C n ρ σ.H w ρ (σ.thaw k).H w := by
    unfold St.thaw
    split
    ·rename_i e t l hf; exact (h.m.thaw (Heap.find_mem hf)).2.2 n
    ·exact Fr.refl _ _ _ _ _
   exact h6.trans (zq _) (h5 n)
  ·exact St.thawQ_sound r h
def St.seen (σ : St) (n : Nat) (ds : List Loc) (ks : List (Loc × Nat)) : St := (σ.thawQ ds).rekeyL n ks
structure LSpec where
 tag : Nat
 ι : Type
 vs : VarQ ι
 ks : List Nat
 kh : List Nat
 fresh : Nat
def aVX : List AV → Nat
 | [] => 0
 | a :: r => match a with
  | .nsl => aVX r + 1
  | .nilp => aVX r + 1
  | _ => aVX r
def aP3 : List (Nat × AV) → Nat
 | [] => 0
 | (_, a) :: r => match a with
  | .nsl => aP3 r + 1
  | .nilp => aP3 r + 1
  | _ => aP3 r
def aSV : Heap → Nat
 | [] => 0
 | (_, b) :: r => match b with
  | .vars _ l => aSV r + aVX l
  | .loop q => aSV r + aP3 q.slots
  | _ => aSV r
def St.key (σ : St) : Nat := σ.next * 1024 + (aP3 σ.slots + aSV σ.H)
abbrev LTab := List (Nat × Nat × Nat × LSpec)
def LTab.find : LTab → Nat → Nat → Nat → Option LSpec
 | [], _, _, _ => none
 | (g, q, m, s) :: r, f, p, n => match Nat.beq g f && (Nat.beq q p && Nat.beq m n) with | true => some s | false => LTab.find r f p n
def aWb (l : List Nat) (t : Nat) : Bool := match l with | [] => false | x :: r => match Nat.beq x t with | true => true | false => aWb r t
def aUJ (ks : List Nat) : List (Nat × AV) → List (Nat × AV)
 | [] => []
 | (t, a) :: r => match aWb ks t with | true => (t, a) :: aUJ ks r | false => aUJ ks r
def aUK (ks : List Nat) : Heap → Heap
 | [] => []
 | (t, a) :: r => match aWb ks t with | true => (t, a) :: aUK ks r | false => aUK ks r
structure Lq (ι : Type) where
 vs : VarQ ι
 base : St
def aOg (s : LSpec) (σ : St) : Lq s.ι := { vs := s.vs, base := { slots := aUJ s.ks σ.slots, H := aUK s.kh σ.H, next := σ.next + s.fresh, n := σ.n } }
def Lq.inv {ι : Type} (L : Lq ι) (i : ι) : St := { (aRT L.vs i L.base) with next := L.base.next }
def Lq.head {ι : Type} (L : Lq ι) (n : Nat) (N : ι → Prop) (σ : St) : Prop :=
 aHe (σ.seen n (avJ L.vs) (au9 L.vs)) L.vs fun i =>
  (Nat.beq (L.inv i).n (σ.seen n (avJ L.vs) (au9 L.vs)).n && az0 (L.inv i).H.keys) = true ∧ auC (aiR (L.inv i).H) (σ.seen n (avJ L.vs) (au9 L.vs)).slots (L.inv i).slots ∧
  aGX (aiR (L.inv i).H) (σ.seen n (avJ L.vs) (au9 L.vs)).H L.base.next (L.inv i).H ∧ N i
def Lq.round {ι : Type} (L : Lq ι) (n : Nat) (N : ι → Prop) (Q : Exit → St → Prop) : Exit → St → Prop :=
 aV7 (fun σ _ => L.head n N σ) Q
theorem Lq.head_sound {C : Ctx} {ι : Type} {L : Lq ι} {n : Nat} {N : ι → Prop} {σ : St} (h : L.head n N σ) {ρ : Nat → Nat} {a : Act} {w : World} (hs : SRel C ρ σ a w) :
  ∃ i ρ', N i ∧ SRel C ρ' (L.inv i) a w ∧ Fr C n ρ σ.H w ρ' (L.inv i).H w := by
 unfold Lq.head at h
 obtain ⟨i, h1, h2, h3, h4⟩ := afE L.vs _ h
 obtain ⟨hs1, hf1⟩ := St.thawQ_sound (avJ L.vs) hs
 obtain ⟨ρ', g1, g2⟩ := SRel.rekeyL (n := n) (au9 L.vs) hs1
 rw [zw] at h1
 have hle : Le (σ.seen n (avJ L.vs) (au9 L.vs)) (L.inv i) := ⟨aaM h1.1, h2, h3, h1.2⟩
 obtain ⟨g3, g4⟩ := g1.weaken hle
 exact ⟨i, ρ', h4, g3, ((hf1 n).trans (zq _) g2).trans (zq _) (g4 _)⟩
def aS6 {ι : Type} (r : ι → (ι → Prop) → Prop) : Nat → ι → Prop
 | 0, _ => False
 | n + 1, i => r i (aS6 r n)
structure LoopH (tag : Nat) {ι : Type} (h : (ι → Prop) → Prop) (r : ι → (ι → Prop) → Prop) : Prop where
 ex : ∃ n, h (aS6 r n)
structure JoinH (tag : Nat) {ι : Type} (h : (ι → Prop) → Prop) (r : ι → Prop) : Prop where
 run : h r
def LTab.wants : LTab → Nat → Nat → Bool
 | [], _, _ => false
 | (g, q, m, _) :: r, f, p => match Nat.beq g f && (Nat.beq q p && Nat.beq m 999999999) with | true => true | false => LTab.wants r f p
structure Stuck (f p : Nat) (c : Code) (σ : St) : Prop where
 no : False
def akY (P : Program) (G : World → Prop) (Γ : Cons) (call : anA) (Λ : LTab) (rd : Option Nat) (f0 : Nat) : Nat → Code → St → (Exit → St → Prop) → Prop
 | _, .skip, σ, Q => Q .normal σ
 | _, .region _ ops draw, σ, Q => match draw with
  | false => ae6 P Γ call ops ops.toList σ (Q .normal)
  | true => aEE P Γ call ops (σ.forDraw (aVk Γ) ops.toList) (Q .normal)
 | p, .seq x y, σ, Q => match Λ.find f0 p σ.key with
  | some s => JoinH s.tag (fun N => akY P G Γ call Λ rd f0 (2 * p) x σ (aV7 (fun σ' _ => (aOg s σ).head σ.next N σ') Q)) (fun i => akK s.vs i fun i => akY P G Γ call Λ rd f0 (2 * p + 1) y ((aOg s σ).inv i) Q)
  | none => match Λ.wants f0 p with
   | true => Stuck f0 p (.seq x y) σ
   | false => akY P G Γ call Λ rd f0 (2 * p) x σ (aV7 (akY P G Γ call Λ rd f0 (2 * p + 1) y) Q)
 | p, .cond c x y, σ, Q => match σ.eval c with
  | .d .bool b => aNR b (akY P G Γ call Λ rd f0 (2 * p) x σ Q) (akY P G Γ call Λ rd f0 (2 * p + 1) y σ Q)
  | _ => False
 | p, .block id c, σ, Q => akY P G Γ call Λ rd f0 (2 * p) c σ (aRo id Q)
 | p, .loop c, σ, Q => match Λ.find f0 p σ.key with
  | some s => LoopH s.tag (fun N => (aOg s σ).head σ.next N σ) (fun i N => akK s.vs i fun i => akY P G Γ call Λ rd f0 (2 * p) c ((aOg s σ).inv i) ((aOg s σ).round σ.next N Q))
  | none => Stuck f0 p c σ
 | _, .exit id, σ, Q => Q (.exit id) σ
 | _, .ret, σ, Q => Q .ret σ
 | _, .label _, σ, Q => Q .normal σ
 | p, .scope c, σ, Q => akY P G Γ call Λ rd f0 (2 * p) c σ (aVj Q)
 | _, .rangeFunc g ps assign body, σ, Q => match σ.eval g with
  | .fn f first caps => match rd with
   | none => call (.fn f) (first ++ .yld σ.next :: caps) (σ.lay σ.next ps assign body) (σ.next + 1) (aKF σ σ.next Q)
   | some l0 => match σ.H.find l0 with
    | some (.loop _) => call (.fn f) (first ++ .yld σ.next :: caps) (σ.lay σ.next ps assign body) (σ.next + 1) (aKF σ σ.next Q)
    | _ => False
  | _ => False
 | _, _, _, _ => False
def aLn (P : Program) (G : World → Prop) (Γ : Cons) (Λ : LTab) (call : anA) : anA := fun t args H next K => match t with
 | .fn f => match P.funcs[f]? with
  | some fn => match fn.body with
   | some code => am3 P f = true ∧ Nat.ble args.length fn.ntmps = true ∧
     akY P G Γ call Λ none f 1 code { slots := ah1 0 args, H := H, next := next, n := fn.ntmps } (aV8 P fn (aVI K))
   | none => False
  | none => False
 | .yld l => match H.find l with
  | some (.loop r) => match Nat.beq args.length r.ps.size with
   | true => akY P G Γ call Λ (some l) (1000000 + l) 2 r.assign (aBL { slots := r.slots, H := H, next := next, n := r.n } r.ps.toList args)
     (aVJ l fun σ => akY P G Γ call Λ (some l) (1000000 + l) 3 r.body σ (aTZ l K))
   | false => False
  | _ => False
def aRj (P : Program) (G : World → Prop) (Γ : Cons) (Λ : LTab) : Nat → anA
 | 0 => fun _ _ _ _ _ => False
 | d + 1 => aLn P G Γ Λ (aRj P G Γ Λ d)
section
variable {P : Program} {G : World → Prop}
theorem abW (hG : arM G) (hmix : P.follows .mixedOrders = true) {Γ : Cons} (hΓ : Γ.ok P G) {call : anA} (hcall : CallSat P G call) {Λ : LTab} {rd : Option Nat} {f0 : Nat} : ∀ (c : Code) (p : Nat) (σ : St) (Q : Exit → St → Prop), akY P G Γ call Λ rd f0 p c σ Q → Sat P G rd c σ Q
 | .skip, p, σ, Q, h => fun C hC ρ a w hs rnd hrd => wpIn_skip ⟨ρ, σ, h, hs, Fr.refl _ _ _ _ _, zq _⟩
 | .region id ops draw, p, σ, Q, h => fun C hC ρ a w hs rnd hrd => by
  cases draw with
  | false => exact wpIn_region_list (asP hG hC hΓ hcall _ hs h (fun a' w' hr => hr) rnd)
  | true =>
   obtain ⟨h1, h2, h3⟩ := St.thaws_sound (apO (aVk Γ) σ ops.toList ops.toList) hs
   exact wpIn_region_any hmix (aBG hG hC hΓ hcall h1 h (fun a' w' hr => hr.trans h2 (vM h3.symm)) rnd)
 | .seq x y, p, σ, Q, h => fun C hC ρ a w hs rnd hrd => by
  simp only [akY] at h
  split at h
  ·rename_i s _
   refine wpIn_seq (wpIn_mono (abW hG hmix hΓ hcall x (2 * p) σ _ h.run C hC ρ a w hs rnd hrd) ?_)
   rintro e a' w' ⟨ρ', σ', h1, h2, h3, h4⟩
   have hnx : ∀ i, ((aOg s σ).inv i).next = σ.next + s.fresh := fun _ => rfl
   cases e with
   | normal =>
    obtain ⟨i, ρ3, g1, g3, g4⟩ := Lq.head_sound h1 h2
    have h7 := h3.trans (zq _) g4
    exact wpIn_mono (abW hG hmix hΓ hcall y (2 * p + 1) _ Q (ab0 s.vs i _ g1) C hC ρ3 a' w' g3 rnd (hrd.fr h7 (by rw [hnx]; exact xk _ _)))
     (fun e a'' w'' hr => hr.trans h7 (by rw [hnx]; exact xk _ _))
   | _ => exact ⟨ρ', σ', h1, h2, h3, h4⟩
  ·split at h
   ·exact h.no.elim
   ·refine wpIn_seq (wpIn_mono (abW hG hmix hΓ hcall x (2 * p) σ _ h C hC ρ a w hs rnd hrd) ?_)
    rintro e a' w' ⟨ρ', σ', h1, h2, h3, h4⟩
    cases e with
    | normal => exact wpIn_mono (abW hG hmix hΓ hcall y (2 * p + 1) σ' Q h1 C hC ρ' a' w' h2 rnd (hrd.fr h3 h4)) (fun e a'' w'' hr => hr.trans h3 h4)
    | _ => exact ⟨ρ', σ', h1, h2, h3, h4⟩
 | .cond c x y, p, σ, Q, h => fun C hC ρ a w hs rnd hrd => by
  simp only [akY] at h
  split at h
  ·rename_i b hb
   have hv := hs.eval c
   rw [hb] at hv
   have hbv := agX hv
   cases b with
   | true => exact wpIn_cond_true hbv (abW hG hmix hΓ hcall x (2 * p) σ Q h C hC ρ a w hs rnd hrd)
   | false => exact wpIn_cond_false hbv (abW hG hmix hΓ hcall y (2 * p + 1) σ Q h C hC ρ a w hs rnd hrd)
  ·exact h.elim
 | .block id c, p, σ, Q, h => fun C hC ρ a w hs rnd hrd => by
  refine wpIn_block (wpIn_mono (abW hG hmix hΓ hcall c (2 * p) σ _ h C hC ρ a w hs rnd hrd) ?_)
  rintro e a' w' ⟨ρ', σ', h1, h2, h3, h4⟩
  cases e with
  | exit j =>
   simp only [Exit.inBlock]
   cases hb : Nat.beq j id with
   | true => simp only [aRo, hb] at h1; rw [if_pos (aaM hb)]; exact ⟨ρ', σ', h1, h2, h3, h4⟩
   | false => simp only [aRo, hb] at h1; rw [if_neg (adE hb)]; exact ⟨ρ', σ', h1, h2, h3, h4⟩
  | _ => exact ⟨ρ', σ', h1, h2, h3, h4⟩
 | .loop c, p, σ, Q, h => by
  simp only [akY] at h
  split at h
  ·rename_i s hs0
   obtain ⟨m, hm⟩ := h.ex
   intro C hC ρ a w hs rnd hrd
   obtain ⟨i0, ρ0, k1, k2, k3⟩ := Lq.head_sound hm hs
   have hnx : ∀ i, ((aOg s σ).inv i).next = σ.next + s.fresh := fun _ => rfl
   refine aLF (ι := Nat × s.ι) (fun i a' w' => ∃ ρ', aS6 (fun i N => akK s.vs i fun i => akY P G Γ call Λ rd f0 (2 * p) c ((aOg s σ).inv i) ((aOg s σ).round σ.next N Q)) i.1 i.2 ∧ SRel C ρ' ((aOg s σ).inv i.2) a' w' ∧ Fr C σ.next ρ σ.H w ρ' ((aOg s σ).inv i.2).H w') (fun i => i.1) ?_ (m, i0) a w ⟨ρ0, k1, k2, k3⟩
   rintro ⟨j, i⟩ a' w' ⟨ρ', hI, h1, h2⟩
   cases j with
   | zero => exact hI.elim
   | succ j =>
    refine wpIn_mono (abW hG hmix hΓ hcall c (2 * p) _ _ (ab0 s.vs i _ hI) C hC ρ' a' w' h1 rnd (hrd.fr h2 (by rw [hnx]; exact xk _ _))) ?_
    rintro e a'' w'' ⟨ρ'', σ'', h3, h4, h5, h6⟩
    rw [hnx] at h6
    have h7 := h2.trans (n' := ((aOg s σ).inv i).next) (by rw [hnx]; exact xk _ _) h5
    cases e with
    | normal =>
     obtain ⟨i', ρ3, g1, g3, g4⟩ := Lq.head_sound h3 h4
     exact ⟨(j, i'), ⟨ρ3, g1, g3, h7.trans (zq _) g4⟩, xO _⟩
    | _ => exact ⟨ρ'', σ'', h3, h4, h7, by omega⟩
  ·exact h.no.elim
 | .exit id, p, σ, Q, h => fun C hC ρ a w hs rnd hrd => wpIn_exit ⟨ρ, σ, h, hs, Fr.refl _ _ _ _ _, zq _⟩
 | .ret, p, σ, Q, h => fun C hC ρ a w hs rnd hrd => wpIn_ret ⟨ρ, σ, h, hs, Fr.refl _ _ _ _ _, zq _⟩
 | .label l, p, σ, Q, h => fun C hC ρ a w hs rnd hrd => wpIn_label ⟨ρ, σ, h, hs, Fr.refl _ _ _ _ _, zq _⟩
 | .scope c, p, σ, Q, h => fun C hC ρ a w hs rnd hrd => by
  refine aLG (wpIn_mono (abW hG hmix hΓ hcall c (2 * p) σ _ h C hC ρ a w hs rnd hrd) ?_)
  rintro e a' w' ⟨ρ', σ', h1, h2, h3, h4⟩
  cases e with
  | goto l => exact h1.elim
  | _ => exact ⟨ρ', σ', h1, h2, h3, h4⟩
 | .rangeFunc g ps assign body, p, σ, Q, h => fun C hC ρ a w hs rnd hrd => by
  simp only [akY] at h
  split at h
  ·rename_i f first caps hg
   have hv := hs.eval g
   rw [hg] at hv
   generalize hvg : a.eval g = vg at hv
   cases hv with
   | @fn _ _ _ vf vc h1 h2 =>
    have hKn : σ.next ∉ σ.H.keys := fun h => absurd (hs.m.lt _ h) (wU _)
    -- the call of the iterator, and what lies behind it
    have main : ∀ (fn : FuncId) (W0 : World) (mark : List Deferred) (dd : Nat), Below w.heap.size w W0 → (∀ x ∈ mark, ∃ d, x = { target := .collected d, args := #[] } ∧ mark = [x] ∧ w.heap.size ≤ d ∧ W0.heap[d]? = some (.deferred (some []))) →
      (Instr.enterLoop fn a.tmps ps assign body rnd).run P w = .ok (W0.heap.size, mark) (W0.alloc (.loop { state := .ready, pending := none, fn := fn, tmps := a.tmps, params := ps, assign := assign, body := body, defers := dd })) →
      call (.fn f) (first ++ .yld σ.next :: caps) (σ.lay σ.next ps assign body) (σ.next + 1) (aKF σ σ.next Q) →
      ∃ (l : Nat) (mark : List Deferred) (w₁ : World) (d : Deferred) (w₁' : World) (f : FuncId) (args : Array Value) (w₂ : World),
       (Instr.enterLoop fn a.tmps ps assign body (af4 rnd).round).run P w = .ok (l, mark) w₁ ∧
       (resolve a.eval (rangeCall g l) 0).run P w₁ = .ok d w₁' ∧
       (∀ f', Target.leads P w₁' d.target d.args = some f' → (af4 rnd).fn f') ∧
       (invoke d.target d.args).run P w₁' = .ok (.enter f args) w₂ ∧
       ((af4 rnd).depth.isSome = true → 1 ≤ 0) ∧
       CallsIn (af4 rnd) (0 - 1) P f args w₂ (rangePost (af4 rnd) 0 P l (fun e a' w' => Reach C σ ρ w (Q e) a' w') { a with defers := mark ++ a.defers }) := by
     intro fn W0 mark dd hb0 hmark hent hc
     obtain ⟨hm0, hext0⟩ := hs.m.grow hb0
     have hlt0 : ∀ k ∈ σ.H.keys, ρ k < w.heap.size := fun k hk => hs.m.key_lt hk
     obtain ⟨hm1, hext1⟩ := MRel.allocO (K := σ.next) (blk := .loop { st := .ready, pend := none, slots := σ.slots, n := σ.n, ps := ps, assign := assign, body := body })
      (ob := .loop { state := .ready, pending := none, fn := fn, tmps := a.tmps, params := ps, assign := assign, body := body, defers := dd }) (hm0.mono (xQ σ.next)) hKn (xO _)
      (fun ρ' H' w' he hw' => ⟨fn, a.tmps, dd, hw', hs.size, fun t => (hext0.trans he).vr (hs.slots t)⟩)
     have hext := hext0.trans hext1
     generalize hW1 : W0.alloc (.loop { state := .ready, pending := none, fn := fn, tmps := a.tmps, params := ps, assign := assign, body := body, defers := dd }) = W1 at *
     have hρ : upd ρ σ.next W0.heap.size σ.next = W0.heap.size := abG _ _ _
     have hargs : VRs C (upd ρ σ.next W0.heap.size) (σ.lay σ.next ps assign body) W1 (first ++ .yld σ.next :: caps) (vf ++ .func (.yield W0.heap.size) #[] #[] :: vc) := by
      refine (h1.imp (fun _ _ => hext.vr)).append (.cons ?_ (h2.imp (fun _ _ => hext.vr)))
      have : VR C (upd ρ σ.next W0.heap.size) (σ.lay σ.next ps assign body) W1 (.yld σ.next) (.func (.yield (upd ρ σ.next W0.heap.size σ.next)) #[] #[]) := .yld zZ
      rw [hρ] at this
      exact this
     obtain ⟨hen, hcl⟩ := hcall.fn _ _ _ _ _ hc C _ W1 _ hC hm1 hargs
     refine ⟨W0.heap.size, mark, W1, { target := .fn (.func f) ⟨vc⟩, args := ⟨vf⟩ ++ #[.func (.yield W0.heap.size) #[] #[]] }, W1, f, (⟨vf⟩ ++ #[.func (.yield W0.heap.size) #[] #[]]) ++ ⟨vc⟩, W1, hent, ?_, fun _ _ => trivial, ?_, (fun h => by cases h), ?_⟩
     ·simp only [resolve, hvg]
      simp [go_sem]
     ·have := aCX (w := W1) hen ((⟨vf⟩ ++ #[.func (.yield W0.heap.size) #[] #[]]) ++ ⟨vc⟩)
      simp only [invoke]
      exact this
     ·refine callsIn_wideR.2 ?_
      rw [show (((⟨vf⟩ : Array Value) ++ #[.func (.yield W0.heap.size) #[] #[]]) ++ (⟨vc⟩ : Array Value)) = ⟨vf ++ .func (.yield W0.heap.size) #[] #[] :: vc⟩ by apply Array.ext'; simp]
      refine hcl.mono ?_
      rintro e W2 ⟨v, ρ2, r, H2, n2, rfl, hK, hm2, hv2, hfr2, hn2⟩
      simp only [aKF] at hK
      split at hK
      ·rename_i rr hfind
       obtain ⟨fn', tmps', d', g1, g2, g3⟩ := hm2.mem _ _ (Heap.find_mem hfind)
       obtain ⟨hk2, hr2⟩ := hfr2.keys σ.next (xO _) (aaO (Heap.find_mem hfind))
       rw [hρ] at hr2
       have hnb : rr.st ≠ .busy := by intro e; rw [e] at hK; exact hK
       obtain ⟨ex, hex, hQ⟩ : ∃ ex, axV rr.pend = some ex ∧ Q ex { slots := ad7 (aiR (H2.up σ.next (.loop { rr with st := .exhausted }))) aEL σ.slots, H := H2.up σ.next (.loop { rr with st := .exhausted }), next := n2, n := σ.n } := by
        split at hK
        ·exact hK.elim
        ·rename_i e _ hje; exact ⟨_, ‹_›, hK⟩
        ·exact hK.elim
       obtain ⟨hm3, hext3⟩ := hm2.turn hfind .exhausted rr.pend g1 g2 g3
       have hend := run_endLoop (P := P) g1 (by simpa using hnb)
       rw [hr2] at hend hm3 hext3
       generalize hW3 : W2.putObj W0.heap.size (.loop { state := .exhausted, pending := rr.pend, fn := fn', tmps := tmps', params := rr.ps, assign := rr.assign, body := rr.body, defers := d' }) = W3 at *
       have hfr3 : Fr C σ.next ρ σ.H w ρ2 (H2.up σ.next (.loop { rr with st := .exhausted })) W3 := by
        have f1 : Fr C σ.next ρ σ.H w (upd ρ σ.next W0.heap.size) (σ.lay σ.next ps assign body) W1 := hext.fr (fun k hk hm => by
         rcases zx.1 hm with rfl | hm
         ·exact absurd hk (wU _)
         ·exact hm)
        refine (f1.trans (xQ _) hfr2).trans (n' := n2) zc (hext3.fr (fun k _ hm => by rwa [Heap.keys_up] at hm))
       have hsr : SRel C ρ2 { slots := ad7 (aiR (H2.up σ.next (.loop { rr with st := .exhausted }))) aEL σ.slots, H := H2.up σ.next (.loop { rr with st := .exhausted }), next := n2, n := σ.n } { a with defers := mark ++ a.defers } W3 := by
        have base := hs.keepTo (p := aiR (H2.up σ.next (.loop { rr with st := .exhausted }))) (f := aEL) hm3 (fun x v hx =>
         VR.map hfr3.data (fun k hk hp => ⟨hasKey_iff.1 hp, (hfr3.keys k (hs.m.lt k hk) (hasKey_iff.1 hp)).2⟩) (fun k e t l hk hp => hfr3.rows k e t l (hs.m.lt k (aaO hk)) hk (hasKey_iff.1 hp)) (fun _ _ _ _ _ _ => .no) hx) hfr3.data hfr3.size
        refine ⟨base.m, base.slots, base.size, ?_⟩
        cases mark with
        | nil => exact base.defers
        | cons x xs =>
         obtain ⟨d, rfl, hxs, hd1, hd2⟩ := hmark x zZ
         injection hxs with _ hxs
         subst hxs
         have hlow : C.w0.heap.size ≤ d := zz hs.m.below.size hd1
         have hdlt := afM hd2
         have hok1 : Ok C (upd ρ σ.next W0.heap.size) (σ.lay σ.next ps assign body) W1 d := by
          refine ⟨Or.inr hlow, by rw [← hW1]; simp; omega, fun k hk => ?_⟩
          rcases zx.1 hk with rfl | hk
          ·rw [hρ]; omega
          ·have hk' : k ∈ σ.H.keys := hk
           have hne : k ≠ σ.next := fun e => hKn (by rw [← e]; exact hk')
           rw [afT _ hne]
           have := hlt0 k hk'; omega
         obtain ⟨hok2, hbl2⟩ := hfr2.data d hok1
         obtain ⟨hok3, hbl3⟩ := hext3.data d hok2
         refine Dfs.push hs.defers hfr3.data hfr3.size hd1 hok3.2.2 ?_
         rw [hbl3, hbl2, ← hW1, Below.heap_alloc _ _ _ hdlt]
         exact hd2
       cases hp : rr.pend with
       | none =>
        rw [hp] at hex
        injection hex with hex
        subst hex
        exact ⟨none, W3, by rw [hend, hp], ⟨ρ2, _, hQ, hsr, hfr3, by show σ.next ≤ n2; omega⟩⟩
       | some j =>
        rw [hp] at hex
        exact ⟨some j, W3, by rw [hend, hp], aJr hex ⟨ρ2, _, hQ, hsr, hfr3, by show σ.next ≤ n2; omega⟩⟩
      ·exact hK.elim
    refine wpIn_rangeFunc (fun fn _ => ?_)
    cases rd with
    | none =>
     have hr : rnd = none := hrd
     subst hr
     simp only at h
     refine main fn (w.alloc (.deferred (some []))) [{ target := .collected w.heap.size, args := #[] }] w.heap.size ((Below.refl _ _).alloc (zq _) _) ?_ ?_ h
     ·intro x hx
      simp at hx
      subst hx
      exact ⟨w.heap.size, rfl, rfl, zq _, World.alloc_heap_new _ _⟩
     ·rw [run_enterLoop_outer, World.size_alloc]
    | some l0 =>
     simp only at h
     split at h
     ·rename_i r0 hf0
      have hr : rnd = some (ρ l0) := hrd.2 (aaO (Heap.find_mem hf0))
      subst hr
      obtain ⟨fn0, tmps0, d0, g1, _, _⟩ := hs.m.mem _ _ (Heap.find_mem hf0)
      refine main fn w [] d0 (Below.refl _ _) (fun x hx => by cases hx) ?_ h
      rw [run_enterLoop_inner g1]
     ·exact h.elim
  ·exact h.elim
 | .goto _, _, _, _, h => h.elim
 | .refuse _, _, _, _, h => h.elim
theorem aNF (hG : arM G) (hmix : P.follows .mixedOrders = true) {Γ : Cons} (hΓ : Γ.ok P G) {call : anA} (hcall : CallSat P G call) (Λ : LTab) : CallSat P G (aLn P G Γ Λ call) := by
  refine ⟨fun f args H next K h C ρ w vs hC hm hv => ?_, fun l args H next K h C ρ w vs hC hm hv => ?_⟩
  ·simp only [aLn] at h
   split at h
   ·rename_i fn hf
    split at h
    ·rename_i code hb
     obtain ⟨he, hle, hex⟩ := h
     have hw0 : C.w0.heap.size ≤ w.heap.size := hm.below.size
     refine ⟨he, callsIn_wideR.1 (callsIn_of_wp_marks (F := af4 none) (n := 0) hf hb trivial ?_)⟩
     refine wpIn_mono (abW hG hmix hΓ hcall code 1 _ _ hex (C.at w.heap.size hw0) hC ρ _ w (aHh hm.at (zq _) hv.at (Nat.le_of_ble_eq_true hle)) none rfl) ?_
     rintro e a' w' ⟨ρ', σ', h1, h2, h3, h4⟩
     have fin : (aTP P σ' fn.results.toList).holds (fun l => aVI K l σ') → LeavesInM (af4 none) 0 P fn a'.tmps (aFh C ρ H next w K) a'.defers .returning w' := by
      intro hh
      refine aON h2 hh (fun l us w'' k1 k2 k3 k4 k5 k6 => ⟨_, ρ', _, _, _, rfl, k1, k2.back, (ayL k3).back, ?_, h4⟩)
      refine ⟨fun b hb => ?_, h3.keys, fun k e t l hk hk1 hk2 => ?_, by rw [k6]; exact h3.size⟩
      ·obtain ⟨g1, g2⟩ := h3.data b hb
       exact ⟨⟨g1.1, by rw [k6]; exact g1.2.1, g1.2.2⟩, (k4 b hb.2.1).trans g2⟩
      ·obtain ⟨l', g1, g2, g3⟩ := h3.rows k e t l hk hk1 hk2
       refine ⟨l', g1, g2, fun c fr hc => ?_⟩
       obtain ⟨c', fr', g4, g5⟩ := g3 c fr hc
       exact ⟨c', fr', by rw [← (h3.keys k hk hk2).2, k5 k hk2, (h3.keys k hk hk2).2]; exact g4, g5⟩
     cases e with
     | normal => exact fin h1
     | ret => exact fin h1
     | _ => exact h1.elim
    ·exact h.elim
   ·exact h.elim
  ·simp only [aLn] at h
   split at h
   ·rename_i r hfind
    split at h
    ·rename_i hlen
     have hlen := aaM hlen
     have hkey := aaO (Heap.find_mem hfind)
     have hlt := hm.lt l hkey
     obtain ⟨fn, tmps, dd, g1, g2, g3⟩ := hm.mem _ _ (Heap.find_mem hfind)
     have hvl := hv.length
     have hw0 : C.w0.heap.size ≤ w.heap.size := hm.below.size
     refine ⟨fn, _, r.assign, r.body, run_yield g1 zh, roundIn_of_wpIn trivial ?_⟩
     have hs0 : SRel (C.at w.heap.size hw0) ρ { slots := r.slots, H := H, next := next, n := r.n } { tmps := tmps, defers := [] } w := ⟨hm.at, fun t => (g3 t).at, g2, Dfs.nil (zq _)⟩
     obtain ⟨hs1, hH1, hn1⟩ := aHA r.ps.toList args vs _ _ hs0 hv.at
     have htm : (r.ps.zip (⟨vs⟩ : Array Value)).foldl (fun t (x : Nat × Value) => t.setIfInBounds x.1 x.2) tmps = (r.ps.toList.zip vs).foldl (fun t x => t.setIfInBounds x.1 x.2) tmps := by
      rw [← Array.foldl_toList, Array.toList_zip]
     have hs1' : SRel (C.at w.heap.size hw0) ρ (aBL { slots := r.slots, H := H, next := next, n := r.n } r.ps.toList args) { tmps := (r.ps.zip (⟨vs⟩ : Array Value)).foldl (fun t (x : Nat × Value) => t.setIfInBounds x.1 x.2) tmps, defers := [] } w := by
      rw [htm]; exact hs1
     refine wpIn_mono (abW hG hmix hΓ hcall r.assign 2 _ _ h (C.at w.heap.size hw0) hC ρ _ w hs1' (some (ρ l)) ⟨by rw [hn1]; exact hlt, fun _ => rfl⟩) ?_
     rintro e a1 w1 ⟨ρ1, σ1, k1, k2, k3, k4⟩
     rw [hH1, hn1] at k3
     rw [hn1] at k4
     cases e with
     | normal =>
      simp only [aVJ] at k1
      split at k1
      ·rename_i r1 hf1
       split at k1
       ·rename_i hst
        have hkey1 := aaO (Heap.find_mem hf1)
        have hρ1 := (k3.keys l hlt hkey1).2
        obtain ⟨fn1, tmps1, d1, b1, b2, b3⟩ := k2.m.mem _ _ (Heap.find_mem hf1)
        have hbr := run_beginRound (P := P) b1 hst
        obtain ⟨hm2, hext2⟩ := k2.m.turn hf1 .busy r1.pend b1 b2 b3
        rw [hρ1] at hbr hm2 hext2
        refine ⟨_, hbr, ?_⟩
        have hfr2 := hext2.fr (n := σ1.next) (fun k _ hk => by rwa [Heap.keys_up] at hk)
        have hs2 := k2.frame (next' := σ1.next) hm2 hfr2 (fun k hk => by rw [Heap.keys_up]; exact hk)
        refine wpIn_mono (abW hG hmix hΓ hcall r.body 3 _ _ k1 (C.at w.heap.size hw0) hC ρ1 _ _ hs2 (some (ρ l)) ⟨yn hlt k4, fun _ => by rw [hρ1]⟩) ?_
        rintro e a3 w3 ⟨ρ3, σ3, m1, m2, m3, m4⟩
        unfold aTZ at m1
        split at m1
        ·rename_i j hj
         split at m1
         ·rename_i r3 hf3
          have hkey3 := aaO (Heap.find_mem hf3)
          have hρ3 : ρ3 l = ρ l := (m3.keys l (yn hlt k4) hkey3).2.trans hρ1
          obtain ⟨fn3, tmps3, d3, c1, c2, c3⟩ := m2.m.mem _ _ (Heap.find_mem hf3)
          have hend := run_endRound (P := P) j c1
          have hrs : aDM j = (if j.isNone then .ready else .done) := by cases j <;> rfl
          obtain ⟨hm4, hext4⟩ := m2.m.turn hf3 (aDM j) j c1 c2 c3
          rw [hρ3] at hend hm4 hext4
          rw [hrs] at hm4 hext4 m1
          have f2 : Fr (C.at w.heap.size hw0) σ1.next ρ1 σ1.H w1 ρ3 σ3.H w3 := hfr2.trans (zq _) m3
          have f3 := hext4.fr (n := σ3.next) (fun k _ hk => by rwa [Heap.keys_up] at hk)
          have hfr := ((k3.trans k4 f2).trans (n' := σ3.next) (zz k4 m4) f3).back
          generalize w3.putObj (ρ l) (.loop { state := if j.isNone then .ready else .done, pending := j, fn := fn3, tmps := tmps3, params := r3.ps, assign := r3.assign, body := r3.body, defers := d3 }) = W4 at hend hm4 hfr
          have hce : aFh C ρ H next w K (.returned (.bool j.isNone)) W4 := ⟨_, ρ3, _, _, _, rfl, m1, hm4.back, ae5, hfr, zz k4 m4⟩
          cases e with
          | normal => injection hj with hj; subst hj; exact ⟨_, _, hend, hce⟩
          | ret => injection hj with hj; subst hj; exact ⟨_, _, hend, hce⟩
          | exit id => injection hj with hj; subst hj; exact ⟨_, _, hend, hce⟩
          | _ => cases hj
         ·exact m1.elim
        ·exact m1.elim
       ·exact k1.elim
      ·exact k1.elim
     | _ => exact k1.elim
    ·exact h.elim
   ·exact h.elim
theorem aC7 (hG : arM G) (hmix : P.follows .mixedOrders = true) {Γ : Cons} (hΓ : Γ.ok P G) (Λ : LTab) : ∀ d, CallSat P G (aRj P G Γ Λ d)
 | 0 => ⟨fun _ _ _ _ _ h => h.elim, fun _ _ _ _ _ h => h.elim⟩
 | d + 1 => aNF hG hmix hΓ (aC7 hG hmix hΓ Λ d) Λ
theorem aHq (hG : arM G) (hmix : P.follows .mixedOrders = true) {Γ : Cons} (hΓ : Γ.ok P G) {f : FuncId} {fn : Func} {code : Code} (hf : P.funcs[f]? = some fn) (hb : fn.body = some code) (he : am3 P f = true)
  (c : Con) (hce : c.err = false) {call : anA} (hcall : CallSat P G call) (Λ : LTab) (hn : ∀ x, c.pre x → Nat.ble (aAV c.args x).length fn.ntmps = true)
  (hex : ∀ x : c.args.T, Wf c.args x → c.pre x → akY P G Γ call Λ none f 1 code { slots := ah1 0 (aAV c.args x), H := [], next := 0, n := fn.ntmps } (aV8 P fn (aWf c.res (c.fn x)))) : c.ok P G f := by
 refine Con.ok_plain hce ⟨he, fun w ok vs x hGw hok hvs hp => callsIn_wideR.1 (callsIn_of_wp_marks (F := af4 none) (n := 0) hf hb trivial ?_)⟩
 generalize hC : (⟨w, ok, hok, w.heap.size, zq _⟩ : Ctx) = C
 have hCw : C.w0 = w := by rw [← hC]
 have hClo : C.lo = w.heap.size := by rw [← hC]
 have hokA : C.okA = ok := by rw [← hC]
 have hm : MRel C (fun _ => 0) [] 0 w := ⟨by rw [hCw]; exact Below.refl _ _, List.nodup_nil, (by intro k hk; cases hk), (by intro k hk; cases hk), (by intro k hk; cases hk), (by intro k b hk; cases hk)⟩
 have hkk : ∀ b, ok b → Ok C (fun _ => 0) [] w b := fun b hb => ⟨Or.inl (by rw [hokA]; exact hb), hok b hb, (by intro k hk; cases hk)⟩
 refine wpIn_mono (abW hG hmix hΓ hcall code 1 _ _ (hex x hvs.wf hp) C (by rw [hCw]; exact hGw) (fun _ => 0) _ w (aHh hm (by rw [hClo]; exact zq _) (RdVs.args hkk _ _ _ hvs) (Nat.le_of_ble_eq_true (hn x hp))) none rfl) ?_
 rintro e a' w' ⟨ρ', σ', h1, h2, h3, h4⟩
 have fin : (aTP P σ' fn.results.toList).holds (fun l => aWf c.res (c.fn x) l σ') → LeavesInM (af4 none) 0 P fn a'.tmps (fun e w' => ∃ rs, e = .returned (aOO rs) ∧ RdVs (aGn ok w w') w' c.res (c.fn x) rs ∧ Below w.heap.size w w') a'.defers .returning w' := by
  intro hh
  refine aON h2 hh (fun l us w'' k1 k2 k3 k4 k5 k6 => ⟨us, rfl, ?_, by have := k2.below; rw [hCw] at this; exact this⟩)
  unfold aWf at k1
  split at k1
  ·rename_i z hz
   subst k1
   have h5 := ayE _ _ _ _ hz (VRs.map (fun x v hx => aS0 k2 hx) k3)
   have mono : ∀ (t : Ty) (x : t.T) (vs : List Value), RdVs (Ok C ρ' [] w'') w'' t x vs → RdVs (aGn ok w w'') w'' t x vs := by
    intro t
    induction t with
    | unit => intro x vs h; exact h
    | pair t u _ ihu =>
     rintro x vs ⟨v, us, e, h6, h7⟩
     refine ⟨v, us, e, h6.mono (fun b hb => ⟨?_, rfl⟩), ihu _ _ h7⟩
     rcases hb.1 with h | h
     ·exact Or.inl (by rw [hokA] at h; exact h)
     ·exact Or.inr ⟨by rw [hCw] at h; exact h, hb.2.1⟩
    | _ => intro x vs h; exact h.elim
   exact mono _ _ _ h5
  ·exact k1.elim
 cases e with
 | normal => exact fin h1
 | ret => exact fin h1
 | _ => exact h1.elim
end
open Go Go.RowKit
inductive TT : Type → Type 1 where
 | ok {α : Type} (a : α) : TT α
 | ite {α : Type} (b : Bool) (x y : TT α) : TT α
 | need {α : Type} (p : Prop) (x : TT α) : TT α
 | triv {α : Type} (p : Prop) (h : p) (x : TT α) : TT α
 | call {α β : Type} (o : Option β) (d : β) (x : β → TT α) : TT α
 | loop {α ι : Type} (tag : Nat) (H : TT ι) (R : ι → TT (ι ⊕ α)) : TT α
 | join {α ι : Type} (tag : Nat) (H : TT (ι ⊕ α)) (R : ι → TT α) : TT α
 | lt {α β : Type} (b : β) (x : β → TT α) : TT α
 | bad {α : Type} : TT α
def aWi {ι α : Type} (N : ι → Prop) (K : α → Prop) (s : ι ⊕ α) : Prop := Sum.rec N K s
def TT.holds : {α : Type} → TT α → (α → Prop) → Prop
 | _, .ok a, K => K a
 | _, .ite b x y, K => aNR b (x.holds K) (y.holds K)
 | _, .need p x, K => p ∧ x.holds K
 | _, .triv p _ x, K => p ∧ x.holds K
 | _, .call o d x, K => o.isSome = true ∧ (x (o.getD d)).holds K
 | _, .loop t H R, K => LoopH t (fun N => H.holds N) (fun i N => (R i).holds (aWi N K))
 | _, .join t H R, K => JoinH t (fun N => H.holds (aWi N K)) (fun i => (R i).holds K)
 | _, .lt b x, K => (x b).holds K
 | _, .bad, _ => False
def axG {ι α : Type} (R : ι → Option (ι ⊕ α)) : Nat → ι → Option α
 | 0, _ => none
 | n + 1, i => match R i with
  | some (.inl i') => axG R n i'
  | some (.inr a) => some a
  | none => none
open Classical in
noncomputable def adK {ι α : Type} (R : ι → Option (ι ⊕ α)) (i : ι) : Option α :=
 if h : ∃ n a, axG R n i = some a then some h.choose_spec.choose else none
theorem au7 {ι α : Type} {R : ι → Option (ι ⊕ α)} {a : α} : ∀ {n : Nat} {i : ι}, axG R n i = some a → ∀ m, n ≤ m → axG R m i = some a
 | 0, _, h => by cases h
 | n + 1, i, h => by
  intro m hm
  obtain ⟨m, rfl⟩ : ∃ k, m = k + 1 := ⟨m - 1, by omega⟩
  simp only [axG] at h ⊢
  split at h
  ·exact au7 h m zc
  ·exact h
  ·cases h
theorem aEi {ι α : Type} {R : ι → Option (ι ⊕ α)} {a : α} {n : Nat} {i : ι} (h : axG R n i = some a) : adK R i = some a := by
 have hex : ∃ n a, axG R n i = some a := ⟨n, a, h⟩
 unfold adK
 rw [dif_pos hex]
 have h2 := hex.choose_spec.choose_spec
 have h3 := au7 h (n + hex.choose) zc
 have h4 := au7 h2 (n + hex.choose) zc
 rw [h3] at h4
 exact h4.symm
theorem au6 {ι α : Type} {R : ι → Option (ι ⊕ α)} {a : α} {i : ι} (h : adK R i = some a) : ∃ n, axG R n i = some a := by
 unfold adK at h
 split at h
 ·rename_i hex; injection h with h; rw [← h]; exact ⟨_, hex.choose_spec.choose_spec⟩
 ·cases h
theorem ac7 {ι α : Type} {R : ι → Option (ι ⊕ α)} {i j : ι} (h : R i = some (.inl j)) : adK R i = adK R j := by
 cases hj : adK R j with
 | some a =>
  obtain ⟨n, hn⟩ := au6 hj
  exact aEi (n := n + 1) (by simp only [axG, h]; exact hn)
 | none =>
  cases hi : adK R i with
  | none => rfl
  | some a =>
   obtain ⟨n, hn⟩ := au6 hi
   cases n with
   | zero => cases hn
   | succ n =>
    simp only [axG, h] at hn
    rw [aEi hn] at hj; cases hj
theorem acS {ι α : Type} {R : ι → Option (ι ⊕ α)} {i : ι} {a : α} (h : R i = some (.inr a)) : adK R i = some a :=
 aEi (n := 1) (by simp only [axG, h])
theorem ac8 {ι α : Type} {R : ι → Option (ι ⊕ α)} (I : ι → Prop) (μ : ι → Nat) (Q : α → Prop)
  (h : ∀ i, I i → (∃ j, R i = some (.inl j) ∧ I j ∧ μ j < μ i) ∨ ∃ a, R i = some (.inr a) ∧ Q a) (i : ι) (hi : I i) : ∃ a, adK R i = some a ∧ Q a := by
 suffices H : ∀ n i, μ i = n → I i → ∃ a, adK R i = some a ∧ Q a from H _ i rfl hi
 intro n
 induction n using Nat.strongRecOn with
 | _ n ih =>
  intro i hn hI
  rcases h i hI with ⟨j, h1, h2, h3⟩ | ⟨a, h1, h2⟩
  ·rw [ac7 h1]; exact ih (μ j) zc j rfl h2
  ·exact ⟨a, acS h1, h2⟩
theorem aaK {ι α : Type} {R : ι → Option (ι ⊕ α)} (I : ι → Prop) (μ : ι → Nat) (f : ι → α)
  (h : ∀ i, I i → (∃ j, R i = some (.inl j) ∧ I j ∧ μ j < μ i ∧ f j = f i) ∨ R i = some (.inr (f i))) (i : ι) (hi : I i) : adK R i = some (f i) := by
 obtain ⟨a, h1, h2⟩ := ac8 (fun j => I j ∧ f j = f i) μ (fun a => a = f i) (fun j hj => by
  rcases h j hj.1 with ⟨k, h1, h2, h3, h4⟩ | h1
  ·exact Or.inl ⟨k, h1, ⟨h2, h4.trans hj.2⟩, h3⟩
  ·exact Or.inr ⟨_, h1, hj.2⟩) i ⟨hi, rfl⟩
 rw [h1, h2]
open Classical in
noncomputable def TT.toO : {α : Type} → TT α → Option α
 | _, .ok a => some a
 | _, .ite b x y => match b with | true => x.toO | false => y.toO
 | _, .need p x => if p then x.toO else none
 | _, .triv _ _ x => x.toO
 | _, .call o _ x => match o with | some y => (x y).toO | none => none
 | _, .loop _ H R => match H.toO with | some i => adK (fun i => (R i).toO) i | none => none
 | _, .join _ H R => match H.toO with | some (.inl i) => (R i).toO | some (.inr a) => some a | none => none
 | _, .lt b x => (x b).toO
 | _, .bad => none
theorem TT.holds_of : ∀ {α : Type} (t : TT α) {K : α → Prop} {a : α}, t.toO = some a → K a → t.holds K := by
 intro α t
 induction t with
 | ok b => intro K a h hk; injection h with h; subst h; exact hk
 | ite b x y hx hy =>
  intro K a h hk
  cases b
  ·exact hy h hk
  ·exact hx h hk
 | need p x hx =>
  intro K a h hk
  simp only [TT.toO] at h
  split at h
  ·rename_i hp; exact ⟨hp, hx h hk⟩
  ·cases h
 | triv p hp x hx => intro K a h hk; exact ⟨hp, hx h hk⟩
 | call o d x hx =>
  intro K a h hk
  cases o with
  | none => cases h
  | some y => exact ⟨rfl, hx y h hk⟩
 | loop t H R hH hR =>
  intro K a h hk
  simp only [TT.toO] at h
  split at h
  ·rename_i i0 hi0
   obtain ⟨n, hn⟩ := au6 h
   refine ⟨n, hH hi0 ?_⟩
   clear hi0 h
   induction n generalizing i0 with
   | zero => cases hn
   | succ n ih =>
    simp only [axG] at hn
    simp only [aS6]
    split at hn
    ·rename_i j hj; exact hR i0 hj (ih j hn)
    ·rename_i b hb; injection hn with hn; subst hn; exact hR i0 hb hk
    ·cases hn
  ·cases h
 | join t H R hH hR =>
  intro K a h hk
  simp only [TT.toO] at h
  refine ⟨?_⟩
  split at h
  ·rename_i i hi; exact hH hi (hR i h hk)
  ·rename_i b hb; injection h with h; subst h; exact hH hb hk
  ·cases h
 | lt b x hx => intro K a h hk; exact hx b h hk
 | bad => intro K a h; cases h
def aWv (t : Ty) (K : t.T → Prop) (l : List AV) (σ : St) : Prop :=
 match axB t (AV.maps (fun _ => false) (aS1 σ.H) l) with
 | some z => K z
 | none => False
def aTu (A R : Ty) (F : A.T → Option R.T) : Con := { args := A, res := R, pre := fun x => (F x).isSome = true, fn := fun x => (F x).getD R.dflt, dec := fun _ => inferInstance }
def aV0 (A U : Ty) (F : A.T → Option (Ty.pair U tO).T) : Con := { args := A, res := .pair U tO, pre := fun x => (F x).isSome = true, fn := fun x => (F x).getD (Ty.pair U tO).dflt, dec := fun _ => inferInstance, err := true }
def aUM (P : Program) (G : World → Prop) (Γ : Cons) (Λ : LTab) (d f : Nat) (fn : Func) (A R : Ty) (x : A.T) (K : R.T → Prop) : Prop :=
 akY P G Γ (aRj P G Γ Λ d) Λ none f 1 (fn.body.getD .skip) { slots := ah1 0 (aAV A x), H := [], next := 0, n := fn.ntmps } (aV8 P fn (aWv R K))
section
variable {P : Program} {G : World → Prop}
theorem aJ1 (hG : arM G) (hmix : P.follows .mixedOrders = true) {Γ : Cons} (hΓ : Γ.ok P G) {f : FuncId} {fn : Func} (hf : P.funcs[f]? = some fn) (hb : fn.body.isSome = true) (he : am3 P f = true)
  (A R : Ty) (Λ : LTab) (d : Nat) (hn : ∀ x, Nat.ble (aAV A x).length fn.ntmps = true) (t : A.T → TT R.T) (hex : ∀ (x : A.T) (K : R.T → Prop), aUM P G Γ Λ d f fn A R x K = (t x).holds K)
  (F : A.T → Option R.T) (hF : ∀ x y, Wf A x → F x = some y → (t x).toO = some y) : (aTu A R F).ok P G f := by
 obtain ⟨code, hc⟩ := wB.1 hb
 refine aHq hG hmix hΓ hf hc he _ rfl (aC7 hG hmix hΓ Λ d) Λ (fun x _ => hn x) (fun x h1 h2 => ?_)
 obtain ⟨y, hy⟩ := wB.1 (show (F x).isSome = true from h2)
 have h := hex x (fun z => z = y)
 have e : (aTu A R F).fn x = y := by show (F x).getD R.dflt = y; rw [hy]; rfl
 have h3 : (t x).holds (fun z => z = y) := TT.holds_of _ (hF x y h1 hy) rfl
 rw [← h] at h3
 unfold aUM at h3
 rw [hc] at h3
 rw [e]
 exact h3
end
instance (a b : Int) : Decidable (inb a b) := inferInstanceAs (Decidable (0 ≤ a ∧ a < b))
instance (a b : Int) : Decidable (inc a b) := inferInstanceAs (Decidable (0 ≤ a ∧ a ≤ b))
theorem aaI {α : Type} (a : α) : (TT.ok a).toO = some a := rfl
theorem aR7 {α : Type} (p : Prop) (x : TT α) (h : p) : (TT.need p x).toO = x.toO := by simp only [TT.toO, if_pos h]
theorem aOx {α ι : Type} {t : Nat} {H : TT (ι ⊕ α)} {i : ι} (h : H.toO = some (.inl i)) (R : ι → TT α) : (TT.join t H R).toO = (R i).toO := by simp only [TT.toO, h]
theorem aOw {α ι : Type} {t : Nat} {H : TT (ι ⊕ α)} {a : α} (h : H.toO = some (.inr a)) (R : ι → TT α) : (TT.join t H R).toO = some a := by simp only [TT.toO, h]
theorem aR8 {α ι : Type} {H : TT ι} {i : ι} (h : H.toO = some i) (t : Nat) (R : ι → TT (ι ⊕ α)) : (TT.loop t H R).toO = adK (fun i => (R i).toO) i := by simp only [TT.toO, h]
end Go.Vg
