/-
  The engine, part V: weaker states; whole bodies, loops and calls. Own work; no condition.
-/
import Derived.Test.YtbdojimkdgajgaaGreatDoorEngU
namespace Go.Vg
open Go Go.RowKit

def dLe (u : Ty) (y : u.T) : AV → Prop
  | .d t x => match t.as u x with
    | some x' => x' = y
    | none => False
  | .nsl => match nilOf u with
    | some z => z = y
    | none => False
  | .ag l => match toD u (.ag l) with
    | some z => z = y
    | none => False
  | _ => False

def dpLe (u : Ty) (y : u.T) : AV → Prop
  | .dptr t x => match t.as u x with
    | some x' => x' = y
    | none => False
  | _ => False

def ifLe (k : TypeId) (u : Ty) (y : u.T) : AV → Prop
  | .ifc k' t x => k' = k ∧ match t.as u x with
    | some x' => x' = y
    | none => False
  | _ => False

mutual
/-- The first says no more than the second; it refers to blocks of which p holds alone. -/
def AVle (p : Nat → Bool) : AV → AV → Prop
  | .no, _ => True
  | .d u y, a => dLe u y a
  | .dptr u y, a => dpLe u y a
  | .nsl, a => match a with | .nsl => True | _ => False
  | .nilp, a => match a with | .nilp => True | _ => False
  | .nili, a => match a with | .nili => True | _ => False
  | .nni, a => match a with | .nni => True | _ => False
  | .ifc k u y, a => ifLe k u y a
  | .und, a => match a with | .und => True | _ => False
  | .ptr k i, a => match a with | .ptr k' i' => k' = k ∧ i' = i ∧ p k = true | _ => False
  | .eptr k i, a => match a with | .eptr k' i' => k' = k ∧ i' = i ∧ p k = true | _ => False
  | .efp k i f, a => match a with | .efp k' i' f' => k' = k ∧ i' = i ∧ f' = f ∧ p k = true | _ => False
  | .own k o n, a => match a with | .own k' o' n' => k' = k ∧ o' = o ∧ n' = n ∧ p k = true | _ => False
  | .ox k o n, a => match a with | .ox k' o' n' => k' = k ∧ o' = o ∧ n' = n ∧ p k = true | _ => False
  | .sv k n, a => match a with | .sv k' n' => k' = k ∧ n' = n ∧ p k = true | _ => False
  | .fn f x y, a => match a with | .fn f' x' y' => f' = f ∧ AVles p x x' ∧ AVles p y y' | _ => False
  | .yld l, a => match a with | .yld l' => l' = l ∧ p l = true | _ => False
  | .mp k, a => match a with | .mp k' => k' = k ∧ p k = true | _ => False
  | .ag l, a => match a with | .ag l' => AVles p l l' | _ => False
  | .tup l, a => match a with | .tup l' => AVles p l l' | _ => False
def AVles (p : Nat → Bool) : List AV → List AV → Prop
  | [], as => match as with | [] => True | _ :: _ => False
  | b :: bs, as => match as with | [] => False | a :: as => AVle p b a ∧ AVles p bs as
end

def slotsLe (p : Nat → Bool) (s : List (Nat × AV)) : List (Nat × AV) → Prop
  | [] => True
  | (t, b) :: r => AVle p b (look s t) ∧ slotsLe p s r

def LoopLe (p : Nat → Bool) (r r' : LoopA) : Prop := r'.st = r.st ∧ r'.pend = r.pend ∧ r'.n = r.n ∧ r'.ps = r.ps ∧ r'.assign = r.assign ∧ r'.body = r.body ∧ slotsLe p r'.slots r.slots

def dicLe (p : Nat → Bool) : List (Int × AV) → List (Int × AV) → Prop
  | [], [] => True
  | x :: l, y :: m => x.1 = y.1 ∧ AVle p x.2 y.2 ∧ dicLe p l m
  | _, _ => False

def BkLe (p : Nat → Bool) : Bk → Bk → Prop
  | .loop r, .loop r' => LoopLe p r r'
  | .dic k l, .dic k' l' => k' = k ∧ dicLe p l l'
  | .any, .any => True
  | .vars e cells, .vars e' cells' => e' = e ∧ AVles p cells cells'
  | .row e t l, .row e' t' l' => e' = e ∧ match (t'.sl).as (.sl t) l' with
    | some z => z = l
    | none => False
  | _, _ => False

def heapLe (p : Nat → Bool) (H : Heap) (n : Nat) : Heap → Prop
  | [] => True
  | (k, b) :: r => (match H.find k with
    | some b' => BkLe p b b'
    | none => False) ∧ Nat.blt k n = true ∧ heapLe p H n r

/-- The second state says no more than the first. -/
def Le (σ σ' : St) : Prop := σ'.n = σ.n ∧ slotsLe (hasKey σ'.H) σ.slots σ'.slots ∧ heapLe (hasKey σ'.H) σ.H σ'.next σ'.H ∧ nodupB σ'.H.keys = true

section
variable {C : Ctx} {P : Program} {G : World → Prop}

theorem AVle_sound {ρ : Nat → Nat} {H H' : Heap} {w : World} {p : Nat → Bool} (hd : ∀ b, Ok C ρ H w b → Ok C ρ H' w b) (hk : ∀ k, p k = true → k ∈ H'.keys)
    (hr : ∀ k e t l, p k = true → (k, Bk.row e t l) ∈ H → (k, Bk.row e t l) ∈ H') :
    (∀ b a v, AVle p b a → VR C ρ H w a v → VR C ρ H' w b v) := by
  have hd' : ∀ b, Ok C ρ H w b → Ok C ρ H' w b ∧ w.heap[b]? = w.heap[b]? := fun b h => ⟨hd b h, rfl⟩
  have dat : ∀ (u : Ty) (y : u.T) (a : AV) (v : Value), dLe u y a → VR C ρ H w a v → VR C ρ H' w (.d u y) v := by
    intro u y a v h hv
    unfold dLe at h
    split at h
    · split at h
      · rename_i z hz; subst h; exact .d ((VR.as hv hz).mono hd')
      · exact h.elim
    · split at h
      · rename_i z hz; subst h; cases hv; exact .d (RdV.of_scalar (nilOf_agg hz) (nilOf_sound hz))
      · exact h.elim
    · split at h
      · rename_i z hz; subst h; exact .d ((toD_sound hz hv).mono hd')
      · exact h.elim
    · exact h.elim
  intro b
  refine AV.rec (motive_1 := fun b => ∀ a v, AVle p b a → VR C ρ H w a v → VR C ρ H' w b v) (motive_2 := fun bs => ∀ as vs, AVles p bs as → VRs C ρ H w as vs → VRs C ρ H' w bs vs)
    ?_ ?_ ?_ ?_ ?_ ?_ ?_ ?_ ?_ ?_ ?_ ?_ ?_ ?_ ?_ ?_ ?_ ?_ ?_ ?_ ?_ ?_ b
  · intro t x a v h hv; exact dat t x a v h hv
  · intro k i a v h hv
    simp only [AVle] at h
    split at h
    · obtain ⟨rfl, rfl, hp⟩ := h; cases hv; exact .ptr (hk _ hp)
    · exact h.elim
  · intro k i a v h hv
    simp only [AVle] at h
    split at h
    · obtain ⟨rfl, rfl, hp⟩ := h
      cases hv with
      | eptr hm hi => exact .eptr (hr _ _ _ _ hp hm) hi
    · exact h.elim
  · intro k i f a v h hv
    simp only [AVle] at h
    split at h
    · obtain ⟨rfl, rfl, rfl, hp⟩ := h
      cases hv with
      | efp hm hi ho => exact .efp (hr _ _ _ _ hp hm) hi ho
    · exact h.elim
  · intro t x a v h hv
    simp only [AVle, dpLe] at h
    split at h
    · split at h
      · rename_i t' x' _ z hz
        subst h
        obtain ⟨e, he⟩ := Ty.as_some hz
        subst e
        subst he
        cases hv with
        | dptr hb hc ho hrd => exact .dptr (hd _ hb) hc ho (Rd.mono hd' _ _ _ hrd)
      · exact h.elim
    · exact h.elim
  · intro k o n a v h hv
    simp only [AVle] at h
    split at h
    · obtain ⟨rfl, rfl, rfl, hp⟩ := h
      cases hv with
      | own hm hl hc hmx hb hs ha => exact .own (hr _ _ _ _ hp hm) hl hc hmx hb hs ha
    · exact h.elim
  · intro k o n a v h hv
    simp only [AVle] at h
    split at h
    · obtain ⟨rfl, rfl, rfl, hp⟩ := h
      cases hv with
      | ox hm hl hmx hb hs ha => exact .ox (hr _ _ _ _ hp hm) hl hmx hb hs ha
    · exact h.elim
  · intro k n a v h hv
    simp only [AVle] at h
    split at h
    · obtain ⟨rfl, rfl, hp⟩ := h
      cases hv with
      | sv hm hn => exact .sv (hk _ hp) hn
    · exact h.elim
  · intro a v h hv
    simp only [AVle] at h
    split at h
    · cases hv; exact .nsl
    · exact h.elim
  · intro a v h hv
    simp only [AVle] at h
    split at h
    · cases hv; exact .nilp
    · exact h.elim
  · intro a v h hv
    simp only [AVle] at h
    split at h
    · cases hv; exact .nili
    · exact h.elim
  · intro a v h hv
    simp only [AVle] at h
    split at h
    · cases hv; exact .nni
    · exact h.elim
  · intro k t x a v h hv
    simp only [AVle, ifLe] at h
    split at h
    · obtain ⟨rfl, h⟩ := h
      split at h
      · rename_i z hz
        subst h
        obtain ⟨e, he⟩ := Ty.as_some hz
        subst e
        subst he
        cases hv with
        | ifc hr => exact .ifc (hr.mono hd')
      · exact h.elim
    · exact h.elim
  · intro f x y hx hy a v h hv
    simp only [AVle] at h
    split at h
    · obtain ⟨rfl, h1, h2⟩ := h
      cases hv with
      | fn h3 h4 => exact .fn (hx _ _ h1 h3) (hy _ _ h2 h4)
    · exact h.elim
  · intro l a v h hv
    simp only [AVle] at h
    split at h
    · obtain ⟨rfl, hp⟩ := h; cases hv; exact .yld (hk _ hp)
    · exact h.elim
  · intro k a v h hv
    simp only [AVle] at h
    split at h
    · obtain ⟨rfl, hp⟩ := h; cases hv; exact .mp (hk _ hp)
    · exact h.elim
  · intro l hl a v h hv
    simp only [AVle] at h
    split at h
    · cases hv with
      | ag h3 h4 => exact .ag (hl _ _ h h3) h4
    · exact h.elim
  · intro l hl a v h hv
    simp only [AVle] at h
    split at h
    · cases hv with
      | tup h3 => exact .tup (hl _ _ h h3)
    · exact h.elim
  · intro a v h hv
    simp only [AVle] at h
    split at h
    · cases hv; exact .und
    · exact h.elim
  · intro a v _ _; exact .no
  · intro as vs h hv
    simp only [AVles] at h
    split at h
    · cases hv; exact .nil
    · exact h.elim
  · intro b bs hb hbs as vs h hv
    simp only [AVles] at h
    split at h
    · exact h.elim
    · cases hv with
      | cons h1 h2 => exact .cons (hb _ _ h.1 h1) (hbs _ _ h.2 h2)

theorem AVles_sound {ρ : Nat → Nat} {H H' : Heap} {w : World} {p : Nat → Bool} (h : ∀ b a v, AVle p b a → VR C ρ H w a v → VR C ρ H' w b v) : ∀ (bs as : List AV) (vs : List Value), AVles p bs as → VRs C ρ H w as vs → VRs C ρ H' w bs vs
  | [], as, vs, hl, hv => by
    simp only [AVles] at hl
    split at hl
    · cases hv; exact .nil
    · exact hl.elim
  | b :: bs, as, vs, hl, hv => by
    simp only [AVles] at hl
    split at hl
    · exact hl.elim
    · cases hv with
      | cons h1 h2 => exact .cons (h _ _ _ hl.1 h1) (AVles_sound h bs _ _ hl.2 h2)

theorem dicLe_sound {ρ : Nat → Nat} {H H' : Heap} {w : World} {p : Nat → Bool} {k : IntKind} (h : ∀ b a v, AVle p b a → VR C ρ H w a v → VR C ρ H' w b v) : ∀ {l l' : List (Int × AV)} {es : List MapEntry}, dicLe p l l' → MapR (VR C ρ H w) k l' es → MapR (VR C ρ H' w) k l es
  | [], [], [], _, _ => trivial
  | _ :: _, _ :: _, _ :: _, ⟨e, h1, h2⟩, ⟨g1, g2, g3⟩ => ⟨by rw [e]; exact g1, h _ _ _ h1 g2, dicLe_sound h h2 g3⟩
  | [], [], _ :: _, _, h => h.elim
  | [], _ :: _, _, h, _ => h.elim
  | _ :: _, [], _, h, _ => h.elim
  | _ :: _, _ :: _, [], _, h => h.elim

theorem heapLe_mem {p : Nat → Bool} {H : Heap} {n : Nat} : ∀ {H' : Heap}, heapLe p H n H' → ∀ k b, (k, b) ∈ H' → k < n ∧ ∃ b', (k, b') ∈ H ∧ BkLe p b b'
  | [], _, k, b, hm => by cases hm
  | (j, c) :: r, h, k, b, hm => by
    simp only [heapLe] at h
    rcases List.mem_cons.1 hm with e | hm
    · injection e with e1 e2; subst e1; subst e2
      refine ⟨Nat.le_of_ble_eq_true h.2.1, ?_⟩
      cases hf : H.find k with
      | none => rw [hf] at h; exact h.1.elim
      | some b' => rw [hf] at h; exact ⟨b', Heap.find_mem hf, h.1⟩
    · exact heapLe_mem h.2.2 k b hm

theorem slotsLe_look {p : Nat → Bool} {s : List (Nat × AV)} : ∀ {s' : List (Nat × AV)}, slotsLe p s s' → ∀ t, look s' t = .no ∨ AVle p (look s' t) (look s t)
  | [], _, t => Or.inl rfl
  | (u, b) :: r, h, t => by
    simp only [slotsLe] at h
    simp only [look]
    cases hb : Nat.beq u t with
    | true => have := beq_true hb; subst this; exact Or.inr h.1
    | false => exact slotsLe_look h.2 t

theorem SRel.weaken {ρ : Nat → Nat} {σ σ' : St} {a : Act} {w : World} (hs : SRel C ρ σ a w) (h : Le σ σ') : SRel C ρ σ' a w ∧ ∀ n, Fr C n ρ σ.H w ρ σ'.H w := by
  obtain ⟨hn, hsl, hh, hnd⟩ := h
  have hm := hs.m
  have hmem := fun k b hk => heapLe_mem hh k b hk
  have hkeys : ∀ k, k ∈ σ'.H.keys → k ∈ σ.H.keys := by
    intro k hk
    obtain ⟨x, hx, e⟩ := List.mem_map.1 hk
    obtain ⟨_, b', hb', _⟩ := hmem x.1 x.2 hx
    exact e ▸ mem_keys hb'
  have hrow : ∀ k e t l, k ∈ σ'.H.keys → (k, Bk.row e t l) ∈ σ.H → (k, Bk.row e t l) ∈ σ'.H := by
    intro k e t l hk hkm
    obtain ⟨x, hx, rfl⟩ := List.mem_map.1 hk
    obtain ⟨_, b', hb', hle⟩ := hmem x.1 x.2 hx
    have := Heap.mem_unique hm.nodup hkm hb'
    subst this
    obtain ⟨k, b⟩ := x
    cases b with
    | vars e' cells => exact hle.elim
    | loop r => exact hle.elim
    | dic k l => exact hle.elim
    | any => exact hle.elim
    | row e' t' l' =>
      obtain ⟨h1, h2⟩ := hle
      subst h1
      split at h2
      · rename_i z hz
        obtain ⟨e1, e2⟩ := Ty.as_some hz
        injection e1 with e1
        subst e1
        have e2' : l = z := e2
        have h2' : z = l' := h2
        subst e2'; subst h2'
        exact hx
      · exact h2.elim
  have hd : ∀ b, Ok C ρ σ.H w b → Ok C ρ σ'.H w b := fun b ⟨h1, h2, h3⟩ => ⟨h1, h2, fun k hk => h3 k (hkeys k hk)⟩
  have hd' : ∀ b, Ok C ρ σ.H w b → Ok C ρ σ'.H w b ∧ w.heap[b]? = w.heap[b]? := fun b h => ⟨hd b h, rfl⟩
  have hav := AVle_sound (C := C) (ρ := ρ) (H := σ.H) (H' := σ'.H) (w := w) (p := hasKey σ'.H) hd (fun k hk => hasKey_iff.1 hk) (fun k e t l hp hk => hrow k e t l (hasKey_iff.1 hp) hk)
  refine ⟨⟨⟨hm.below, nodupB_sound hnd, ?_, fun k hk k' hk' => hm.inj k (hkeys k hk) k' (hkeys k' hk'), fun k hk => hm.low k (hkeys k hk), ?_⟩, fun t => ?_, by rw [hn]; exact hs.size, hs.defers.mono hd' (Nat.le_refl _)⟩, fun n => ⟨hd', fun k _ hk => ⟨hkeys k hk, rfl⟩, fun k e t l _ hkm hk => ⟨l, hrow k e t l hk hkm, Nat.le_refl _, fun c fr hc => ⟨c, fr, hc, rfl⟩⟩, Nat.le_refl _⟩⟩
  · intro k hk
    obtain ⟨x, hx, e⟩ := List.mem_map.1 hk
    exact e ▸ (hmem x.1 x.2 hx).1
  · intro k b hb
    obtain ⟨_, b', hb', hle⟩ := hmem k b hb
    have hbr := hm.mem k b' hb'
    cases b with
    | vars e cells =>
      cases b' with
      | row e' t' l' => exact hle.elim
      | loop r => exact hle.elim
      | dic k l => exact hle.elim
      | any => exact hle.elim
      | vars e' cells' =>
        obtain ⟨h1, h2⟩ := hle
        subst h1
        obtain ⟨c, g1, g2, g3⟩ := hbr
        exact ⟨c, g1, AVles_sound hav _ _ _ h2 g2, g3⟩
    | row e t l =>
      cases b' with
      | vars e' cells' => exact hle.elim
      | loop r => exact hle.elim
      | dic k l => exact hle.elim
      | any => exact hle.elim
      | row e' t' l' =>
        obtain ⟨h1, h2⟩ := hle
        subst h1
        split at h2
        · rename_i z hz
          obtain ⟨e1, e2⟩ := Ty.as_some hz
          injection e1 with e1
          subst e1
          have e2' : l' = z := e2
          have h2' : z = l := h2
          subst e2'; subst h2'
          obtain ⟨c, g1, g2, g3, g4, g5⟩ := hbr
          exact ⟨c, g1, g2, g3, RdL.mono (fun x cs => Rd.mono hd' _ x cs) _ _ g4, g5⟩
        · exact h2.elim
    | loop r =>
      cases b' with
      | vars e' cells' => exact hle.elim
      | row e' t' l' => exact hle.elim
      | dic k l => exact hle.elim
      | any => exact hle.elim
      | loop r' =>
        obtain ⟨h1, h2, h3, h4, h5, h6, h7⟩ := hle
        obtain ⟨fn, tmps, d, g1, g2, g3⟩ := hbr
        refine ⟨fn, tmps, d, by rw [← h1, ← h2, ← h4, ← h5, ← h6]; exact g1, by rw [← h3]; exact g2, fun t => ?_⟩
        rcases slotsLe_look h7 t with h | h
        · rw [h]; exact .no
        · exact hav _ _ _ h (g3 t)
    | any =>
      cases b' with
      | any => exact hbr
      | vars e' cells' => exact hle.elim
      | row e' t' l' => exact hle.elim
      | loop r' => exact hle.elim
      | dic k l => exact hle.elim
    | dic k l =>
      cases b' with
      | any => exact hle.elim
      | vars e' cells' => exact hle.elim
      | row e' t' l' => exact hle.elim
      | loop r' => exact hle.elim
      | dic k' l' =>
        obtain ⟨rfl, h2⟩ := hle
        obtain ⟨es, n, g1, g2⟩ := hbr
        exact ⟨es, n, g1, dicLe_sound hav h2 g2⟩
  · rcases slotsLe_look hsl t with h | h
    · rw [h]; exact .no
    · exact hav _ _ _ h (hs.slots t)

/-- Which round the activation is of, if of one: the block of the loop's record. -/
def RdOk (C : Ctx) (rd : Option Nat) (rnd : Option Nat) (next : Nat) (H : Heap) (ρ : Nat → Nat) : Prop :=
  match rd with
  | none => rnd = none ∧ C.mks = none
  | some l => l < next ∧ (l ∈ H.keys → rnd = some (ρ l))

theorem RdOk.fr {rd rnd : Option Nat} {next next' : Nat} {H H' : Heap} {ρ ρ' : Nat → Nat} {w w' : World} (h : RdOk C rd rnd next H ρ) (hf : Fr C next ρ H w ρ' H' w') (hn : next ≤ next') : RdOk C rd rnd next' H' ρ' := by
  cases rd with
  | none => exact h
  | some l =>
    refine ⟨Nat.lt_of_lt_of_le h.1 hn, fun hl => ?_⟩
    obtain ⟨h1, h2⟩ := hf.keys l h.1 hl
    rw [h2]; exact h.2 h1

/-- What a piece of code does, from any world that is as the state says. -/
def Sat (P : Program) (G : World → Prop) (rd : Option Nat) (c : Code) (σ : St) (Q : Exit → St → Prop) : Prop :=
  ∀ (C : Ctx), G C.w0 → ∀ (ρ : Nat → Nat) (a : Act) (w : World), SRel C ρ σ a w → ∀ rnd : Option Nat, RdOk C rd rnd σ.next σ.H ρ → c.wpIn (wideR rnd) 0 P (fun e a' w' => Reach C σ ρ w (Q e) a' w') a w
end

/-- A loop, as something to be shown. -/
structure LoopP (P : Program) (G : World → Prop) (rd : Option Nat) (c : Code) (σ : St) (Q : Exit → St → Prop) : Prop where
  sat : Sat P G rd (.loop c) σ Q

def seqQ (X : St → (Exit → St → Prop) → Prop) (Q : Exit → St → Prop) : Exit → St → Prop
  | .normal, σ => X σ Q
  | e, σ => Q e σ

def blockQ (id : Nat) (Q : Exit → St → Prop) : Exit → St → Prop
  | .exit j, σ => match Nat.beq j id with
    | true => Q .normal σ
    | false => Q (.exit j) σ
  | e, σ => Q e σ

def scopeQ (Q : Exit → St → Prop) : Exit → St → Prop
  | .goto _, _ => False
  | e, σ => Q e σ

/-- The record of a range over a function is laid; K: its key. -/
def St.lay (σ : St) (K : Nat) (ps : Array Tmp) (assign body : Code) : Heap :=
  (K, .loop { st := .ready, pend := none, slots := σ.slots, n := σ.n, ps := ps, assign := assign, body := body }) :: σ.H

/-- The way out of a pending jump. -/
def jumpExit : Option Code → Option Exit
  | none => some .normal
  | some .ret => some .ret
  | some (.exit id) => some (.exit id)
  | some _ => none

/-- Behind the iterator's return. -/
def rangeQ (σ : St) (l : Nat) (Q : Exit → St → Prop) (x : AV) (H : Heap) (n : Nat) : Prop :=
  match isPan x with
  | none => match H.find l with
    | some (.loop r) => match r.st, jumpExit r.pend with
      | .busy, _ => False
      | _, some e => Q e { slots := mapSlots (hasKey (H.up l (.loop { r with st := .exhausted }))) dead σ.slots, H := H.up l (.loop { r with st := .exhausted }), next := n, n := σ.n }
      | _, none => False
    | _ => False
  | some _ => False

/-- Behind a region. -/
def regK (Q : Exit → St → Prop) : Fi → Prop
  | .go σ => Q .normal σ
  | .pan ch σ => Q (.panic ch) σ

def exec (P : Program) (G : World → Prop) (Γ : Cons) (call : CallT) (rd : Option Nat) : Code → St → (Exit → St → Prop) → Prop
  | .skip, σ, Q => Q .normal σ
  | .region id ops draw, σ, Q => match draw with
    | false => execSeq P Γ call ops ops.toList σ (regK Q)
    | true => execDraw P Γ call ops (σ.forDraw (retSl Γ) ops.toList) (regK Q) ∨ Sat P G rd (.region id ops true) σ Q
  | .seq x y, σ, Q => exec P G Γ call rd x σ (seqQ (exec P G Γ call rd y) Q)
  | .cond c x y, σ, Q => match σ.eval c with
    | .d .bool b => bcase b (exec P G Γ call rd x σ Q) (exec P G Γ call rd y σ Q)
    | _ => False
  | .block id c, σ, Q => exec P G Γ call rd c σ (blockQ id Q)
  | .loop c, σ, Q => LoopP P G rd c σ Q
  | .exit id, σ, Q => Q (.exit id) σ
  | .ret, σ, Q => Q .ret σ
  | .label _, σ, Q => Q .normal σ
  | .scope c, σ, Q => exec P G Γ call rd c σ (scopeQ Q)
  | .rangeFunc g ps assign body, σ, Q => match σ.eval g with
    | .fn f first caps => match rd with
      | none => call (.fn f) (first ++ .yld σ.next :: caps) (σ.lay σ.next ps assign body) (σ.next + 1) (rangeQ σ σ.next Q)
      | some l0 => match σ.H.find l0 with
        | some (.loop _) => call (.fn f) (first ++ .yld σ.next :: caps) (σ.lay σ.next ps assign body) (σ.next + 1) (rangeQ σ σ.next Q)
        | _ => False
    | _ => False
  | _, _, _ => False

section
variable {P : Program} {G : World → Prop}

def noGoto (Q : Exit → Act → World → Prop) : Exit → Act → World → Prop
  | .goto _, _, _ => False
  | e, a, w => Q e a w

theorem wpIn_scope {F : Fence} {n : Nat} {Q : Exit → Act → World → Prop} {a : Act} {w : World} {c : Code} (h : c.wpIn F n P (noGoto Q) a w) : (Code.scope c).wpIn F n P Q a w := by
  intro b k cs hro hb hr
  have h0 : (lone (b.atR a (.code (.scope c) :: k)) cs w).fenced P F := fenced_calm hb hr rfl
  have s1 : step P (lone (b.atR a (.code (.scope c) :: k)) cs w) = .next (lone (b.atR a (.code c :: .inScope c :: k)) cs w) := step_lone_go (by simp [stepG, stepG.exec, Frame.atR])
  obtain ⟨e, a₁, w₁, hq, harr⟩ := h b (.inScope c :: k) cs hro hb hr
  have s2 : step P (lone (b.atR a₁ (.inScope c :: k)) cs w₁) = .next (lone (b.atR a₁ k) cs w₁) := step_lone_go (by simp [stepG, stepG.exec, Frame.atR])
  cases e with
  | normal => exact ⟨.normal, a₁, w₁, hq, .head h0 s1 (StepsIn.trans harr (.one (fenced_calm hb hr rfl) s2))⟩
  | exit id =>
    have hx : exitTo id (.inScope c :: k) = exitTo id k := by simp [exitTo]
    exact ⟨.exit id, a₁, w₁, hq, fun k' hk => .head h0 s1 (harr.1 k' (by rw [hx]; exact hk)),
      fun hr' hk => let ⟨k₁, h1, h2⟩ := harr.2 hr' (by rw [hx]; exact hk); ⟨k₁, h1, .head h0 s1 h2⟩⟩
  | goto l => exact hq.elim
  | ret => exact ⟨_, a₁, w₁, hq, .of_steps (.one h0 s1) harr⟩
  | panic ch => exact ⟨_, a₁, w₁, hq, .of_steps (.one h0 s1) harr⟩
  | outgrown => exact ⟨_, a₁, w₁, hq, .of_steps (.one h0 s1) harr⟩

theorem up_row {H : Heap} {l : Nat} {r : LoopA} (hf : H.find l = some (.loop r)) (hn : H.keys.Nodup) {k : Nat} {e : TypeId} {t : Ty} {m : List t.T} (r' : LoopA) (h : (k, Bk.row e t m) ∈ H) : (k, Bk.row e t m) ∈ H.up l (.loop r') := by
  refine (Heap.mem_up_ne ?_).2 h
  intro e
  subst e
  have := Heap.mem_unique hn h (Heap.find_mem hf)
  cases this

/-- A change of a loop's record. -/
theorem MRel.turn {C : Ctx} {ρ : Nat → Nat} {H : Heap} {next : Nat} {w : World} (hm : MRel C ρ H next w) {l : Nat} {r : LoopA} (hf : H.find l = some (.loop r)) (st : LoopState) (pe : Option Code)
    {fn : FuncId} {tmps : Array Value} {d : Nat} (hl : w.heap[ρ l]? = some (.loop { state := r.st, pending := r.pend, fn := fn, tmps := tmps, params := r.ps, assign := r.assign, body := r.body, defers := d }))
    (hsz : tmps.size = r.n) (hsl : ∀ t, VR C ρ H w (look r.slots t) (tmps.getD t undef)) :
    MRel C ρ (H.up l (.loop { r with st := st, pend := pe })) next (w.putObj (ρ l) (.loop { state := st, pending := pe, fn := fn, tmps := tmps, params := r.ps, assign := r.assign, body := r.body, defers := d })) ∧
      Ext C ρ H w ρ (H.up l (.loop { r with st := st, pend := pe })) (w.putObj (ρ l) (.loop { state := st, pending := pe, fn := fn, tmps := tmps, params := r.ps, assign := r.assign, body := r.body, defers := d })) := by
  have hk := Heap.find_mem hf
  have hkk := mem_keys hk
  have hlt := lt_of_block hl
  generalize hO : Obj.loop { state := st, pending := pe, fn := fn, tmps := tmps, params := r.ps, assign := r.assign, body := r.body, defers := d } = O
  have hext : Ext C ρ H w ρ (H.up l (.loop { r with st := st, pend := pe })) (w.putObj (ρ l) O) := by
    refine ⟨fun b hb => ?_, fun j hj => ⟨by rw [Heap.keys_up]; exact hj, rfl⟩, fun j e' t m hmem => ?_, by simp⟩
    · obtain ⟨h1, h2, h3⟩ := hb
      exact ⟨⟨h1, by simpa using h2, fun j hj => h3 j (by rwa [Heap.keys_up] at hj)⟩, World.putObj_heap_other (fun e => h3 l hkk e.symm)⟩
    · refine ⟨m, up_row hf hm.nodup _ hmem, Nat.le_refl _, fun c fr hc => ⟨c, fr, ?_, rfl⟩⟩
      rw [World.putObj_heap_other]; exact hc
      intro e
      rw [e, hl] at hc
      cases hc
  refine ⟨⟨?_, ?_, ?_, ?_, ?_, ?_⟩, hext⟩
  · exact hm.below.trans ⟨rfl, rfl, rfl, by simp, fun i hi => World.putObj_heap_other (fun e => by have := hm.low l hkk; omega)⟩
  · rw [Heap.keys_up]; exact hm.nodup
  · rw [Heap.keys_up]; exact hm.lt
  · rw [Heap.keys_up]; exact hm.inj
  · rw [Heap.keys_up]; exact hm.low
  · intro j b hjb
    by_cases hj : j = l
    · subst hj
      rw [Heap.mem_up_eq hm.nodup hjb]
      exact ⟨fn, tmps, d, by rw [World.putObj_heap_same hlt, hO], hsz, fun t => hext.vr (hsl t)⟩
    · have hjb' := (Heap.mem_up_ne hj).1 hjb
      exact (hm.mem j b hjb').ext hext (World.putObj_heap_other (fun e => hj (hm.inj j (mem_keys hjb') l hkk e)))

theorem jumpExit_wp {rnd : Option Nat} {j : Code} {e : Exit} (h : jumpExit (some j) = some e) {Q : Exit → Act → World → Prop} {a : Act} {w : World} (hq : Q e a w) : j.wpIn (wideR rnd) 0 P Q a w := by
  cases j <;> simp only [jumpExit] at h <;> first | (cases h; done) | (injection h with h; subst h)
  · exact wpIn_exit hq
  · exact wpIn_ret hq

/-- A block that a range over a function has laid beside its record is no one's. -/
theorem Dfs.push {C : Ctx} {ρ ρ' : Nat → Nat} {H H' : Heap} {w w' : World} {l : List Deferred} (hmk : C.mks = none) (h : Dfs C ρ H w l) (hd : ∀ b, Ok C ρ H w b → Ok C ρ' H' w' b ∧ w'.heap[b]? = w.heap[b]?) (hsz : w.heap.size ≤ w'.heap.size) {d : Nat} (hnew : w.heap.size ≤ d)
    (hk : ∀ k ∈ H'.keys, ρ' k ≠ d) (hb : w'.heap[d]? = some (.deferred (some []))) : Dfs C ρ' H' w' ({ target := .collected d, args := #[] } :: l) := by
  obtain ⟨h0, ds, h1, h2, h3, -⟩ := h.mono hd hsz
  obtain ⟨g0, ds0, g1, g2, g3, -⟩ := h
  refine ⟨h0, d :: ds, by rw [h1]; rfl, List.nodup_cons.2 ⟨fun hm => ?_, h2⟩, fun x hx => ?_, fun x hx => by rw [hmk] at hx; cases hx⟩
  · have e : ds0 = ds := by
      have := List.append_cancel_right (g1.symm.trans h1)
      exact List.map_inj_right (fun a b h => by injection h with h; injection h) |>.1 this
    subst e
    have := lt_of_block (g3 d hm).2
    omega
  · rcases List.mem_cons.1 hx with rfl | hx
    · exact ⟨⟨Nat.le_trans g0 hnew, hk⟩, hb⟩
    · exact h3 x hx

theorem exec_sound (hG : GMono G) (hmix : P.follows .mixedOrders = true) {Γ : Cons} (hΓ : Γ.ok P G) {call : CallT} (hcall : CallSat P G call) {rd : Option Nat} : ∀ (c : Code) (σ : St) (Q : Exit → St → Prop), exec P G Γ call rd c σ Q → Sat P G rd c σ Q
  | .skip, σ, Q, h => fun C hC ρ a w hs rnd hrd => wpIn_skip ⟨ρ, σ, h, hs, Fr.refl _ _ _ _ _, Nat.le_refl _⟩
  | .region id ops draw, σ, Q, h => fun C hC ρ a w hs rnd hrd => by
    cases draw with
    | false => exact wpIn_region_list (execSeq_sound hG hC hΓ hcall _ hs h (fun a' w' hr => hr) (fun ch a' w' hr => hr) rnd)
    | true =>
      obtain ⟨h1, h2, h3⟩ := St.thaws_sound (drawKeys (retSl Γ) σ ops.toList ops.toList) hs
      rcases h with h | h
      · exact wpIn_region_any hmix (execDraw_sound hG hC hΓ hcall h1 h (fun a' w' hr => hr.trans h2 (Nat.le_of_eq h3.symm)) (fun ch a' w' hr => hr.trans h2 (Nat.le_of_eq h3.symm)) rnd)
      · exact h C hC ρ a w hs rnd hrd
  | .seq x y, σ, Q, h => fun C hC ρ a w hs rnd hrd => by
    refine wpIn_seq (wpIn_mono (exec_sound hG hmix hΓ hcall x σ _ h C hC ρ a w hs rnd hrd) ?_)
    rintro e a' w' ⟨ρ', σ', h1, h2, h3, h4⟩
    cases e with
    | normal => exact wpIn_mono (exec_sound hG hmix hΓ hcall y σ' Q h1 C hC ρ' a' w' h2 rnd (hrd.fr h3 h4)) (fun e a'' w'' hr => hr.trans h3 h4)
    | _ => exact ⟨ρ', σ', h1, h2, h3, h4⟩
  | .cond c x y, σ, Q, h => fun C hC ρ a w hs rnd hrd => by
    simp only [exec] at h
    split at h
    · rename_i b hb
      have hv := hs.eval c
      rw [hb] at hv
      have hbv := bool_value hv
      cases b with
      | true => exact wpIn_cond_true hbv (exec_sound hG hmix hΓ hcall x σ Q h C hC ρ a w hs rnd hrd)
      | false => exact wpIn_cond_false hbv (exec_sound hG hmix hΓ hcall y σ Q h C hC ρ a w hs rnd hrd)
    · exact h.elim
  | .block id c, σ, Q, h => fun C hC ρ a w hs rnd hrd => by
    refine wpIn_block (wpIn_mono (exec_sound hG hmix hΓ hcall c σ _ h C hC ρ a w hs rnd hrd) ?_)
    rintro e a' w' ⟨ρ', σ', h1, h2, h3, h4⟩
    cases e with
    | exit j =>
      simp only [Exit.inBlock]
      cases hb : Nat.beq j id with
      | true => simp only [blockQ, hb] at h1; rw [if_pos (beq_true hb)]; exact ⟨ρ', σ', h1, h2, h3, h4⟩
      | false => simp only [blockQ, hb] at h1; rw [if_neg (beq_false hb)]; exact ⟨ρ', σ', h1, h2, h3, h4⟩
    | _ => exact ⟨ρ', σ', h1, h2, h3, h4⟩
  | .loop c, σ, Q, h => h.sat
  | .exit id, σ, Q, h => fun C hC ρ a w hs rnd hrd => wpIn_exit ⟨ρ, σ, h, hs, Fr.refl _ _ _ _ _, Nat.le_refl _⟩
  | .ret, σ, Q, h => fun C hC ρ a w hs rnd hrd => wpIn_ret ⟨ρ, σ, h, hs, Fr.refl _ _ _ _ _, Nat.le_refl _⟩
  | .label l, σ, Q, h => fun C hC ρ a w hs rnd hrd => wpIn_label ⟨ρ, σ, h, hs, Fr.refl _ _ _ _ _, Nat.le_refl _⟩
  | .scope c, σ, Q, h => fun C hC ρ a w hs rnd hrd => by
    refine wpIn_scope (wpIn_mono (exec_sound hG hmix hΓ hcall c σ _ h C hC ρ a w hs rnd hrd) ?_)
    rintro e a' w' ⟨ρ', σ', h1, h2, h3, h4⟩
    cases e with
    | goto l => exact h1.elim
    | _ => exact ⟨ρ', σ', h1, h2, h3, h4⟩
  | .rangeFunc g ps assign body, σ, Q, h => fun C hC ρ a w hs rnd hrd => by
    simp only [exec] at h
    split at h
    · rename_i f first caps hg
      have hv := hs.eval g
      rw [hg] at hv
      generalize hvg : a.eval g = vg at hv
      cases hv with
      | @fn _ _ _ vf vc h1 h2 =>
        have hKn : σ.next ∉ σ.H.keys := fun h => absurd (hs.m.lt _ h) (Nat.lt_irrefl _)
        -- the call of the iterator, and what lies behind it
        have main : ∀ (fn : FuncId) (W0 : World) (mark : List Deferred) (dd : Nat), (mark ≠ [] → C.mks = none) → Below w.heap.size w W0 → (∀ x ∈ mark, ∃ d, x = { target := .collected d, args := #[] } ∧ mark = [x] ∧ w.heap.size ≤ d ∧ W0.heap[d]? = some (.deferred (some []))) →
            (Instr.enterLoop fn a.tmps ps assign body rnd).run P w = .ok (W0.heap.size, mark) (W0.alloc (.loop { state := .ready, pending := none, fn := fn, tmps := a.tmps, params := ps, assign := assign, body := body, defers := dd })) →
            call (.fn f) (first ++ .yld σ.next :: caps) (σ.lay σ.next ps assign body) (σ.next + 1) (rangeQ σ σ.next Q) →
            ∃ (l : Nat) (mark : List Deferred) (w₁ : World) (d : Deferred) (w₁' : World) (f : FuncId) (args : Array Value) (w₂ : World),
              (Instr.enterLoop fn a.tmps ps assign body (wideR rnd).round).run P w = .ok (l, mark) w₁ ∧
              (resolve a.eval (rangeCall g l) 0).run P w₁ = .ok d w₁' ∧
              (∀ f', Target.leads P w₁' d.target d.args = some f' → (wideR rnd).fn f') ∧
              (invoke d.target d.args).run P w₁' = .ok (.enter f args) w₂ ∧
              ((wideR rnd).depth.isSome = true → 1 ≤ 0) ∧
              CallsIn (wideR rnd) (0 - 1) P f args w₂ (rangePost (wideR rnd) 0 P l (fun e a' w' => Reach C σ ρ w (Q e) a' w') { a with defers := mark ++ a.defers }) := by
          intro fn W0 mark dd hmkn hb0 hmark hent hc
          obtain ⟨hm0, hext0⟩ := hs.m.grow hb0
          have hlt0 : ∀ k ∈ σ.H.keys, ρ k < w.heap.size := fun k hk => hs.m.key_lt hk
          obtain ⟨hm1, hext1⟩ := MRel.allocO (K := σ.next) (blk := .loop { st := .ready, pend := none, slots := σ.slots, n := σ.n, ps := ps, assign := assign, body := body })
            (ob := .loop { state := .ready, pending := none, fn := fn, tmps := a.tmps, params := ps, assign := assign, body := body, defers := dd }) (hm0.mono (Nat.le_succ σ.next)) hKn (Nat.lt_succ_self _)
            (fun ρ' H' w' he hw' => ⟨fn, a.tmps, dd, hw', hs.size, fun t => (hext0.trans he).vr (hs.slots t)⟩)
          have hext := hext0.trans hext1
          generalize hW1 : W0.alloc (.loop { state := .ready, pending := none, fn := fn, tmps := a.tmps, params := ps, assign := assign, body := body, defers := dd }) = W1 at *
          have hρ : upd ρ σ.next W0.heap.size σ.next = W0.heap.size := upd_same _ _ _
          have hargs : VRs C (upd ρ σ.next W0.heap.size) (σ.lay σ.next ps assign body) W1 (first ++ .yld σ.next :: caps) (vf ++ .func (.yield W0.heap.size) #[] #[] :: vc) := by
            refine (h1.imp (fun _ _ => hext.vr)).append (.cons ?_ (h2.imp (fun _ _ => hext.vr)))
            have : VR C (upd ρ σ.next W0.heap.size) (σ.lay σ.next ps assign body) W1 (.yld σ.next) (.func (.yield (upd ρ σ.next W0.heap.size σ.next)) #[] #[]) := .yld List.mem_cons_self
            rw [hρ] at this
            exact this
          obtain ⟨hen, hcl⟩ := hcall.fn _ _ _ _ _ hc C _ W1 _ hC hm1 hargs
          refine ⟨W0.heap.size, mark, W1, { target := .fn (.func f) ⟨vc⟩, args := ⟨vf⟩ ++ #[.func (.yield W0.heap.size) #[] #[]] }, W1, f, (⟨vf⟩ ++ #[.func (.yield W0.heap.size) #[] #[]]) ++ ⟨vc⟩, W1, hent, ?_, fun _ _ => trivial, ?_, (fun h => by cases h), ?_⟩
          · simp only [resolve, hvg]
            simp [go_sem]
          · have := enters_run (w := W1) hen ((⟨vf⟩ ++ #[.func (.yield W0.heap.size) #[] #[]]) ++ ⟨vc⟩)
            simp only [invoke]
            exact this
          · refine callsIn_wideR.2 ?_
            rw [show (((⟨vf⟩ : Array Value) ++ #[.func (.yield W0.heap.size) #[] #[]]) ++ (⟨vc⟩ : Array Value)) = ⟨vf ++ .func (.yield W0.heap.size) #[] #[] :: vc⟩ by apply Array.ext'; simp]
            refine hcl.mono ?_
            rintro e W2 ⟨ρ2, r, H2, n2, hK, hm2, hfr2, hn2, hend2⟩
            rcases hend2 with ⟨v, rfl, hpn, hv2⟩ | ⟨x2, ch2, rfl, hc2, rfl⟩
            case inr => exact hK.elim
            simp only [rangeQ, hpn] at hK
            split at hK
            · rename_i rr hfind
              obtain ⟨fn', tmps', d', g1, g2, g3⟩ := hm2.mem _ _ (Heap.find_mem hfind)
              obtain ⟨hk2, hr2⟩ := hfr2.keys σ.next (Nat.lt_succ_self _) (mem_keys (Heap.find_mem hfind))
              rw [hρ] at hr2
              have hnb : rr.st ≠ .busy := by intro e; rw [e] at hK; exact hK
              obtain ⟨ex, hex, hQ⟩ : ∃ ex, jumpExit rr.pend = some ex ∧ Q ex { slots := mapSlots (hasKey (H2.up σ.next (.loop { rr with st := .exhausted }))) dead σ.slots, H := H2.up σ.next (.loop { rr with st := .exhausted }), next := n2, n := σ.n } := by
                split at hK
                · exact hK.elim
                · rename_i e _ hje; exact ⟨_, ‹_›, hK⟩
                · exact hK.elim
              obtain ⟨hm3, hext3⟩ := hm2.turn hfind .exhausted rr.pend g1 g2 g3
              have hend := run_endLoop (P := P) g1 (by simpa using hnb)
              rw [hr2] at hend hm3 hext3
              generalize hW3 : W2.putObj W0.heap.size (.loop { state := .exhausted, pending := rr.pend, fn := fn', tmps := tmps', params := rr.ps, assign := rr.assign, body := rr.body, defers := d' }) = W3 at *
              have hfr3 : Fr C σ.next ρ σ.H w ρ2 (H2.up σ.next (.loop { rr with st := .exhausted })) W3 := by
                have f1 : Fr C σ.next ρ σ.H w (upd ρ σ.next W0.heap.size) (σ.lay σ.next ps assign body) W1 := hext.fr (fun k hk hm => by
                  rcases List.mem_cons.1 hm with rfl | hm
                  · exact absurd hk (Nat.lt_irrefl _)
                  · exact hm)
                refine (f1.trans (Nat.le_succ _) hfr2).trans (n' := n2) (by omega) (hext3.fr (fun k _ hm => by rwa [Heap.keys_up] at hm))
              have hsr : SRel C ρ2 { slots := mapSlots (hasKey (H2.up σ.next (.loop { rr with st := .exhausted }))) dead σ.slots, H := H2.up σ.next (.loop { rr with st := .exhausted }), next := n2, n := σ.n } { a with defers := mark ++ a.defers } W3 := by
                have base := hs.keepTo (p := hasKey (H2.up σ.next (.loop { rr with st := .exhausted }))) (f := dead) hm3 (fun x v hx =>
                  VR.map hfr3.data (fun k hk hp => ⟨hasKey_iff.1 hp, (hfr3.keys k (hs.m.lt k hk) (hasKey_iff.1 hp)).2⟩) (fun k e t l hk hp => hfr3.rows k e t l (hs.m.lt k (mem_keys hk)) hk (hasKey_iff.1 hp)) (fun _ _ _ _ _ _ => .no) hx) hfr3.data hfr3.size
                refine ⟨base.m, base.slots, base.size, ?_⟩
                cases mark with
                | nil => exact base.defers
                | cons x xs =>
                  obtain ⟨d, rfl, hxs, hd1, hd2⟩ := hmark x List.mem_cons_self
                  injection hxs with _ hxs
                  subst hxs
                  have hlow : C.w0.heap.size ≤ d := Nat.le_trans hs.m.below.size hd1
                  have hdlt := lt_of_block hd2
                  have hok1 : Ok C (upd ρ σ.next W0.heap.size) (σ.lay σ.next ps assign body) W1 d := by
                    refine ⟨Or.inr hlow, by rw [← hW1]; simp; omega, fun k hk => ?_⟩
                    rcases List.mem_cons.1 hk with rfl | hk
                    · rw [hρ]; omega
                    · have hk' : k ∈ σ.H.keys := hk
                      have hne : k ≠ σ.next := fun e => hKn (by rw [← e]; exact hk')
                      rw [upd_ne _ hne]
                      have := hlt0 k hk'; omega
                  obtain ⟨hok2, hbl2⟩ := hfr2.data d hok1
                  obtain ⟨hok3, hbl3⟩ := hext3.data d hok2
                  refine Dfs.push (hmkn (by simp)) hs.defers hfr3.data hfr3.size hd1 hok3.2.2 ?_
                  rw [hbl3, hbl2, ← hW1, Below.heap_alloc _ _ _ hdlt]
                  exact hd2
              cases hp : rr.pend with
              | none =>
                rw [hp] at hex
                injection hex with hex
                subst hex
                exact ⟨none, W3, by rw [hend, hp], ⟨ρ2, _, hQ, hsr, hfr3, by show σ.next ≤ n2; omega⟩⟩
              | some j =>
                rw [hp] at hex
                exact ⟨some j, W3, by rw [hend, hp], jumpExit_wp hex ⟨ρ2, _, hQ, hsr, hfr3, by show σ.next ≤ n2; omega⟩⟩
            · exact hK.elim
        refine wpIn_rangeFunc (fun fn _ => ?_)
        cases rd with
        | none =>
          have hr : rnd = none := hrd.1
          subst hr
          simp only at h
          refine main fn (w.alloc (.deferred (some []))) [{ target := .collected w.heap.size, args := #[] }] w.heap.size (fun _ => hrd.2) ((Below.refl _ _).alloc (Nat.le_refl _) _) ?_ ?_ h
          · intro x hx
            simp at hx
            subst hx
            exact ⟨w.heap.size, rfl, rfl, Nat.le_refl _, World.alloc_heap_new _ _⟩
          · rw [run_enterLoop_outer, World.size_alloc]
        | some l0 =>
          simp only at h
          split at h
          · rename_i r0 hf0
            have hr : rnd = some (ρ l0) := hrd.2 (mem_keys (Heap.find_mem hf0))
            subst hr
            obtain ⟨fn0, tmps0, d0, g1, _, _⟩ := hs.m.mem _ _ (Heap.find_mem hf0)
            refine main fn w [] d0 (fun h => absurd rfl h) (Below.refl _ _) (fun x hx => by cases hx) ?_ h
            rw [run_enterLoop_inner g1]
          · exact h.elim
    · exact h.elim
  | .goto _, _, _, h => h.elim
  | .refuse _, _, _, h => h.elim

/-- A loop, by what holds at the head of every round. -/
theorem wp_loop_ix {rnd : Option Nat} {Q : Exit → Act → World → Prop} {ι : Type} {c : Code} (I : ι → Act → World → Prop) (μ : ι → Nat)
    (round : ∀ i a w, I i a w → c.wpIn (wideR rnd) 0 P (Exit.then (fun a' w' => ∃ i', I i' a' w' ∧ μ i' < μ i) Q) a w) (i : ι) (a : Act) (w : World) (h₀ : I i a w) : (Code.loop c).wpIn (wideR rnd) 0 P Q a w := by
  intro b k cs hro hb hr
  have key : ∀ j i a w, μ i = j → I i a w →
      ∃ e a' w', Q e a' w' ∧ ArrivesIn (Machine.fenced P (wideR rnd)) P (lone (b.atR a (.code c :: .inLoop c :: k)) cs w) b k cs e a' w' := by
    intro j
    induction j using Nat.strongRecOn with
    | _ j ih =>
      intro i a w hn hI
      obtain ⟨e, a₁, w₁, hq, harr⟩ := round i a w hI b (.inLoop c :: k) cs hro hb hr
      cases e with
      | normal =>
        obtain ⟨i', hI₁, hlt⟩ := hq
        obtain ⟨e₂, a₂, w₂, hq₂, harr₂⟩ := ih (μ i') (hn ▸ hlt) i' a₁ w₁ rfl hI₁
        exact ⟨e₂, a₂, w₂, hq₂, .of_steps (StepsIn.trans harr (.one (fenced_calm hb hr rfl) stepR_inLoop)) harr₂⟩
      | exit id => exact ⟨_, a₁, w₁, hq, .pass (x := .inLoop c) rfl (fun _ _ => .inl (by simp)) harr⟩
      | goto l => exact ⟨_, a₁, w₁, hq, .pass (x := .inLoop c) rfl (fun _ _ => .inl (by simp)) harr⟩
      | ret => exact ⟨_, a₁, w₁, hq, .pass (x := .inLoop c) rfl (fun _ _ => .inl (by simp)) harr⟩
      | panic ch => exact ⟨_, a₁, w₁, hq, .pass (x := .inLoop c) rfl (fun _ _ => .inl (by simp)) harr⟩
      | outgrown => exact ⟨_, a₁, w₁, hq, .pass (x := .inLoop c) rfl (fun _ _ => .inl (by simp)) harr⟩
  obtain ⟨e, a', w', hq, harr⟩ := key _ i a w rfl h₀
  exact ⟨e, a', w', hq, .of_steps (.one (fenced_calm hb hr rfl) stepR_loop) harr⟩

/-- What must hold behind a round. -/
def roundQ {ι : Type} (inv : ι → St) (μ : ι → Nat) (Q : Exit → St → Prop) (i : ι) : Exit → St → Prop
  | .normal, σ' => ∃ i', Le σ' (inv i') ∧ μ i' < μ i
  | e, σ' => Q e σ'

end
end Go.Vg
