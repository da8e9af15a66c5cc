/-
  The engine, part X: keys are renamed; the loop rule in the form in which it is used; parts of a body. Own work; no condition.
-/
import Derived.Test.YtbdojimkdgajgaaGreatDoorEngDD
namespace Go.Vg
open Go Go.RowKit

def rn (k k' j : Nat) : Nat := match Nat.beq j k with | true => k' | false => j

mutual
def AV.ren (k k' : Nat) : AV → AV
  | .ptr j off => .ptr (rn k k' j) off
  | .eptr j i => .eptr (rn k k' j) i
  | .efp j i f => .efp (rn k k' j) i f
  | .own j off len => .own (rn k k' j) off len
  | .ox j off len => .ox (rn k k' j) off len
  | .sv j n => .sv (rn k k' j) n
  | .fn g first caps => .fn g (AV.rens k k' first) (AV.rens k k' caps)
  | .yld l => .yld (rn k k' l)
  | .mp j => .mp (rn k k' j)
  | .ag cells => .ag (AV.rens k k' cells)
  | .tup l => .tup (AV.rens k k' l)
  | .d t x => .d t x
  | .dptr t x => .dptr t x
  | .nsl => .nsl
  | .nilp => .nilp
  | .nili => .nili
  | .nni => .nni
  | .ifc k t x => .ifc k t x
  | .und => .und
  | .no => .no
def AV.rens (k k' : Nat) : List AV → List AV
  | [] => []
  | a :: as => a.ren k k' :: AV.rens k k' as
end

def renSlots (k k' : Nat) : List (Nat × AV) → List (Nat × AV)
  | [] => []
  | (t, a) :: r => (t, a.ren k k') :: renSlots k k' r

def renEnt (k k' : Nat) : List (Int × AV) → List (Int × AV)
  | [] => []
  | (n, v) :: r => (n, v.ren k k') :: renEnt k k' r

def Bk.ren (k k' : Nat) : Bk → Bk
  | .vars e cells => .vars e (AV.rens k k' cells)
  | .row e t l => .row e t l
  | .loop r => .loop { r with slots := renSlots k k' r.slots }
  | .dic j l => .dic j (renEnt k k' l)
  | .any => .any

def Heap.ren (k k' : Nat) : Heap → Heap
  | [] => []
  | (j, b) :: r => (rn k k' j, b.ren k k') :: Heap.ren k k' r

def St.rekey (σ : St) (k k' : Nat) : St := { σ with slots := renSlots k k' σ.slots, H := Heap.ren k k' σ.H, next := Nat.max σ.next (k' + 1) }

/-- The rows of the named slots get the named keys. -/
def St.rekeys (n : Nat) (σ : St) : List (Nat × Nat) → St
  | [] => σ
  | (s, k') :: r => match look σ.slots s with
    | .own K _ _ => match Nat.beq K k' with
      | true => σ.rekeys n r
      | false => match hasKey σ.H k', hasKey σ.H K, Nat.ble n k' with
        | false, true, true => (σ.rekey K k').rekeys n r
        | _, _, _ => σ.rekeys n r
    | _ => σ.rekeys n r

section
variable {C : Ctx} {ρ : Nat → Nat} {H : Heap} {w : World} {k k' : Nat}

theorem rn_self : rn k k' k = k' := by simp [rn]
theorem rn_ne {j : Nat} (h : j ≠ k) : rn k k' j = j := by simp [rn, ne_beq h]

theorem rn_rho (hk' : k' ∉ H.keys) {j : Nat} (hj : j ∈ H.keys) : upd ρ k' (ρ k) (rn k k' j) = ρ j := by
  by_cases h : j = k
  · subst h; rw [rn_self, upd_same]
  · rw [rn_ne h, upd_ne]; intro e; subst e; exact hk' hj

theorem keys_ren : (Heap.ren k k' H).keys = H.keys.map (rn k k') := by
  induction H with
  | nil => rfl
  | cons x r ih =>
    obtain ⟨j, b⟩ := x
    show rn k k' j :: (Heap.ren k k' r).keys = rn k k' j :: ((Heap.keys r).map (rn k k'))
    rw [ih]

theorem mem_ren {j : Nat} {b : Bk} : (j, b) ∈ Heap.ren k k' H ↔ ∃ i c, (i, c) ∈ H ∧ j = rn k k' i ∧ b = c.ren k k' := by
  induction H with
  | nil => exact ⟨fun h => (by cases h), fun ⟨_, _, h, _⟩ => (by cases h)⟩
  | cons x r ih =>
    obtain ⟨i, c⟩ := x
    simp only [Heap.ren, List.mem_cons, Prod.mk.injEq]
    constructor
    · rintro (⟨h1, h2⟩ | h)
      · exact ⟨i, c, Or.inl ⟨rfl, rfl⟩, h1, h2⟩
      · obtain ⟨i', c', h1, h2⟩ := ih.1 h
        exact ⟨i', c', Or.inr h1, h2⟩
    · rintro ⟨i', c', ⟨rfl, rfl⟩ | h1, h2, h3⟩
      · exact Or.inl ⟨h2, h3⟩
      · exact Or.inr (ih.2 ⟨i', c', h1, h2, h3⟩)

theorem Ok.ren (hk' : k' ∉ H.keys) {b : Nat} (h : Ok C ρ H w b) : Ok C (upd ρ k' (ρ k)) (Heap.ren k k' H) w b := by
  refine ⟨h.1, h.2.1, ?_⟩
  intro j hj
  rw [keys_ren] at hj
  obtain ⟨i, hi, rfl⟩ := List.mem_map.1 hj
  rw [rn_rho hk' hi]
  exact h.2.2 i hi

theorem VR.ren (hk' : k' ∉ H.keys) {x : AV} {v : Value} (h : VR C ρ H w x v) : VR C (upd ρ k' (ρ k)) (Heap.ren k k' H) w (x.ren k k') v := by
  have hd : ∀ b, Ok C ρ H w b → Ok C (upd ρ k' (ρ k)) (Heap.ren k k' H) w b ∧ w.heap[b]? = w.heap[b]? := fun b h => ⟨h.ren hk', rfl⟩
  have hkey : ∀ j, j ∈ H.keys → rn k k' j ∈ (Heap.ren k k' H).keys := fun j hj => by rw [keys_ren]; exact List.mem_map.2 ⟨j, hj, rfl⟩
  have hrow : ∀ j e t l, (j, Bk.row e t l) ∈ H → (rn k k' j, Bk.row e t l) ∈ Heap.ren k k' H := fun j e t l hj => mem_ren.2 ⟨j, _, hj, rfl, rfl⟩
  refine VR.rec (motive_1 := fun x v _ => VR C (upd ρ k' (ρ k)) (Heap.ren k k' H) w (x.ren k k') v) (motive_2 := fun xs vs _ => VRs C (upd ρ k' (ρ k)) (Heap.ren k k' H) w (AV.rens k k' xs) vs)
    ?_ ?_ ?_ ?_ ?_ ?_ ?_ ?_ ?_ ?_ ?_ ?_ ?_ ?_ ?_ ?_ ?_ ?_ ?_ ?_ ?_ ?_ h
  · intro t x v h; exact .d (RdV.mono hd h)
  · intro j off h
    rw [← rn_rho (ρ := ρ) (k := k) hk' h]
    exact .ptr (hkey j h)
  · intro j i e t l h hi
    rw [← rn_rho (ρ := ρ) (k := k) hk' (mem_keys h)]
    exact .eptr (hrow j e t l h) hi
  · intro j i f o u e t l h hi ho
    rw [← rn_rho (ρ := ρ) (k := k) hk' (mem_keys h)]
    exact .efp (hrow j e t l h) hi ho
  · intro t x b o c e fr hb hc ho h
    exact .dptr (hd b hb).1 hc ho (Rd.mono hd _ _ _ h)
  · intro j off len e t l a cap c fr h hl hc hm hb hs ha
    have e1 := rn_rho (ρ := ρ) (k := k) hk' (mem_keys h)
    exact .own (hrow j e t l h) hl hc hm (by rw [e1]; exact hb) hs (by rw [e1]; exact ha)
  · intro j off len e t l a c fr h hl hm hb hs ha
    have e1 := rn_rho (ρ := ρ) (k := k) hk' (mem_keys h)
    exact .ox (hrow j e t l h) hl hm (by rw [e1]; exact hb) hs (by rw [e1]; exact ha)
  · intro j n h hn
    rw [← rn_rho (ρ := ρ) (k := k) hk' h]
    exact .sv (hkey j h) hn
  · exact .nsl
  · exact .nilp
  · exact .nili
  · exact .nni
  · intro k t x v h; exact .ifc (RdV.mono hd h)
  · intro g first caps vf vc _ _ h1 h2; exact .fn h1 h2
  · intro l h
    rw [← rn_rho (ρ := ρ) (k := k) hk' h]
    exact .yld (hkey l h)
  · intro j h
    rw [← rn_rho (ρ := ρ) (k := k) hk' h]
    exact .mp (hkey j h)
  · intro cells vs _ h1 h; exact .ag h h1
  · intro l vs _ h; exact .tup h
  · exact .und
  · intro v; exact .no
  · exact .nil
  · intro a v as vs _ _ h hs; exact .cons h hs

theorem VRs.ren (hk' : k' ∉ H.keys) : ∀ {xs : List AV} {vs : List Value}, VRs C ρ H w xs vs → VRs C (upd ρ k' (ρ k)) (Heap.ren k k' H) w (AV.rens k k' xs) vs
  | _, _, .nil => .nil
  | _, _, .cons h1 h2 => .cons (h1.ren hk') (VRs.ren hk' h2)

theorem MapR.ren {R R' : AV → Value → Prop} {k k' : Nat} {j : IntKind} (h : ∀ x v, R x v → R' (x.ren k k') v) : ∀ {l : List (Int × AV)} {es : List MapEntry}, MapR R j l es → MapR R' j (renEnt k k' l) es
  | [], [], _ => trivial
  | _ :: _, _ :: _, ⟨h1, h2, h3⟩ => ⟨h1, h _ _ h2, MapR.ren h h3⟩
  | [], _ :: _, h => h.elim
  | _ :: _, [], h => h.elim

theorem look_ren (s : List (Nat × AV)) (t : Nat) : look (renSlots k k' s) t = (look s t).ren k k' := by
  induction s with
  | nil => rfl
  | cons x r ih =>
    obtain ⟨j, a⟩ := x
    simp only [renSlots, look]
    cases Nat.beq j t <;> simp [ih]

theorem SRel.rekey {σ : St} {a : Act} (hs : SRel C ρ σ a w) (hk' : k' ∉ σ.H.keys) : SRel C (upd ρ k' (ρ k)) (σ.rekey k k') a w := by
  have hm := hs.m
  have hd : ∀ b, Ok C ρ σ.H w b → Ok C (upd ρ k' (ρ k)) (Heap.ren k k' σ.H) w b ∧ w.heap[b]? = w.heap[b]? := fun b h => ⟨h.ren hk', rfl⟩
  refine ⟨⟨hm.below, ?_, ?_, ?_, ?_, ?_⟩, fun t => ?_, hs.size, hs.defers.mono hd (Nat.le_refl _)⟩
  · show (Heap.ren k k' σ.H).keys.Nodup
    rw [keys_ren]
    refine List.nodup_iff_pairwise_ne.2 (List.pairwise_map.2 (List.Pairwise.imp_of_mem ?_ (List.nodup_iff_pairwise_ne.1 hm.nodup)))
    intro i j hi hj hne e
    apply hne
    have h1 := rn_rho (ρ := fun x => x) (k := k) hk' hi
    have h2 := rn_rho (ρ := fun x => x) (k := k) hk' hj
    rw [e] at h1
    exact h1.symm.trans h2
  · intro j hj
    have hj' : j ∈ (Heap.ren k k' σ.H).keys := hj
    rw [keys_ren] at hj'
    obtain ⟨i, hi, rfl⟩ := List.mem_map.1 hj'
    by_cases h : i = k
    · subst h; rw [rn_self]; exact Nat.lt_of_lt_of_le (Nat.lt_succ_self _) (Nat.le_max_right _ _)
    · rw [rn_ne h]; exact Nat.lt_of_lt_of_le (hm.lt i hi) (Nat.le_max_left _ _)
  · intro j hj i hi e
    have hj' : j ∈ (Heap.ren k k' σ.H).keys := hj
    have hi' : i ∈ (Heap.ren k k' σ.H).keys := hi
    rw [keys_ren] at hj' hi'
    obtain ⟨j0, hj0, rfl⟩ := List.mem_map.1 hj'
    obtain ⟨i0, hi0, rfl⟩ := List.mem_map.1 hi'
    rw [rn_rho hk' hj0, rn_rho hk' hi0] at e
    rw [hm.inj _ hj0 _ hi0 e]
  · intro j hj
    have hj' : j ∈ (Heap.ren k k' σ.H).keys := hj
    rw [keys_ren] at hj'
    obtain ⟨j0, hj0, rfl⟩ := List.mem_map.1 hj'
    rw [rn_rho hk' hj0]
    exact hm.low _ hj0
  · intro j b hb
    obtain ⟨i, c, h1, rfl, rfl⟩ := mem_ren.1 hb
    rw [rn_rho hk' (mem_keys h1)]
    have hbr := hm.mem i c h1
    cases c with
    | vars e cells =>
      obtain ⟨c, g1, g2, g3⟩ := hbr
      exact ⟨c, g1, g2.ren hk', g3⟩
    | row e t l =>
      obtain ⟨c, g1, g2, g3, g4, g5⟩ := hbr
      exact ⟨c, g1, g2, g3, RdL.mono (fun x cs => Rd.mono hd t x cs) _ _ g4, g5⟩
    | loop r =>
      obtain ⟨fn, tmps, d, g1, g2, g3⟩ := hbr
      exact ⟨fn, tmps, d, g1, g2, fun t => by rw [look_ren]; exact (g3 t).ren hk'⟩
    | dic j l =>
      obtain ⟨es, n, g1, g2⟩ := hbr
      exact ⟨es, n, g1, g2.ren (fun x v h => VR.ren hk' h)⟩
    | any => exact hbr
  · show VR C _ (Heap.ren k k' σ.H) w (look (renSlots k k' σ.slots) t) _
    rw [look_ren]
    exact (hs.slots t).ren hk'

theorem Fr.rekey {n : Nat} (hk' : k' ∉ H.keys) (h1 : n ≤ k') : Fr C n ρ H w (upd ρ k' (ρ k)) (Heap.ren k k' H) w := by
  refine ⟨fun b h => ⟨h.ren hk', rfl⟩, fun j hj hjm => ?_, fun j e t l hj hjm hj' => ⟨l, mem_ren.2 ⟨j, _, hjm, (rn_ne ?_).symm, rfl⟩, Nat.le_refl _, fun c fr hc => ⟨c, fr, hc, rfl⟩⟩, Nat.le_refl _⟩
  rotate_left
  · rintro rfl
    rw [keys_ren] at hj'
    obtain ⟨i, hi, e⟩ := List.mem_map.1 hj'
    by_cases h : i = j
    · subst h; rw [rn_self] at e; subst e; exact hk' hi
    · rw [rn_ne h] at e; exact h e
  rw [keys_ren] at hjm
  obtain ⟨i, hi, rfl⟩ := List.mem_map.1 hjm
  by_cases h : i = k
  · subst h; rw [rn_self] at hj; omega
  · rw [rn_ne h] at hj ⊢
    exact ⟨hi, upd_ne ρ (by omega)⟩

theorem SRel.rekeys {n : Nat} : ∀ (r : List (Nat × Nat)) {ρ : Nat → Nat} {σ : St} {a : Act}, SRel C ρ σ a w → ∃ ρ', SRel C ρ' (σ.rekeys n r) a w ∧ Fr C n ρ σ.H w ρ' (σ.rekeys n r).H w 
  | [], ρ, σ, a, hs => ⟨ρ, hs, Fr.refl _ _ _ _ _⟩
  | (s, k') :: r, ρ, σ, a, hs => by
    simp only [St.rekeys]
    split
    · rename_i K _ _ _
      split
      · exact SRel.rekeys r hs
      · split
        · rename_i h1 h2 h3
          have hk' : k' ∉ σ.H.keys := fun h => by rw [hasKey_iff.2 h] at h1; cases h1
          obtain ⟨ρ', g1, g2⟩ := SRel.rekeys (n := n) r (hs.rekey hk')
          exact ⟨ρ', g1, (Fr.rekey hk' (Nat.le_of_ble_eq_true h3)).trans (Nat.le_refl _) g2⟩
        · exact SRel.rekeys r hs
    · exact SRel.rekeys r hs

end

/-- The variables of a loop, and where they lie: a slot; a row; a slot that owns a row as a whole; the same, perhaps nil still; a variable of one cell. -/
inductive VarL : Type → Type 1 where
  | nil : VarL Unit
  | slot {α : Type} (t : Nat) (ty : Ty) (r : VarL α) : VarL (ty.T × α)
  | row {α : Type} (k : Nat) (e : TypeId) (ty : Ty) (r : VarL α) : VarL (List ty.T × α)
  | app {α : Type} (s k : Nat) (e : TypeId) (ty : Ty) (r : VarL α) : VarL (List ty.T × α)
  | appN {α : Type} (s k : Nat) (e : TypeId) (ty : Ty) (r : VarL α) : VarL (Bool × List ty.T × α)
  | cell {α : Type} (k : Nat) (e : TypeId) (ty : Ty) (r : VarL α) : VarL (ty.T × α)

def slotsV : {α : Type} → VarL α → α → List (Nat × AV)
  | _, .nil, _ => []
  | _, .slot t ty r, (x, i) => (t, .d ty x) :: slotsV r i
  | _, .row _ _ _ r, (_, i) => slotsV r i
  | _, .app s k _ _ r, (l, i) => (s, .own k 0 l.length) :: slotsV r i
  | _, .appN s k _ _ r, (m, l, i) => (s, match m with | true => .nsl | false => .own k 0 l.length) :: slotsV r i
  | _, .cell _ _ _ r, (_, i) => slotsV r i

def heapV : {α : Type} → VarL α → α → Heap
  | _, .nil, _ => []
  | _, .slot _ _ r, (_, i) => heapV r i
  | _, .row k e ty r, (l, i) => (k, .row e ty l) :: heapV r i
  | _, .app _ k e ty r, (l, i) => (k, .row e ty l) :: heapV r i
  | _, .appN _ k e ty r, (m, l, i) => match m with | true => heapV r i | false => (k, .row e ty l) :: heapV r i
  | _, .cell k e ty r, (x, i) => (k, .vars e [.d ty x]) :: heapV r i

/-- The variables, read off a state. -/
def extV (σ : St) (n : Nat) : {α : Type} → VarL α → (α → Prop) → Prop
  | _, .nil, K => K ()
  | _, .slot t ty r, K => match toD ty (look σ.slots t) with
    | some x => extV σ n r (fun i => K (x, i))
    | none => False
  | _, .row k e ty r, K => match σ.H.find k with
    | some (.row e' u l) => match Nat.beq e' e && Nat.blt k n, (u.sl).as (.sl ty) l with
      | true, some l => extV σ n r (fun i => K (l, i))
      | _, _ => False
    | _ => False
  | _, .app s k e ty r, K => match look σ.slots s with
    | .own k' 0 len => match σ.H.find k with
      | some (.row e' u l) => match Nat.beq k' k && Nat.beq e' e && Nat.blt k n, (u.sl).as (.sl ty) l with
        | true, some (l : List ty.T) => len = l.length ∧ extV σ n r (fun i => K (l, i))
        | _, _ => False
      | _ => False
    | _ => False
  | _, .appN s k e ty r, K => match look σ.slots s with
    | .nsl => extV σ n r (fun i => K (true, [], i))
    | .own k' 0 len => match σ.H.find k with
      | some (.row e' u l) => match Nat.beq k' k && Nat.beq e' e && Nat.blt k n, (u.sl).as (.sl ty) l with
        | true, some (l : List ty.T) => len = l.length ∧ extV σ n r (fun i => K (false, l, i))
        | _, _ => False
      | _ => False
    | _ => False
  | _, .cell k e ty r, K => match σ.H.find k with
    | some (.vars e' [a]) => match Nat.beq e' e && Nat.blt k n, toD ty a with
      | true, some x => extV σ n r (fun i => K (x, i))
      | _, _ => False
    | _ => False

def keysV : {α : Type} → VarL α → List (Nat × Nat)
  | _, .nil => []
  | _, .slot _ _ r => keysV r
  | _, .row _ _ _ r => keysV r
  | _, .app s k _ _ r => (s, k) :: keysV r
  | _, .appN s k _ _ r => (s, k) :: keysV r
  | _, .cell _ _ _ r => keysV r

/-- What is told of a loop: its variables, and what stays. -/
structure Lp (ι : Type) where
  vs : VarL ι
  kept : List (Nat × AV)
  keptH : Heap
  next : Nat
  n : Nat

def Lp.inv {ι : Type} (L : Lp ι) (i : ι) : St := { slots := slotsV L.vs i ++ L.kept, H := heapV L.vs i ++ L.keptH, next := L.next, n := L.n }

def Lp.head {ι : Type} (L : Lp ι) (n : Nat) (N : ι → Prop) (σ : St) : Prop :=
  extV (σ.rekeys n (keysV L.vs)) L.next L.vs fun i =>
    (Nat.beq L.n σ.n && nodupB (heapV L.vs i ++ L.keptH).keys) = true ∧ slotsLe (hasKey (heapV L.vs i ++ L.keptH)) (σ.rekeys n (keysV L.vs)).slots L.kept ∧
    heapLe (hasKey (heapV L.vs i ++ L.keptH)) (σ.rekeys n (keysV L.vs)).H L.next L.keptH ∧ N i

def Lp.round {ι : Type} (L : Lp ι) (n : Nat) (N : ι → Prop) (Q : Exit → St → Prop) : Exit → St → Prop :=
  seqQ (fun σ _ => L.head n N σ) Q

section
variable {P : Program} {G : World → Prop}

theorem rekeys_n (n : Nat) : ∀ (r : List (Nat × Nat)) (σ : St), (σ.rekeys n r).n = σ.n
  | [], _ => rfl
  | (s, k') :: r, σ => by
    simp only [St.rekeys]
    split
    · split
      · exact rekeys_n n r σ
      · split
        · rw [rekeys_n n r]; rfl
        · exact rekeys_n n r σ
    · exact rekeys_n n r σ

theorem slotsLe_append {p : Nat → Bool} {s : List (Nat × AV)} : ∀ {a b : List (Nat × AV)}, slotsLe p s a → slotsLe p s b → slotsLe p s (a ++ b)
  | [], _, _, h => h
  | _ :: _, _, h1, h2 => ⟨h1.1, slotsLe_append h1.2 h2⟩

theorem heapLe_append {p : Nat → Bool} {H : Heap} {n : Nat} : ∀ {a b : Heap}, heapLe p H n a → heapLe p H n b → heapLe p H n (a ++ b)
  | [], _, _, h => h
  | _ :: _, _, h1, h2 => ⟨h1.1, h1.2.1, heapLe_append h1.2.2 h2⟩

theorem AVle_toD {p : Nat → Bool} {t : Ty} {a : AV} {x : t.T} (h : toD t a = some x) : AVle p (.d t x) a := by
  simp only [AVle]
  cases a with
  | d u y => simp only [toD] at h; simp only [dLe, h]
  | nsl => simp only [toD] at h; simp only [dLe, h]
  | ag l => simp only [dLe, h]
  | _ => simp [toD] at h

theorem as_self {t u : Ty} {x : t.T} {y : u.T} (h : t.as u x = some y) : t = u ∧ HEq x y := by
  obtain ⟨e, he⟩ := Ty.as_some h
  subst e
  exact ⟨rfl, heq_of_eq he⟩

theorem BkLe_row {p : Nat → Bool} {e : TypeId} {t u : Ty} {l : List t.T} {l' : List u.T} (h : (u.sl).as (.sl t) l' = some l) : BkLe p (.row e t l) (.row e u l') := by
  simp only [BkLe, h]
  exact ⟨trivial, rfl⟩

theorem extV_sound {σ : St} {n : Nat} : ∀ {α : Type} (vs : VarL α) (K : α → Prop), extV σ n vs K →
    ∃ i, K i ∧ ∀ p : Nat → Bool, (∀ x ∈ heapV vs i, p x.1 = true) → slotsLe p σ.slots (slotsV vs i) ∧ heapLe p σ.H n (heapV vs i)
  | _, .nil, K, h => ⟨(), h, fun _ _ => ⟨trivial, trivial⟩⟩
  | _, .slot t ty r, K, h => by
    simp only [extV] at h
    split at h
    · rename_i x hx
      obtain ⟨i, h1, h2⟩ := extV_sound r _ h
      exact ⟨(x, i), h1, fun p hp => ⟨⟨AVle_toD hx, (h2 p hp).1⟩, (h2 p hp).2⟩⟩
    · exact h.elim
  | _, .row k e ty r, K, h => by
    simp only [extV] at h
    split at h
    · rename_i e' u l hf
      split at h
      · rename_i l' hb hl
        obtain ⟨i, h1, h2⟩ := extV_sound r _ h
        rw [Bool.and_eq_true] at hb
        have := beq_true hb.1
        subst this
        refine ⟨(l', i), h1, fun p hp => ?_⟩
        have h3 := h2 p (fun x hx => hp x (List.mem_cons.2 (Or.inr hx)))
        refine ⟨h3.1, ?_, hb.2, h3.2⟩
        rw [hf]; exact BkLe_row hl
      · exact h.elim
    · exact h.elim
  | _, .app s k e ty r, K, h => by
    simp only [extV] at h
    split at h
    · rename_i k' len hs
      split at h
      · rename_i e' u l hf
        split at h
        · rename_i l' hb hl
          obtain ⟨hlen, h⟩ := h
          obtain ⟨i, h1, h2⟩ := extV_sound r _ h
          simp only [Bool.and_eq_true] at hb
          obtain ⟨⟨hb1, hb2⟩, hb3⟩ := hb
          have := beq_true hb1
          have := beq_true hb2
          subst k'; subst e'; subst len
          refine ⟨(l', i), h1, fun p hp => ?_⟩
          have h3 := h2 p (fun x hx => hp x (List.mem_cons.2 (Or.inr hx)))
          refine ⟨⟨?_, h3.1⟩, ?_, hb3, h3.2⟩
          · rw [hs]; exact ⟨rfl, rfl, rfl, hp _ (List.mem_cons.2 (Or.inl rfl))⟩
          · rw [hf]; exact BkLe_row hl
        · exact h.elim
      · exact h.elim
    · exact h.elim
  | _, .appN s k e ty r, K, h => by
    simp only [extV] at h
    split at h
    · rename_i hs
      obtain ⟨i, h1, h2⟩ := extV_sound r _ h
      refine ⟨(true, [], i), h1, fun p hp => ?_⟩
      have h3 := h2 p hp
      refine ⟨⟨?_, h3.1⟩, h3.2⟩
      show AVle p .nsl (look σ.slots s)
      rw [hs]; trivial
    · rename_i k' len hs
      split at h
      · rename_i e' u l hf
        split at h
        · rename_i l' hb hl
          obtain ⟨hlen, h⟩ := h
          obtain ⟨i, h1, h2⟩ := extV_sound r _ h
          simp only [Bool.and_eq_true] at hb
          obtain ⟨⟨hb1, hb2⟩, hb3⟩ := hb
          have := beq_true hb1
          have := beq_true hb2
          subst k'; subst e'; subst len
          refine ⟨(false, l', i), h1, fun p hp => ?_⟩
          have h3 := h2 p (fun x hx => hp x (List.mem_cons.2 (Or.inr hx)))
          refine ⟨⟨?_, h3.1⟩, ?_, hb3, h3.2⟩
          · show AVle p (.own k 0 l'.length) (look σ.slots s)
            rw [hs]; exact ⟨rfl, rfl, rfl, hp _ (List.mem_cons.2 (Or.inl rfl))⟩
          · rw [hf]; exact BkLe_row hl
        · exact h.elim
      · exact h.elim
    · exact h.elim
  | _, .cell k e ty r, K, h => by
    simp only [extV] at h
    split at h
    · rename_i e' a hf
      split at h
      · rename_i x hb hx
        obtain ⟨i, h1, h2⟩ := extV_sound r _ h
        rw [Bool.and_eq_true] at hb
        have := beq_true hb.1
        subst this
        refine ⟨(x, i), h1, fun p hp => ?_⟩
        have h3 := h2 p (fun y hy => hp y (List.mem_cons.2 (Or.inr hy)))
        refine ⟨h3.1, ?_, hb.2, h3.2⟩
        rw [hf]
        exact ⟨rfl, AVle_toD hx, trivial⟩
      · exact h.elim
    · exact h.elim

theorem Lp.head_sound {C : Ctx} {ι : Type} {L : Lp ι} {n : Nat} {N : ι → Prop} {σ : St} (h : L.head n N σ) {ρ : Nat → Nat} {a : Act} {w : World} (hs : SRel C ρ σ a w) :
    ∃ i ρ', N i ∧ SRel C ρ' (L.inv i) a w ∧ Fr C n ρ σ.H w ρ' (L.inv i).H w := by
  unfold Lp.head at h
  obtain ⟨i, ⟨h1, h2, h3, h4⟩, h5⟩ := extV_sound L.vs _ h
  obtain ⟨h6, h7⟩ := h5 (hasKey (heapV L.vs i ++ L.keptH)) (fun x hx => hasKey_iff.2 (mem_keys (b := x.2) (List.mem_append.2 (Or.inl hx))))
  obtain ⟨ρ', g1, g2⟩ := SRel.rekeys (n := n) (keysV L.vs) hs
  rw [Bool.and_eq_true] at h1
  have hle : Le (σ.rekeys n (keysV L.vs)) (L.inv i) := ⟨by rw [rekeys_n]; exact beq_true h1.1, slotsLe_append h6 h2, heapLe_append h7 h3, h1.2⟩
  obtain ⟨g3, g4⟩ := g1.weaken hle
  exact ⟨i, ρ', h4, g3, g2.trans (Nat.le_refl _) (g4 _)⟩

/-- A loop, by what holds at the head of every round. -/
theorem LoopP.intro (hG : GMono G) (hmix : P.follows .mixedOrders = true) {Γ : Cons} (hΓ : Γ.ok P G) (d : Nat) {rd : Option Nat} {ι : Type} {c : Code} {σ : St} {Q : Exit → St → Prop} (L : Lp ι) (n : Nat) (hσ : (Nat.ble σ.next n && Nat.ble n L.next) = true) (I : ι → Prop) (μ : ι → Nat)
    (h0 : L.head n I σ) (round : ∀ i, I i → exec P G Γ (callD P G Γ d) rd c (L.inv i) (L.round n (fun i' => I i' ∧ μ i' < μ i) Q)) : LoopP P G rd c σ Q := by
  refine ⟨fun C hC ρ a w hs rnd hrd => ?_⟩
  rw [Bool.and_eq_true] at hσ
  have hσ' := Nat.le_of_ble_eq_true hσ.1
  have hni := Nat.le_of_ble_eq_true hσ.2
  obtain ⟨i0, ρ0, k1, k2, k3⟩ := L.head_sound h0 hs
  have k3' : Fr C σ.next ρ σ.H w ρ0 (L.inv i0).H w := Fr.trans (Nat.le_refl _) (Fr.refl _ _ _ _ _) ⟨k3.data, fun k hk => k3.keys k (by omega), fun k e t l hk => k3.rows k e t l (by omega), k3.size⟩
  refine wp_loop_ix (fun i a' w' => ∃ ρ', I i ∧ SRel C ρ' (L.inv i) a' w' ∧ Fr C σ.next ρ σ.H w ρ' (L.inv i).H w') μ ?_ i0 a w ⟨ρ0, k1, k2, k3'⟩
  rintro i a' w' ⟨ρ', hI, h1, h2⟩
  refine wpIn_mono (exec_sound hG hmix hΓ (callD_sat hG hmix hΓ d) c _ _ (round i hI) C hC ρ' a' w' h1 rnd (hrd.fr h2 (show σ.next ≤ L.next by omega))) ?_
  rintro e a'' w'' ⟨ρ'', σ'', h3, h4, h5, h6⟩
  have h6' : L.next ≤ σ''.next := h6
  have h7 := h2.trans (n' := (L.inv i).next) (show σ.next ≤ L.next by omega) h5
  cases e with
  | normal =>
    obtain ⟨i', ρ3, ⟨g1, g2⟩, g3, g4⟩ := L.head_sound h3 h4
    exact ⟨i', ⟨ρ3, g1, g3, h7.trans hσ' g4⟩, g2⟩
  | _ => exact ⟨ρ'', σ'', h3, h4, h7, by omega⟩

end

/-- What is to be shown of a body. -/
def Con.goal (P : Program) (G : World → Prop) (Γ : Cons) (d : Nat) (fn : Func) (c : Con) (x : c.args.T) : Prop :=
  exec P G Γ (callD P G Γ d) none (fn.body.getD .skip) { slots := numbered 0 (argAVs c.args x), H := [], next := 0, n := fn.ntmps } (retQ P fn (finQ c.res (c.fn x)))

theorem con_of_goal {P : Program} {G : World → Prop} (hG : GMono G) (hmix : P.follows .mixedOrders = true) {Γ : Cons} (hΓ : Γ.ok P G) {f : FuncId} {fn : Func} (hf : P.funcs[f]? = some fn) (hb : fn.body.isSome = true) (he : enters P f = true)
    (c : Con) (hce : c.err = false) (d : Nat) (hn : ∀ x, Nat.ble (argAVs c.args x).length fn.ntmps = true) (hex : ∀ x : c.args.T, Wf c.args x → c.pre x → c.goal P G Γ d fn x) : c.ok P G f := by
  obtain ⟨code, hc⟩ := Option.isSome_iff_exists.1 hb
  refine con_of_exec hG hmix hΓ hf hc he c hce d hn (fun x h1 h2 => ?_)
  have := hex x h1 h2
  unfold Con.goal at this
  rw [hc] at this
  exact this

/-- A datum, with its type said. -/
def asT (α : Type) (x : α) : α := x

/-- Short names for what is printed often. -/
def len {α : Type} (l : List α) : Int := (l.length : Int)
def gi {α : Type} (l : List α) (i : Int) (d : α) : α := l.getD i.toNat d
def si {α : Type} (l : List α) (i : Int) (x : α) : List α := l.set i.toNat x
def win {α : Type} (l : List α) (a b : Int) : List α := (l.drop a.toNat).take (b.toNat - a.toNat)
def w64 (x : Int) : Int := IntKind.wrap .i64 x
def wu64 (x : Int) : Int := IntKind.wrap .u64 x
def wu32 (x : Int) : Int := IntKind.wrap .u32 x
def wu8 (x : Int) : Int := IntKind.wrap .u8 x
def w32 (x : Int) : Int := IntKind.wrap .i32 x
def inb (a b : Int) : Prop := 0 ≤ a ∧ a < b
def inc (a b : Int) : Prop := 0 ≤ a ∧ a ≤ b

/-- The code of a function, and a part of it. -/
def codeOf (fn : Func) : Code := fn.body.getD .skip

/-- Parts of a body. -/
def subC : Code → List Nat → Code
  | c, [] => c
  | .seq a _, 0 :: r => subC a r
  | .seq _ b, _ :: r => subC b r
  | .cond _ a _, 0 :: r => subC a r
  | .cond _ _ b, _ :: r => subC b r
  | .block _ a, _ :: r => subC a r
  | .loop a, _ :: r => subC a r
  | .scope a, _ :: r => subC a r
  | .rangeFunc _ _ a _, 0 :: r => subC a r
  | .rangeFunc _ _ _ b, _ :: r => subC b r
  | _, _ => .skip

end Go.Vg
