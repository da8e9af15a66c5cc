/-
  An evaluator of Go code over plain data, proved sound against the model. Own work; no condition.
-/
import Derived.Test.YteidbklnpgfldaaGreatDoorClE5
set_option linter.unusedVariables false
set_option linter.unusedSimpArgs false
namespace Go.Vg
open Go Go.RowKit
inductive Loc where
 | s (t : Nat)
 | l (k t : Nat)
 | c (k o : Nat)
def St.at (σ : St) : Loc → AV
 | .s t => acT σ.slots t
 | .l k t => match σ.H.find k with
  | some (.loop r) => acT r.slots t
  | _ => .no
 | .c k o => match σ.H.find k with
  | some (.vars _ l) => l.getD o .no
  | _ => .no
def St.set (σ : St) (x : AV) : Loc → St
 | .s t => { σ with slots := (t, x) :: del σ.slots t }
 | .l k t => match σ.H.find k with
  | some (.loop r) => { σ with H := σ.H.up k (.loop { r with slots := (t, x) :: del r.slots t }) }
  | _ => σ
 | .c k o => match σ.H.find k with
  | some (.vars e l) => { σ with H := σ.H.up k (.vars e (l.set o x)) }
  | _ => σ
inductive VarQ : Type → Type 1 where
 | nil : VarQ Unit
 | dat {α : Type} (p : Loc) (ty : Ty) (r : VarQ α) : VarQ (ty.T × α)
 | row {α : Type} (k : Nat) (ty : Ty) (r : VarQ α) : VarQ (List ty.T × α)
 | app {α : Type} (p : Loc) (k : Nat) (e : TypeId) (ty : Ty) (r : VarQ α) : VarQ (List ty.T × α)
 | appN {α : Type} (p : Loc) (k : Nat) (e : TypeId) (ty : Ty) (r : VarQ α) : VarQ (Bool × List ty.T × α)
 | cells {α : Type} (k : Nat) (ty : Ty) (r : VarQ α) : VarQ (ty.T × α)
 | forget {α : Type} (p : Loc) (r : VarQ α) : VarQ α
 | ptrN {α : Type} (p : Loc) (k o : Nat) (r : VarQ α) : VarQ (Bool × α)
 | alt {α : Type} (p : Loc) (l : List Int) (r : VarQ α) : VarQ (Int × α)
 | altl {α : Type} (p : Loc) (t : Ty) (l : List Nat) (r : VarQ α) : VarQ (List t.T × α)
 | fix {α : Type} (v : α) (r : VarQ α) : VarQ α
 | newv {α : Type} (p : Loc) (k : Nat) (e : TypeId) (ty : Ty) (r : VarQ α) : VarQ (ty.T × α)
 | dict {α : Type} (k : Nat) (kk : KK) (ty : Ty) (r : VarQ α) : VarQ (List (kk.ty.T × ty.T) × α)
 | nilG {α β : Type} (ps : List Loc) (a : VarQ β) (r : VarQ α) : VarQ (Bool × β × α)
def St.setNil (σ : St) : List Loc → St
 | [] => σ
 | p :: ps => (σ.set .nsl p).setNil ps
def St.allNil (σ : St) : List Loc → Bool
 | [] => true
 | p :: ps => match σ.at p with
  | .nsl => σ.allNil ps
  | _ => false
def VarQ.dv : {α : Type} → VarQ α → α
 | _, .nil => ()
 | _, .dat _ ty r => (ty.dflt, r.dv)
 | _, .row _ _ r => ([], r.dv)
 | _, .app _ _ _ _ r => ([], r.dv)
 | _, .appN _ _ _ _ r => (true, [], r.dv)
 | _, .cells _ ty r => (ty.dflt, r.dv)
 | _, .forget _ r => r.dv
 | _, .ptrN _ _ _ r => (true, r.dv)
 | _, .alt _ _ r => ((0 : Int), r.dv)
 | _, .altl _ _ _ r => ([], r.dv)
 | _, .fix v _ => v
 | _, .newv _ _ _ ty r => (ty.dflt, r.dv)
 | _, .dict _ _ _ r => ([], r.dv)
 | _, .nilG _ a r => (true, a.dv, r.dv)
def ayS : {α : Type} → VarQ α → α → St → St
 | _, .nil, _, σ => σ
 | _, .dat p ty r, i, σ => ayS r i.2 (σ.set (.d ty i.1) p)
 | _, .row k ty r, i, σ => ayS r i.2 (match σ.H.find k with
  | some (.row e _ _) => { σ with H := σ.H.up k (.row e ty i.1) }
  | _ => σ)
 | _, .app p k e ty r, i, σ => ayS r i.2 { (σ.set (.own k 0 i.1.length) p) with H := (k, .row e ty i.1) :: (σ.set (.own k 0 i.1.length) p).H }
 | _, .appN p k e ty r, i, σ => match i.1 with
  | true => ayS r i.2.2 (σ.set .nsl p)
  | false => ayS r i.2.2 { (σ.set (.own k 0 i.2.1.length) p) with H := (k, .row e ty i.2.1) :: (σ.set (.own k 0 i.2.1.length) p).H }
 | _, .cells k ty r, i, σ => ayS r i.2 (match σ.H.find k with
  | some (.vars e _) => { σ with H := σ.H.up k (.vars e (unpack ty i.1)) }
  | _ => σ)
 | _, .forget p r, i, σ => ayS r i (σ.set .no p)
 | _, .ptrN p k o r, i, σ => match i.1 with
  | true => ayS r i.2 (σ.set .nilp p)
  | false => ayS r i.2 (σ.set (.ptr k o) p)
 | _, .alt p _ r, i, σ => ayS r i.2 (σ.set (.d (.int .i64) i.1) p)
 | _, .altl p t _ r, i, σ => ayS r i.2 (σ.set (.d (.sl t) i.1) p)
 | _, .fix _ r, i, σ => ayS r i σ
 | _, .newv p k e ty r, i, σ => ayS r i.2 { (σ.set (.ptr k 0) p) with H := (k, .vars e (unpack ty i.1)) :: (σ.set (.ptr k 0) p).H }
 | _, .dict k kk ty r, i, σ => ayS r i.2 { σ with H := σ.H.up k (.dicv kk ty i.1) }
 | _, .nilG ps a r, i, σ => match i.1 with
  | true => ayS r i.2.2 (σ.setNil ps)
  | false => ayS r i.2.2 (ayS a i.2.1 σ)
def aDm : List Int → Int → (Int → Prop) → Prop
 | [], _, _ => False
 | a :: l, x, K => al1 (x == a) (K a) (aDm l x K)
theorem aoV : ∀ {l : List Int} {x : Int} {K : Int → Prop}, aDm l x K → K x
 | [], _, _, h => h.elim
 | a :: l, x, K, h => by
  simp only [aDm] at h
  cases hb : x == a with
  | true => rw [hb] at h; rw [eq_of_beq hb]; exact h
  | false => rw [hb] at h; exact aoV h
def axV {T : Type} (d : T) : Nat → List T → List T
 | 0, _ => []
 | n + 1, l => l.headD d :: axV d n l.tail
theorem avR {T : Type} (d : T) : ∀ {n : Nat} {l : List T}, l.length = n → axV d n l = l
 | 0, [], _ => rfl
 | n + 1, x :: l, h => by
  show x :: axV d n l = _
  rw [avR d (by simpa using h)]
def aDl {T : Type} (d : T) : List Nat → List T → (List T → Prop) → Prop
 | [], _, _ => False
 | k :: ks, l, K => al1 (Nat.beq l.length k) (K (axV d k l)) (aDl d ks l K)
theorem aoU {T : Type} (d : T) : ∀ {ks : List Nat} {l : List T} {K : List T → Prop}, aDl d ks l K → K l
 | [], _, _, h => h.elim
 | k :: ks, l, K, h => by
  simp only [aDl] at h
  cases hb : Nat.beq l.length k with
  | true => rw [hb] at h; rw [← avR d (aaD hb)]; exact h
  | false => rw [hb] at h; exact aoU d h
def acU : {α : Type} → VarQ α → α → (α → Prop) → Prop
 | _, .nil, _, K => K ()
 | _, .dat _ _ r, i, K => acU r i.2 fun j => K (i.1, j)
 | _, .row _ _ r, i, K => acU r i.2 fun j => K (i.1, j)
 | _, .app _ _ _ _ r, i, K => acU r i.2 fun j => K (i.1, j)
 | _, .appN _ _ _ _ r, i, K => al1 i.1 (acU r i.2.2 fun j => K (true, i.2.1, j)) (acU r i.2.2 fun j => K (false, i.2.1, j))
 | _, .cells _ _ r, i, K => acU r i.2 fun j => K (i.1, j)
 | _, .forget _ r, i, K => acU r i K
 | _, .ptrN _ _ _ r, i, K => al1 i.1 (acU r i.2 fun j => K (true, j)) (acU r i.2 fun j => K (false, j))
 | _, .alt _ l r, i, K => aDm l i.1 fun x => acU r i.2 fun j => K (x, j)
 | _, .altl _ t l r, i, K => aDl t.dflt l i.1 fun x => acU r i.2 fun j => K (x, j)
 | _, .fix v r, i, K => i = v ∧ acU r v K
 | _, .newv _ _ _ _ r, i, K => acU r i.2 fun j => K (i.1, j)
 | _, .dict _ _ _ r, i, K => acU r i.2 fun j => K (i.1, j)
 | _, .nilG _ a r, i, K => al1 i.1 (acU r i.2.2 fun j => K (true, i.2.1, j)) (acU a i.2.1 fun x => acU r i.2.2 fun j => K (false, x, j))
theorem aaN : ∀ {α : Type} (vs : VarQ α) (i : α) (K : α → Prop), acU vs i K → K i
 | _, .nil, _, _, h => h
 | _, .dat _ _ r, i, _, h => aaN r i.2 _ h
 | _, .row _ _ r, i, _, h => aaN r i.2 _ h
 | _, .app _ _ _ _ r, i, _, h => aaN r i.2 _ h
 | _, .appN _ _ _ _ r, i, K, h => by
  obtain ⟨b, l, j⟩ := i
  cases b with
  | true => exact aaN r j _ h
  | false => exact aaN r j _ h
 | _, .cells _ _ r, i, _, h => aaN r i.2 _ h
 | _, .forget _ r, i, _, h => aaN r i _ h
 | _, .ptrN _ _ _ r, i, K, h => by
  obtain ⟨b, j⟩ := i
  cases b with
  | true => exact aaN r j _ h
  | false => exact aaN r j _ h
 | _, .alt _ l r, i, K, h => aaN r i.2 (fun j => K (i.1, j)) (aoV (K := fun x => acU r i.2 fun j => K (x, j)) h)
 | _, .altl _ t l r, i, K, h => aaN r i.2 (fun j => K (i.1, j)) (aoU t.dflt (K := fun x => acU r i.2 fun j => K (x, j)) h)
 | _, .fix v r, i, K, h => by
  simp only [acU] at h
  obtain ⟨e, h⟩ := h
  rw [e]; exact aaN r v K h
 | _, .newv _ _ _ _ r, i, _, h => aaN r i.2 _ h
 | _, .dict _ _ _ r, i, _, h => aaN r i.2 _ h
 | _, .nilG _ a r, i, K, h => by
  obtain ⟨b, x, j⟩ := i
  cases b with
  | true => exact aaN r j _ h
  | false => exact aaN r j (fun j => K (false, x, j)) (aaN a x (fun x => acU r j fun j => K (false, x, j)) h)
def alV (σ : St) : {α : Type} → VarQ α → (α → Prop) → Prop
 | _, .nil, K => K ()
 | _, .dat p ty r, K => match toD ty (σ.at p) with
  | some x => alV σ r (fun i => K (x, i))
  | none => False
 | _, .row k ty r, K => match σ.H.find k with
  | some (.row _ u l) => match (u.sl).as (.sl ty) l with
   | some l => alV σ r (fun i => K (l, i))
   | none => False
  | _ => False
 | _, .app _ k _ ty r, K => match σ.H.find k with
  | some (.row _ u l) => match (u.sl).as (.sl ty) l with
   | some l => alV σ r (fun i => K (l, i))
   | none => False
  | _ => False
 | _, .appN p k _ ty r, K => match σ.at p with
  | .nsl => alV σ r (fun i => K (true, [], i))
  | _ => match σ.H.find k with
   | some (.row _ u l) => match (u.sl).as (.sl ty) l with
    | some l => alV σ r (fun i => K (false, l, i))
    | none => False
   | _ => False
 | _, .cells k ty r, K => match σ.H.find k with
  | some (.vars _ l) => match pack ty l with
   | some (x, []) => alV σ r (fun i => K (x, i))
   | _ => False
  | _ => False
 | _, .forget _ r, K => alV σ r K
 | _, .ptrN p _ _ r, K => match σ.at p with
  | .nilp => alV σ r (fun i => K (true, i))
  | .ptr _ _ => alV σ r (fun i => K (false, i))
  | _ => False
 | _, .alt p _ r, K => match toD (.int .i64) (σ.at p) with
  | some x => alV σ r (fun i => K (x, i))
  | none => False
 | _, .altl p t _ r, K => match toD (.sl t) (σ.at p) with
  | some x => alV σ r (fun i => K (x, i))
  | none => False
 | _, .fix _ r, K => alV σ r K
 | _, .newv _ k _ ty r, K => match σ.H.find k with
  | some (.vars _ l) => match pack ty l with
   | some (x, []) => alV σ r (fun i => K (x, i))
   | _ => False
  | _ => False
 | _, .dict k kk ty r, K => match σ.H.find k with
  | some (.dicv kk' ty' l) => match (Ty.sl (.pair kk'.ty ty')).as (.sl (.pair kk.ty ty)) l with
   | some l => alV σ r (fun i => K (l, i))
   | none => False
  | some (.dic _ []) => alV σ r (fun i => K ([], i))
  | _ => False
 | _, .nilG ps a r, K => match σ.allNil ps with
  | true => alV σ r (fun i => K (true, a.dv, i))
  | false => alV σ a (fun x => alV σ r (fun i => K (false, x, i)))
theorem aa7 {σ : St} : ∀ {α : Type} (vs : VarQ α) (K : α → Prop), alV σ vs K → ∃ i, K i
 | _, .nil, _, h => ⟨(), h⟩
 | _, .dat p ty r, _, h => by
  simp only [alV] at h
  split at h
  ·obtain ⟨i, h⟩ := aa7 r _ h; exact ⟨_, h⟩
  ·exact h.elim
 | _, .row k ty r, _, h => by
  simp only [alV] at h
  split at h
  ·split at h
   ·obtain ⟨i, h⟩ := aa7 r _ h; exact ⟨_, h⟩
   ·exact h.elim
  ·exact h.elim
 | _, .app _ k _ ty r, _, h => by
  simp only [alV] at h
  split at h
  ·split at h
   ·obtain ⟨i, h⟩ := aa7 r _ h; exact ⟨_, h⟩
   ·exact h.elim
  ·exact h.elim
 | _, .appN p k _ ty r, _, h => by
  simp only [alV] at h
  split at h
  ·obtain ⟨i, h⟩ := aa7 r _ h; exact ⟨_, h⟩
  ·split at h
   ·split at h
    ·obtain ⟨i, h⟩ := aa7 r _ h; exact ⟨_, h⟩
    ·exact h.elim
   ·exact h.elim
 | _, .cells k ty r, _, h => by
  simp only [alV] at h
  split at h
  ·split at h
   ·obtain ⟨i, h⟩ := aa7 r _ h; exact ⟨_, h⟩
   ·exact h.elim
  ·exact h.elim
 | _, .forget _ r, _, h => aa7 r _ h
 | _, .ptrN p _ _ r, _, h => by
  simp only [alV] at h
  split at h
  ·obtain ⟨i, h⟩ := aa7 r _ h; exact ⟨_, h⟩
  ·obtain ⟨i, h⟩ := aa7 r _ h; exact ⟨_, h⟩
  ·exact h.elim
 | _, .alt p _ r, _, h => by
  simp only [alV] at h
  split at h
  ·obtain ⟨i, h⟩ := aa7 r _ h; exact ⟨_, h⟩
  ·exact h.elim
 | _, .altl p _ _ r, _, h => by
  simp only [alV] at h
  split at h
  ·obtain ⟨i, h⟩ := aa7 r _ h; exact ⟨_, h⟩
  ·exact h.elim
 | _, .fix _ r, _, h => aa7 r _ h
 | _, .newv _ k _ ty r, _, h => by
  simp only [alV] at h
  split at h
  ·split at h
   ·obtain ⟨i, h⟩ := aa7 r _ h; exact ⟨_, h⟩
   ·exact h.elim
  ·exact h.elim
 | _, .dict k kk ty r, _, h => by
  simp only [alV] at h
  split at h
  ·split at h
   ·obtain ⟨i, h⟩ := aa7 r _ h; exact ⟨_, h⟩
   ·exact h.elim
  ·obtain ⟨i, h⟩ := aa7 r _ h; exact ⟨_, h⟩
  ·exact h.elim
 | _, .nilG ps a r, _, h => by
  simp only [alV] at h
  split at h
  ·obtain ⟨i, h⟩ := aa7 r _ h; exact ⟨_, h⟩
  ·obtain ⟨x, h⟩ := aa7 a _ h
   obtain ⟨i, h⟩ := aa7 r _ h; exact ⟨_, h⟩
def ahH : {α : Type} → VarQ α → List (Loc × Nat)
 | _, .nil => []
 | _, .dat _ _ r => ahH r
 | _, .row _ _ r => ahH r
 | _, .app p k _ _ r => (p, k) :: ahH r
 | _, .appN p k _ _ r => (p, k) :: ahH r
 | _, .cells _ _ r => ahH r
 | _, .forget _ r => ahH r
 | _, .ptrN _ _ _ r => ahH r
 | _, .alt _ _ r => ahH r
 | _, .altl _ _ _ r => ahH r
 | _, .fix _ r => ahH r
 | _, .newv p k _ _ r => (p, k) :: ahH r
 | _, .dict _ _ _ r => ahH r
 | _, .nilG _ a r => ahH a ++ ahH r
def St.rekeyL (n : Nat) (σ : St) : List (Loc × Nat) → St
 | [] => σ
 | (p, k') :: r => match σ.at p with
  | .own K _ _ => match Nat.beq K k' with
   | true => σ.rekeyL n r
   | false => match abE σ.H k', abE σ.H K, Nat.ble n k' with
    | false, true, true => (σ.rekey K k').rekeyL n r
    | _, _, _ => σ.rekeyL n r
  | .ptr K _ => match Nat.beq K k' with
   | true => σ.rekeyL n r
   | false => match abE σ.H k', abE σ.H K, Nat.ble n k' with
    | false, true, true => (σ.rekey K k').rekeyL n r
    | _, _, _ => σ.rekeyL n r
  | _ => σ.rekeyL n r
theorem SRel.rekeyL {C : Ctx} {w : World} {n : Nat} : ∀ (r : List (Loc × Nat)) {ρ : Nat → Nat} {σ : St} {a : Act}, SRel C ρ σ a w → ∃ ρ', SRel C ρ' (σ.rekeyL n r) a w ∧ Fr C n ρ σ.H w ρ' (σ.rekeyL n r).H w
 | [], ρ, σ, a, hs => ⟨ρ, hs, Fr.refl _ _ _ _ _⟩
 | (s, k') :: r, ρ, σ, a, hs => by
  simp only [St.rekeyL]
  split
  ·rename_i K _ _ _
   split
   ·exact SRel.rekeyL r hs
   ·split
    ·rename_i h1 h2 h3
     have hk' : k' ∉ σ.H.keys := fun h => by rw [hasKey_iff.2 h] at h1; cases h1
     obtain ⟨ρ', g1, g2⟩ := SRel.rekeyL (n := n) r (hs.rekey hk')
     exact ⟨ρ', g1, (Fr.rekey hk' (Nat.le_of_ble_eq_true h3)).trans (zj _) g2⟩
    ·exact SRel.rekeyL r hs
  ·rename_i K _ _
   split
   ·exact SRel.rekeyL r hs
   ·split
    ·rename_i h1 h2 h3
     have hk' : k' ∉ σ.H.keys := fun h => by rw [hasKey_iff.2 h] at h1; cases h1
     obtain ⟨ρ', g1, g2⟩ := SRel.rekeyL (n := n) r (hs.rekey hk')
     exact ⟨ρ', g1, (Fr.rekey hk' (Nat.le_of_ble_eq_true h3)).trans (zj _) g2⟩
    ·exact SRel.rekeyL r hs
  ·exact SRel.rekeyL r hs
def ahM : {α : Type} → VarQ α → List Loc
 | _, .nil => []
 | _, .dat p _ r => p :: ahM r
 | _, .row _ _ r => ahM r
 | _, .app _ _ _ _ r => ahM r
 | _, .appN _ _ _ _ r => ahM r
 | _, .cells _ _ r => ahM r
 | _, .forget _ r => ahM r
 | _, .ptrN _ _ _ r => ahM r
 | _, .alt p _ r => p :: ahM r
 | _, .altl p _ _ r => p :: ahM r
 | _, .fix _ r => ahM r
 | _, .newv _ _ _ _ r => ahM r
 | _, .dict _ _ _ r => ahM r
 | _, .nilG _ a r => ahM a ++ ahM r
def St.thawQ (σ : St) : List Loc → St
 | [] => σ
 | p :: r => match σ.at p with
  | .own k _ _ => (σ.thaw k).thawQ r
  | .ox k _ _ => (σ.thaw k).thawQ r
  | _ => σ.thawQ r
theorem St.thawQ_sound {C : Ctx} {ρ : Nat → Nat} {a : Act} {w : World} : ∀ (l : List Loc) {σ : St}, SRel C ρ σ a w → SRel C ρ (σ.thawQ l) a w ∧ ∀ n, Fr C n ρ σ.H w ρ (σ.thawQ l).H w
 | [], σ, h => ⟨h, fun _ => Fr.refl _ _ _ _ _⟩
 | p :: r, σ, h => by
  have one : ∀ k : Nat, SRel C ρ ((σ.thaw k).thawQ r) a w ∧ ∀ n, Fr C n ρ σ.H w ρ ((σ.thaw k).thawQ r).H w := by
   intro k
   obtain ⟨h1, h2, h3⟩ := St.thaw_sound h k
   obtain ⟨h4, h5⟩ := St.thawQ_sound r h1
   refine ⟨h4, fun n => ?_⟩
   have h6 : Fr C n ρ σ.H w ρ (σ.thaw k).H w := by
    unfold St.thaw
    split
    ·rename_i e t l hf; exact (h.m.thaw (Heap.find_mem hf)).2.2 n
    ·exact Fr.refl _ _ _ _ _
   exact h6.trans (zj _) (h5 n)
  simp only [St.thawQ]
  split
  ·exact one _
  ·exact one _
  ·exact St.thawQ_sound r h
def St.seen (σ : St) (n : Nat) (ds : List Loc) (ks : List (Loc × Nat)) : St := (σ.thawQ ds).rekeyL n ks
structure LSpec where
 tag : Nat
 ι : Type
 vs : VarQ ι
 ks : List Nat
 kh : List Nat
 fresh : Nat
def aQK : List AV → Nat
 | [] => 0
 | a :: r => match a with
  | .nsl => aQK r + 1
  | .nilp => aQK r + 1
  | _ => aQK r
def aH3 : List (Nat × AV) → Nat
 | [] => 0
 | (_, a) :: r => match a with
  | .nsl => aH3 r + 1
  | .nilp => aH3 r + 1
  | _ => aH3 r
def aLs : Heap → Nat
 | [] => 0
 | (_, b) :: r => match b with
  | .vars _ l => aLs r + aQK l
  | .loop q => aLs r + aH3 q.slots
  | _ => aLs r
def St.key (σ : St) : Nat := σ.next * 1024 + (aH3 σ.slots + aLs σ.H)
abbrev LTab := List (Nat × Nat × Nat × LSpec)
def LTab.find : LTab → Nat → Nat → Nat → Option LSpec
 | [], _, _, _ => none
 | (g, q, m, s) :: r, f, p, n => match Nat.beq g f && (Nat.beq q p && Nat.beq m n) with | true => some s | false => LTab.find r f p n
def aRy (l : List Nat) (t : Nat) : Bool := match l with | [] => false | x :: r => match Nat.beq x t with | true => true | false => aRy r t
def aOn (ks : List Nat) : List (Nat × AV) → List (Nat × AV)
 | [] => []
 | (t, a) :: r => match aRy ks t with | true => (t, a) :: aOn ks r | false => aOn ks r
def aOo (ks : List Nat) : Heap → Heap
 | [] => []
 | (t, a) :: r => match aRy ks t with | true => (t, a) :: aOo ks r | false => aOo ks r
structure Lq (ι : Type) where
 vs : VarQ ι
 base : St
def aF3 (s : LSpec) (σ : St) : Lq s.ι := { vs := s.vs, base := { slots := aOn s.ks σ.slots, H := aOo s.kh σ.H, next := σ.next + s.fresh, n := σ.n } }
def Lq.inv {ι : Type} (L : Lq ι) (i : ι) : St := { (ayS L.vs i L.base) with next := L.base.next }
def Lq.head {ι : Type} (L : Lq ι) (n : Nat) (N : ι → Prop) (σ : St) : Prop :=
 alV (σ.seen n (ahM L.vs) (ahH L.vs)) L.vs fun i =>
  (Nat.beq (L.inv i).n (σ.seen n (ahM L.vs) (ahH L.vs)).n && amN (L.inv i).H.keys) = true ∧ anJ (abE (L.inv i).H) (σ.seen n (ahM L.vs) (ahH L.vs)).slots (L.inv i).slots ∧
  aAu (abE (L.inv i).H) (σ.seen n (ahM L.vs) (ahH L.vs)).H L.base.next (L.inv i).H ∧ N i
def Lq.round {ι : Type} (L : Lq ι) (n : Nat) (N : ι → Prop) (Q : Exit → St → Prop) : Exit → St → Prop :=
 aPf (fun σ _ => L.head n N σ) Q
theorem Lq.head_sound {C : Ctx} {ι : Type} {L : Lq ι} {n : Nat} {N : ι → Prop} {σ : St} (h : L.head n N σ) {ρ : Nat → Nat} {a : Act} {w : World} (hs : SRel C ρ σ a w) :
  ∃ i ρ', N i ∧ SRel C ρ' (L.inv i) a w ∧ Fr C n ρ σ.H w ρ' (L.inv i).H w := by
 unfold Lq.head at h
 obtain ⟨i, h1, h2, h3, h4⟩ := aa7 L.vs _ h
 obtain ⟨hs1, hf1⟩ := St.thawQ_sound (ahM L.vs) hs
 obtain ⟨ρ', g1, g2⟩ := SRel.rekeyL (n := n) (ahH L.vs) hs1
 rw [zl] at h1
 have hle : Le (σ.seen n (ahM L.vs) (ahH L.vs)) (L.inv i) := ⟨aaD h1.1, h2, h3, h1.2⟩
 obtain ⟨g3, g4⟩ := g1.weaken hle
 exact ⟨i, ρ', h4, g3, ((hf1 n).trans (zj _) g2).trans (zj _) (g4 _)⟩
def aLE {ι : Type} (r : ι → (ι → Prop) → Prop) : Nat → ι → Prop
 | 0, _ => False
 | n + 1, i => r i (aLE r n)
structure LoopH (tag : Nat) {ι : Type} (h : (ι → Prop) → Prop) (r : ι → (ι → Prop) → Prop) : Prop where
 ex : ∃ n, h (aLE r n)
structure JoinH (tag : Nat) {ι : Type} (h : (ι → Prop) → Prop) (r : ι → Prop) : Prop where
 run : h r
def uS : LSpec := ⟨0, Unit, .nil, [], [], 0⟩
def LTab.wants : LTab → Nat → Nat → Bool
 | [], _, _ => false
 | (g, q, m, _) :: r, f, p => match Nat.beq g f && (Nat.beq q p && Nat.beq m 999999999) with | true => true | false => LTab.wants r f p
def LTab.unr : LTab → Nat → Nat → Bool
 | [], _, _ => false
 | (g, q, m, _) :: r, f, p => match Nat.beq g f && (Nat.beq q p && Nat.beq m 888888888) with | true => true | false => LTab.unr r f p
def LTab.hoi : LTab → Nat → Nat → Bool
 | [], _, _ => false
 | (g, q, m, _) :: r, f, p => match Nat.beq g f && (Nat.beq q p && Nat.beq m 777777777) with | true => true | false => LTab.hoi r f p
def LTab.pru : LTab → Nat → Nat → Option Bool
 | [], _, _ => none
 | (g, q, m, _) :: r, f, p => match Nat.beq g f && (Nat.beq q p && Nat.beq m 666666666) with
  | true => some true
  | false => match Nat.beq g f && (Nat.beq q p && Nat.beq m 555555555) with | true => some false | false => LTab.pru r f p
def aLv (X : St → (Exit → St → Prop) → Prop) (Q : Exit → St → Prop) : Nat → St → Prop
 | 0, _ => False
 | n + 1, σ => au9 σ fun σ => X σ (aPf (fun σ' _ => aLv X Q n σ') Q)
structure Stuck (f p : Nat) (c : Code) (σ : St) : Prop where
 no : False
def aeF (P : Program) (G : World → Prop) (Γ : Cons) (call : abN) (Λ : LTab) (rd : Option Nat) (f0 : Nat) : Nat → Code → St → (Exit → St → Prop) → Prop
 | _, .skip, σ, Q => Q .normal σ
 | p, .region _ ops draw, σ, Q => match draw with
  | false => match Λ.hoi f0 p with
   | true => aLO P Γ call ops.toList σ (ay9 Q)
   | false => aa3 P Γ call ops ops.toList σ (ay9 Q)
  | true => match Λ.hoi f0 p with
   | true => aFz P Γ call ops σ (ay9 Q)
   | false => agR P Γ call ops (σ.forDraw (aEz Γ) ops.toList) (ay9 Q)
 | p, .seq x y, σ, Q => match Λ.find f0 p σ.key with
  | some s => JoinH s.tag (fun N => aeF P G Γ call Λ rd f0 (2 * p) x σ (aPf (fun σ' _ => (aF3 s σ).head σ.next N σ') Q)) (fun i => acU s.vs i fun i => aeF P G Γ call Λ rd f0 (2 * p + 1) y ((aF3 s σ).inv i) Q)
  | none => match Λ.wants f0 p with
   | true => Stuck f0 p (.seq x y) σ
   | false => aeF P G Γ call Λ rd f0 (2 * p) x σ (aPf (aeF P G Γ call Λ rd f0 (2 * p + 1) y) Q)
 | p, .cond c x y, σ, Q => match σ.eval c with
  | .d .bool b => match Λ.pru f0 p with
   | some true => b = true ∧ aeF P G Γ call Λ rd f0 (2 * p) x σ Q
   | some false => b = false ∧ aeF P G Γ call Λ rd f0 (2 * p + 1) y σ Q
   | none => al1 b (aeF P G Γ call Λ rd f0 (2 * p) x σ Q) (aeF P G Γ call Λ rd f0 (2 * p + 1) y σ Q)
  | _ => False
 | p, .block id c, σ, Q => aeF P G Γ call Λ rd f0 (2 * p) c σ (atE id Q)
 | p, .loop c, σ, Q => match Λ.find f0 p σ.key with
  | some s => LoopH s.tag (fun N => (aF3 s σ).head σ.next N σ) (fun i N => acU s.vs i fun i => aeF P G Γ call Λ rd f0 (2 * p) c ((aF3 s σ).inv i) ((aF3 s σ).round σ.next N Q))
  | none => match Λ.unr f0 p with
   | true => aLv (aeF P G Γ call Λ rd f0 (2 * p) c) Q 64 σ
   | false => Stuck f0 p c σ
 | _, .exit id, σ, Q => Q (.exit id) σ
 | _, .ret, σ, Q => Q .ret σ
 | _, .label _, σ, Q => Q .normal σ
 | p, .scope c, σ, Q => aeF P G Γ call Λ rd f0 (2 * p) c σ (aMk Q)
 | _, .rangeFunc g ps assign body, σ, Q => match σ.eval g with
  | .fn f first caps => match rd with
   | none => call (.fn f) (first ++ .yld σ.next :: caps) (σ.lay σ.next ps assign body) (σ.next + 1) (akV σ σ.next Q)
   | some l0 => match σ.H.find l0 with
    | some (.loop _) => call (.fn f) (first ++ .yld σ.next :: caps) (σ.lay σ.next ps assign body) (σ.next + 1) (akV σ σ.next Q)
    | _ => False
  | _ => False
 | _, _, _, _ => False
def aD6 (P : Program) (G : World → Prop) (Γ : Cons) (call : abN) (Λ : LTab) (f0 : Nat) (c : Code) (σ : St) (Q : Exit → St → Prop) : Prop :=
 au9 σ fun σ => match akF c with
 | some d => aOE (aeF P G Γ call Λ none f0) (fun l => aeF P G Γ call Λ (some l) (1000000 + l) 5) P Γ call d σ Q
 | none => aeF P G Γ call Λ none f0 1 c σ Q
def ahC (n : Nat) : Nat → List AV → Bool
 | 0, _ => true
 | _ + 1, [] => false
 | d + 1, x :: r => match x with
  | .ptr k _ => Nat.ble n k || ahC n d r
  | .eptr k _ => Nat.ble n k || ahC n d r
  | .efp k _ _ => Nat.ble n k || ahC n d r
  | .own k _ _ => Nat.ble n k || ahC n d r
  | .ox k _ _ => Nat.ble n k || ahC n d r
  | .sv k _ _ _ => Nat.ble n k || ahC n d r
  | .yld k => Nat.ble n k || ahC n d r
  | .mp k => Nat.ble n k || ahC n d r
  | .fn _ a b => ahC n d a || (ahC n d b || ahC n d r)
  | .ag l => ahC n d l || ahC n d r
  | .tup l => ahC n d l || ahC n d r
  | _ => ahC n d r
def aAt (n : Nat) : Heap → Bool
 | [] => false
 | (k, b) :: r => (match Nat.ble n k with
  | true => false
  | false => match b with
   | .vars _ cells => ahC n 10000 cells
   | .dic _ l => ahC n 10000 (l.map (·.2))
   | .loop q => ahC n 10000 (q.slots.map (·.2))
   | _ => false) || aAt n r
def leaveE (n : Nat) (K : AV → Heap → Nat → Prop) (r : AV) (H : Heap) (m : Nat) : Prop :=
 match alK r with
 | some _ => K r H m
 | none => match ahC n 10000 [r] || aAt n H with
  | true => K r H m
  | false => match alK (r.map (fun k => Nat.blt k n) aeG) with
   | none => K (r.map (fun k => Nat.blt k n) aeG) (H.keep (fun k => Nat.blt k n) aeG) m
   | some _ => K r H m
def aNn (t : Tgt) (n : Nat) (K : AV → Heap → Nat → Prop) : AV → Heap → Nat → Prop := match t with
 | .fn _ => leaveE n K
 | .yld _ => K
theorem CallEnd.leaveE {C : Ctx} {ρ : Nat → Nat} {H : Heap} {next : Nat} {w : World} {K : AV → Heap → Nat → Prop} {e : Ending} {w' : World} (h : CallEnd C ρ H next w (leaveE next K) e w') : CallEnd C ρ H next w K e w' := by
 obtain ⟨ρ', r, H', n', hk, h3, h5, h6, hend⟩ := h
 unfold Go.Vg.leaveE at hk
 split at hk
 ·exact ⟨ρ', r, H', n', hk, h3, h5, h6, hend⟩
 ·rename_i hp
  split at hk
  ·exact ⟨ρ', r, H', n', hk, h3, h5, h6, hend⟩
  ·split at hk
   ·rename_i hp2
    obtain ⟨g1, g2, g3⟩ := h3.keepP (fun k => Nat.blt k next)
    rcases hend with ⟨v, k1, k2, k3⟩ | ⟨x, ch, k1, k2, k3⟩
    ·exact ⟨ρ', _, _, n', hk, g1, h5.trans h6 (g3 _), h6, Or.inl ⟨v, k1, hp2, g2 _ _ k3⟩⟩
    ·subst k1; cases hp
   ·exact ⟨ρ', r, H', n', hk, h3, h5, h6, hend⟩
theorem aIg {P : Program} {G : World → Prop} {call : abN} (h : CallSat P G call) : CallSat P G (fun t args H n K => call t args H n (aNn t n K)) :=
  ⟨fun f args H next K hk C ρ w vs hC hm hv => by
    obtain ⟨h1, h2⟩ := h.fn f args H next _ hk C ρ w vs hC hm hv
    exact ⟨h1, h2.mono fun e w' he => he.leaveE⟩,
   fun l args H next K hk C ρ w vs hC hm hv => h.yld l args H next K hk C ρ w vs hC hm hv⟩
def aNA (P : Program) (G : World → Prop) (Γ : Cons) (Λ : LTab) (call : abN) : abN :=
 fun t args H n K => aA9 (aD6 P G Γ call Λ) (fun l => aeF P G Γ call Λ (some l) (1000000 + l)) P t args H n (aNn t n K)
def aJp (P : Program) (G : World → Prop) (Γ : Cons) (Λ : LTab) : Nat → abN
 | 0 => fun _ _ _ _ _ => False
 | d + 1 => aNA P G Γ Λ (aJp P G Γ Λ d)
section
variable {P : Program} {G : World → Prop}
theorem aa8 (hG : acS G) (hmix : P.follows .mixedOrders = true) {Γ : Cons} (hΓ : Γ.ok P G) {call : abN} (hcall : CallSat P G call) {Λ : LTab} {rd : Option Nat} {f0 : Nat} : ∀ (c : Code) (p : Nat) (σ : St) (Q : Exit → St → Prop), aeF P G Γ call Λ rd f0 p c σ Q → Sat P G rd c σ Q
  | .skip, p, σ, Q, h => fun C hC ρ a w hs rnd hrd => wpIn_skip ⟨ρ, σ, h, hs, Fr.refl _ _ _ _ _, zj _⟩
  | .region id ops draw, p, σ, Q, h => fun C hC ρ a w hs rnd hrd => by
    cases draw with
    | false =>
     simp only [aeF] at h
     split at h
     · exact wpIn_region_list (asM hG hC hΓ hcall _ hs h (fun a' w' hr => hr) (fun ch a' w' hr => hr) rnd)
     · exact wpIn_region_list (ac8 hG hC hΓ hcall _ hs h (fun a' w' hr => hr) (fun ch a' w' hr => hr) rnd)
    | true =>
     simp only [aeF] at h
     split at h
     · exact wpIn_region_any hmix (asN hG hC hΓ hcall hs h (fun a' w' hr => hr) (fun ch a' w' hr => hr) rnd)
     · obtain ⟨h1, h2, h3⟩ := St.thaws_sound (aiO (aEz Γ) σ ops.toList ops.toList) hs
       exact wpIn_region_any hmix (akY hG hC hΓ hcall h1 h (fun a' w' hr => hr.trans h2 (xN h3.symm)) (fun ch a' w' hr => hr.trans h2 (xN h3.symm)) rnd)
  | .seq x y, p, σ, Q, h => fun C hC ρ a w hs rnd hrd => by
    simp only [aeF] at h
    split at h
    · rename_i s _
      refine wpIn_seq (wpIn_mono (aa8 hG hmix hΓ hcall x (2 * p) σ _ h.run C hC ρ a w hs rnd hrd) ?_)
      rintro e a' w' ⟨ρ', σ', h1, h2, h3, h4⟩
      have hnx : ∀ i, ((aF3 s σ).inv i).next = σ.next + s.fresh := fun _ => rfl
      cases e with
      | normal =>
        obtain ⟨i, ρ3, g1, g3, g4⟩ := Lq.head_sound h1 h2
        have h7 := h3.trans (zj _) g4
        exact wpIn_mono (aa8 hG hmix hΓ hcall y (2 * p + 1) _ Q (aaN s.vs i _ g1) C hC ρ3 a' w' g3 rnd (hrd.fr h7 (by rw [hnx]; exact yB _ _)))
          (fun e a'' w'' hr => hr.trans h7 (by rw [hnx]; exact yB _ _))
      | _ => exact ⟨ρ', σ', h1, h2, h3, h4⟩
    · split at h
      · exact h.no.elim
      · refine wpIn_seq (wpIn_mono (aa8 hG hmix hΓ hcall x (2 * p) σ _ h C hC ρ a w hs rnd hrd) ?_)
        rintro e a' w' ⟨ρ', σ', h1, h2, h3, h4⟩
        cases e with
        | normal => exact wpIn_mono (aa8 hG hmix hΓ hcall y (2 * p + 1) σ' Q h1 C hC ρ' a' w' h2 rnd (hrd.fr h3 h4)) (fun e a'' w'' hr => hr.trans h3 h4)
        | _ => exact ⟨ρ', σ', h1, h2, h3, h4⟩
  | .cond c x y, p, σ, Q, h => fun C hC ρ a w hs rnd hrd => by
    simp only [aeF] at h
    split at h
    · rename_i b hb
      have hv := hs.eval c
      rw [hb] at hv
      have hbv := adX hv
      have main : al1 b (aeF P G Γ call Λ rd f0 (2 * p) x σ Q) (aeF P G Γ call Λ rd f0 (2 * p + 1) y σ Q) := by
        split at h
        · rw [h.1]; exact h.2
        · rw [h.1]; exact h.2
        · exact h
      cases b with
      | true => exact wpIn_cond_true hbv (aa8 hG hmix hΓ hcall x (2 * p) σ Q main C hC ρ a w hs rnd hrd)
      | false => exact wpIn_cond_false hbv (aa8 hG hmix hΓ hcall y (2 * p + 1) σ Q main C hC ρ a w hs rnd hrd)
    · exact h.elim
  | .block id c, p, σ, Q, h => fun C hC ρ a w hs rnd hrd => by
    refine wpIn_block (wpIn_mono (aa8 hG hmix hΓ hcall c (2 * p) σ _ h C hC ρ a w hs rnd hrd) ?_)
    rintro e a' w' ⟨ρ', σ', h1, h2, h3, h4⟩
    cases e with
    | exit j =>
      simp only [Exit.inBlock]
      cases hb : Nat.beq j id with
      | true => simp only [atE, hb] at h1; rw [if_pos (aaD hb)]; exact ⟨ρ', σ', h1, h2, h3, h4⟩
      | false => simp only [atE, hb] at h1; rw [if_neg (ab6 hb)]; exact ⟨ρ', σ', h1, h2, h3, h4⟩
    | _ => exact ⟨ρ', σ', h1, h2, h3, h4⟩
  | .loop c, p, σ, Q, h => by
    simp only [aeF] at h
    split at h
    · rename_i s hs0
      obtain ⟨m, hm⟩ := h.ex
      intro C hC ρ a w hs rnd hrd
      obtain ⟨i0, ρ0, k1, k2, k3⟩ := Lq.head_sound hm hs
      have hnx : ∀ i, ((aF3 s σ).inv i).next = σ.next + s.fresh := fun _ => rfl
      refine anC (ι := Nat × s.ι) (fun i a' w' => ∃ ρ', aLE (fun i N => acU s.vs i fun i => aeF P G Γ call Λ rd f0 (2 * p) c ((aF3 s σ).inv i) ((aF3 s σ).round σ.next N Q)) i.1 i.2 ∧ SRel C ρ' ((aF3 s σ).inv i.2) a' w' ∧ Fr C σ.next ρ σ.H w ρ' ((aF3 s σ).inv i.2).H w') (fun i => i.1) ?_ (m, i0) a w ⟨ρ0, k1, k2, k3⟩
      rintro ⟨j, i⟩ a' w' ⟨ρ', hI, h1, h2⟩
      cases j with
      | zero => exact hI.elim
      | succ j =>
        refine wpIn_mono (aa8 hG hmix hΓ hcall c (2 * p) _ _ (aaN s.vs i _ hI) C hC ρ' a' w' h1 rnd (hrd.fr h2 (by rw [hnx]; exact yB _ _))) ?_
        rintro e a'' w'' ⟨ρ'', σ'', h3, h4, h5, h6⟩
        rw [hnx] at h6
        have h7 := h2.trans (n' := ((aF3 s σ).inv i).next) (by rw [hnx]; exact yB _ _) h5
        cases e with
        | normal =>
          obtain ⟨i', ρ3, g1, g3, g4⟩ := Lq.head_sound h3 h4
          exact ⟨(j, i'), ⟨ρ3, g1, g3, h7.trans (zj _) g4⟩, yp _⟩
        | _ => exact ⟨ρ'', σ'', h3, h4, h7, by omega⟩
    · split at h
      · intro C hC ρ a w hs rnd hrd
        refine anC (ι := Nat) (fun m a' w' => ∃ ρ' σ', aLv (aeF P G Γ call Λ rd f0 (2 * p) c) Q m σ' ∧ SRel C ρ' σ' a' w' ∧ Fr C σ.next ρ σ.H w ρ' σ'.H w' ∧ σ.next ≤ σ'.next) (fun m => m) ?_ 64 a w ⟨ρ, σ, h, hs, Fr.refl _ _ _ _ _, zj _⟩
        rintro m a' w' ⟨ρ', σ', hI, h1, h2, h3⟩
        cases m with
        | zero => exact hI.elim
        | succ m =>
          simp only [aLv, ahF] at hI
          refine wpIn_mono (aa8 hG hmix hΓ hcall c (2 * p) _ _ hI C hC ρ' a' w' h1 rnd (hrd.fr h2 h3)) ?_
          rintro e a'' w'' ⟨ρ'', σ'', h4, h5, h6, h7⟩
          have h8 := h2.trans (n' := σ'.next) h3 h6
          cases e with
          | normal => exact ⟨m, ⟨ρ'', σ'', h4, h5, h8, zt h3 h7⟩, yp _⟩
          | _ => exact ⟨ρ'', σ'', h4, h5, h8, zt h3 h7⟩
      · exact h.no.elim
  | .exit id, p, σ, Q, h => fun C hC ρ a w hs rnd hrd => wpIn_exit ⟨ρ, σ, h, hs, Fr.refl _ _ _ _ _, zj _⟩
  | .ret, p, σ, Q, h => fun C hC ρ a w hs rnd hrd => wpIn_ret ⟨ρ, σ, h, hs, Fr.refl _ _ _ _ _, zj _⟩
  | .label l, p, σ, Q, h => fun C hC ρ a w hs rnd hrd => wpIn_label ⟨ρ, σ, h, hs, Fr.refl _ _ _ _ _, zj _⟩
  | .scope c, p, σ, Q, h => fun C hC ρ a w hs rnd hrd => by
    refine anF (wpIn_mono (aa8 hG hmix hΓ hcall c (2 * p) σ _ h C hC ρ a w hs rnd hrd) ?_)
    rintro e a' w' ⟨ρ', σ', h1, h2, h3, h4⟩
    cases e with
    | goto l => exact h1.elim
    | _ => exact ⟨ρ', σ', h1, h2, h3, h4⟩
  | .rangeFunc g ps assign body, p, σ, Q, h => fun C hC ρ a w hs rnd hrd => by
    simp only [aeF] at h
    split at h
    · rename_i f first caps hg
      have hv := hs.eval g
      rw [hg] at hv
      generalize hvg : a.eval g = vg at hv
      cases hv with
      | @fn _ _ _ vf vc h1 h2 =>
        have hKn : σ.next ∉ σ.H.keys := fun h => absurd (hs.m.lt _ h) (xp _)
        -- the call of the iterator, and what lies behind it
        have main : ∀ (fn : FuncId) (W0 : World) (mark : List Deferred) (dd : Nat), (mark ≠ [] → C.mks = none) → Below w.heap.size w W0 → (∀ x ∈ mark, ∃ d, x = { target := .collected d, args := #[] } ∧ mark = [x] ∧ w.heap.size ≤ d ∧ W0.heap[d]? = some (.deferred (some []))) →
            (Instr.enterLoop fn a.tmps ps assign body rnd).run P w = .ok (W0.heap.size, mark) (W0.alloc (.loop { state := .ready, pending := none, fn := fn, tmps := a.tmps, params := ps, assign := assign, body := body, defers := dd })) →
            call (.fn f) (first ++ .yld σ.next :: caps) (σ.lay σ.next ps assign body) (σ.next + 1) (akV σ σ.next Q) →
            ∃ (l : Nat) (mark : List Deferred) (w₁ : World) (d : Deferred) (w₁' : World) (f : FuncId) (args : Array Value) (w₂ : World),
              (Instr.enterLoop fn a.tmps ps assign body (aaW rnd).round).run P w = .ok (l, mark) w₁ ∧
              (resolve a.eval (rangeCall g l) 0).run P w₁ = .ok d w₁' ∧
              (∀ f', Target.leads P w₁' d.target d.args = some f' → (aaW rnd).fn f') ∧
              (invoke d.target d.args).run P w₁' = .ok (.enter f args) w₂ ∧
              ((aaW rnd).depth.isSome = true → 1 ≤ 0) ∧
              CallsIn (aaW rnd) (0 - 1) P f args w₂ (rangePost (aaW rnd) 0 P l (fun e a' w' => Reach C σ ρ w (Q e) a' w') { a with defers := mark ++ a.defers }) := by
          intro fn W0 mark dd hmkn hb0 hmark hent hc
          obtain ⟨hm0, hext0⟩ := hs.m.grow hb0
          have hlt0 : ∀ k ∈ σ.H.keys, ρ k < w.heap.size := fun k hk => hs.m.key_lt hk
          obtain ⟨hm1, hext1⟩ := MRel.allocO (K := σ.next) (blk := .loop { st := .ready, pend := none, slots := σ.slots, n := σ.n, ps := ps, assign := assign, body := body })
            (ob := .loop { state := .ready, pending := none, fn := fn, tmps := a.tmps, params := ps, assign := assign, body := body, defers := dd }) (hm0.mono (yR σ.next)) hKn (yp _)
            (fun ρ' H' w' he hw' => ⟨fn, a.tmps, dd, hw', hs.size, fun t => (hext0.trans he).vr (hs.slots t)⟩)
          have hext := hext0.trans hext1
          generalize hW1 : W0.alloc (.loop { state := .ready, pending := none, fn := fn, tmps := a.tmps, params := ps, assign := assign, body := body, defers := dd }) = W1 at *
          have hρ : upd ρ σ.next W0.heap.size σ.next = W0.heap.size := aaZ _ _ _
          have hargs : VRs C (upd ρ σ.next W0.heap.size) (σ.lay σ.next ps assign body) W1 (first ++ .yld σ.next :: caps) (vf ++ .func (.yield W0.heap.size) #[] #[] :: vc) := by
            refine (h1.imp (fun _ _ => hext.vr)).append (.cons ?_ (h2.imp (fun _ _ => hext.vr)))
            have : VR C (upd ρ σ.next W0.heap.size) (σ.lay σ.next ps assign body) W1 (.yld σ.next) (.func (.yield (upd ρ σ.next W0.heap.size σ.next)) #[] #[]) := .yld zG
            rw [hρ] at this
            exact this
          obtain ⟨hen, hcl⟩ := hcall.fn _ _ _ _ _ hc C _ W1 _ hC hm1 hargs
          refine ⟨W0.heap.size, mark, W1, { target := .fn (.func f) ⟨vc⟩, args := ⟨vf⟩ ++ #[.func (.yield W0.heap.size) #[] #[]] }, W1, f, (⟨vf⟩ ++ #[.func (.yield W0.heap.size) #[] #[]]) ++ ⟨vc⟩, W1, hent, ?_, fun _ _ => trivial, ?_, (fun h => by cases h), ?_⟩
          · simp only [resolve, hvg]
            simp [go_sem]
          · have := akE (w := W1) hen ((⟨vf⟩ ++ #[.func (.yield W0.heap.size) #[] #[]]) ++ ⟨vc⟩)
            simp only [invoke]
            exact this
          · refine callsIn_wideR.2 ?_
            rw [show (((⟨vf⟩ : Array Value) ++ #[.func (.yield W0.heap.size) #[] #[]]) ++ (⟨vc⟩ : Array Value)) = ⟨vf ++ .func (.yield W0.heap.size) #[] #[] :: vc⟩ by apply Array.ext'; simp]
            refine hcl.mono ?_
            rintro e W2 ⟨ρ2, r, H2, n2, hK, hm2, hfr2, hn2, hend2⟩
            rcases hend2 with ⟨v, rfl, hpn, hv2⟩ | ⟨x2, ch2, rfl, hc2, rfl⟩
            case inr => exact hK.elim
            simp only [akV, hpn] at hK
            split at hK
            · rename_i rr hfind
              obtain ⟨fn', tmps', d', g1, g2, g3⟩ := hm2.mem _ _ (Heap.find_mem hfind)
              obtain ⟨hk2, hr2⟩ := hfr2.keys σ.next (yp _) (aaE (Heap.find_mem hfind))
              rw [hρ] at hr2
              have hnb : rr.st ≠ .busy := by intro e; rw [e] at hK; exact hK
              obtain ⟨ex, hex, hQ⟩ : ∃ ex, akB rr.pend = some ex ∧ Q ex { slots := aa1 (abE (H2.up σ.next (.loop { rr with st := .exhausted }))) aeG σ.slots, H := H2.up σ.next (.loop { rr with st := .exhausted }), next := n2, n := σ.n } := by
                split at hK
                · exact hK.elim
                · rename_i e _ hje; exact ⟨_, ‹_›, hK⟩
                · exact hK.elim
              obtain ⟨hm3, hext3⟩ := hm2.turn hfind .exhausted rr.pend g1 g2 g3
              have hend := run_endLoop (P := P) g1 (by simpa using hnb)
              rw [hr2] at hend hm3 hext3
              generalize hW3 : W2.putObj W0.heap.size (.loop { state := .exhausted, pending := rr.pend, fn := fn', tmps := tmps', params := rr.ps, assign := rr.assign, body := rr.body, defers := d' }) = W3 at *
              have hfr3 : Fr C σ.next ρ σ.H w ρ2 (H2.up σ.next (.loop { rr with st := .exhausted })) W3 := by
                have f1 : Fr C σ.next ρ σ.H w (upd ρ σ.next W0.heap.size) (σ.lay σ.next ps assign body) W1 := hext.fr (fun k hk hm => by
                  rcases zq.1 hm with rfl | hm
                  · exact absurd hk (xp _)
                  · exact hm)
                refine (f1.trans (yR _) hfr2).trans (n' := n2) zb (hext3.fr (fun k _ hm => by rwa [Heap.keys_up] at hm))
              have hsr : SRel C ρ2 { slots := aa1 (abE (H2.up σ.next (.loop { rr with st := .exhausted }))) aeG σ.slots, H := H2.up σ.next (.loop { rr with st := .exhausted }), next := n2, n := σ.n } { a with defers := mark ++ a.defers } W3 := by
                have base := hs.keepTo (p := abE (H2.up σ.next (.loop { rr with st := .exhausted }))) (f := aeG) hm3 (fun x v hx =>
                  VR.map hfr3.data (fun k hk hp => ⟨hasKey_iff.1 hp, (hfr3.keys k (hs.m.lt k hk) (hasKey_iff.1 hp)).2⟩) (fun k e t l hk hp => hfr3.rows k e t l (hs.m.lt k (aaE hk)) hk (hasKey_iff.1 hp)) (fun _ _ _ _ _ _ => .no) hx) hfr3.data hfr3.size
                refine ⟨base.m, base.slots, base.size, ?_⟩
                cases mark with
                | nil => exact base.defers
                | cons x xs =>
                  obtain ⟨d, rfl, hxs, hd1, hd2⟩ := hmark x zG
                  injection hxs with _ hxs
                  subst hxs
                  have hlow : C.w0.heap.size ≤ d := zt hs.m.below.size hd1
                  have hdlt := ac1 hd2
                  have hok1 : Ok C (upd ρ σ.next W0.heap.size) (σ.lay σ.next ps assign body) W1 d := by
                    refine ⟨Or.inr hlow, by rw [← hW1]; simp; omega, fun k hk => ?_⟩
                    rcases zq.1 hk with rfl | hk
                    · rw [hρ]; omega
                    · have hk' : k ∈ σ.H.keys := hk
                      have hne : k ≠ σ.next := fun e => hKn (by rw [← e]; exact hk')
                      rw [adH _ hne]
                      have := hlt0 k hk'; omega
                  obtain ⟨hok2, hbl2⟩ := hfr2.data d hok1
                  obtain ⟨hok3, hbl3⟩ := hext3.data d hok2
                  refine Dfs.push (hmkn zf) hs.defers hfr3.data hfr3.size hd1 hok3.2.2 ?_
                  rw [hbl3, hbl2, ← hW1, Below.heap_alloc _ _ _ hdlt]
                  exact hd2
              cases hp : rr.pend with
              | none =>
                rw [hp] at hex
                injection hex with hex
                subst hex
                exact ⟨none, W3, by rw [hend, hp], ⟨ρ2, _, hQ, hsr, hfr3, by show σ.next ≤ n2; omega⟩⟩
              | some j =>
                rw [hp] at hex
                exact ⟨some j, W3, by rw [hend, hp], ar4 hex ⟨ρ2, _, hQ, hsr, hfr3, by show σ.next ≤ n2; omega⟩⟩
            · exact hK.elim
        refine wpIn_rangeFunc (fun fn _ => ?_)
        cases rd with
        | none =>
          have hr : rnd = none := hrd.1
          subst hr
          simp only at h
          refine main fn (w.alloc (.deferred (some []))) [{ target := .collected w.heap.size, args := #[] }] w.heap.size (fun _ => hrd.2) ((Below.refl _ _).alloc (zj _) _) ?_ ?_ h
          · intro x hx
            simp at hx
            subst hx
            exact ⟨w.heap.size, rfl, rfl, zj _, World.alloc_heap_new _ _⟩
          · rw [run_enterLoop_outer, World.size_alloc]
        | some l0 =>
          simp only at h
          split at h
          · rename_i r0 hf0
            have hr : rnd = some (ρ l0) := hrd.2 (aaE (Heap.find_mem hf0))
            subst hr
            obtain ⟨fn0, tmps0, d0, g1, _, _⟩ := hs.m.mem _ _ (Heap.find_mem hf0)
            refine main fn w [] d0 (fun h => absurd rfl h) (Below.refl _ _) (fun x hx => by cases hx) ?_ h
            rw [run_enterLoop_inner g1]
          · exact h.elim
    · exact h.elim
  | .goto _, _, _, _, h => h.elim
  | .refuse _, _, _, _, h => h.elim
theorem atD (hG : acS G) (hmix : P.follows .mixedOrders = true) {Γ : Cons} (hΓ : Γ.ok P G) {call : abN} (hcall : CallSat P G call) {Λ : LTab} {f0 : Nat} {fn : Func} {code : Code} {σ : St} {Kr : List AV → St → Prop} {Kp : List PanicEntry → St → Prop}
  (h : aD6 P G Γ call Λ f0 code σ (aJW P fn Kr Kp)) : aQ1 P G fn code σ Kr Kp := by
 intro C hC ρ a w hs hu hmk hlo hds
 unfold aD6 at h
 rw [ahF] at h
 split at h
 ·rename_i d hd
  exact av4 hG hΓ hcall (fun p c σ Q => aa8 hG hmix hΓ hcall c p σ Q) (fun _ c σ Q => aa8 hG hmix hΓ hcall c 5 σ Q) hd h hC hs hlo hds
 ·exact av3 (aa8 hG hmix hΓ hcall code _ _ _ h) hC hs hu hmk hlo
theorem aFI (hG : acS G) (hmix : P.follows .mixedOrders = true) {Γ : Cons} (hΓ : Γ.ok P G) {call : abN} (hcall : CallSat P G call) (Λ : LTab) : CallSat P G (aNA P G Γ Λ call) :=
 aIg <| aA8 (fun _ _ _ _ _ _ h => atD hG hmix hΓ hcall h) (fun _ q c σ Q h => aa8 hG hmix hΓ hcall c q σ Q h)
theorem av0 (hG : acS G) (hmix : P.follows .mixedOrders = true) {Γ : Cons} (hΓ : Γ.ok P G) (Λ : LTab) : ∀ d, CallSat P G (aJp P G Γ Λ d)
 | 0 => ⟨fun _ _ _ _ _ h => h.elim, fun _ _ _ _ _ h => h.elim⟩
 | d + 1 => aFI hG hmix hΓ (av0 hG hmix hΓ Λ d) Λ
end
open Go Go.RowKit
inductive TT : Type → Type 1 where
 | ok {α : Type} (a : α) : TT α
 | ite {α : Type} (b : Bool) (x y : TT α) : TT α
 | need {α : Type} (p : Prop) (x : TT α) : TT α
 | triv {α : Type} (p : Prop) (h : p) (x : TT α) : TT α
 | call {α β : Type} (o : Option β) (d : β) (x : β → TT α) : TT α
 | loop {α ι : Type} (tag : Nat) (H : TT ι) (R : ι → TT (ι ⊕ α)) : TT α
 | join {α ι : Type} (tag : Nat) (H : TT (ι ⊕ α)) (R : ι → TT α) : TT α
 | lt {α β : Type} (b : β) (x : β → TT α) : TT α
 | both {α : Type} (x y : TT α) : TT α
 | bad {α : Type} : TT α
def aeD {ι α : Type} (N : ι → Prop) (K : α → Prop) (s : ι ⊕ α) : Prop := Sum.rec N K s
def TT.holds : {α : Type} → TT α → (α → Prop) → Prop
 | _, .ok a, K => K a
 | _, .ite b x y, K => al1 b (x.holds K) (y.holds K)
 | _, .need p x, K => p ∧ x.holds K
 | _, .triv p _ x, K => p ∧ x.holds K
 | _, .call o d x, K => o.isSome = true ∧ (x (o.getD d)).holds K
 | _, .loop t H R, K => LoopH t (fun N => H.holds N) (fun i N => (R i).holds (aeD N K))
 | _, .join t H R, K => JoinH t (fun N => H.holds (aeD N K)) (fun i => (R i).holds K)
 | _, .lt b x, K => (x b).holds K
 | _, .both x y, K => Both (x.holds K) (y.holds K)
 | _, .bad, _ => False
def apT {ι α : Type} (R : ι → Option (ι ⊕ α)) : Nat → ι → Option α
 | 0, _ => none
 | n + 1, i => match R i with
  | some (.inl i') => apT R n i'
  | some (.inr a) => some a
  | none => none
open Classical in
noncomputable def acD {ι α : Type} (R : ι → Option (ι ⊕ α)) (i : ι) : Option α :=
 if h : ∃ n a, apT R n i = some a then some h.choose_spec.choose else none
theorem an2 {ι α : Type} {R : ι → Option (ι ⊕ α)} {a : α} : ∀ {n : Nat} {i : ι}, apT R n i = some a → ∀ m, n ≤ m → apT R m i = some a
 | 0, _, h => by cases h
 | n + 1, i, h => by
  intro m hm
  obtain ⟨m, rfl⟩ : ∃ k, m = k + 1 := ⟨m - 1, by omega⟩
  simp only [apT] at h ⊢
  split at h
  ·exact an2 h m zb
  ·exact h
  ·cases h
theorem axF {ι α : Type} {R : ι → Option (ι ⊕ α)} {a : α} {n : Nat} {i : ι} (h : apT R n i = some a) : acD R i = some a := by
 have hex : ∃ n a, apT R n i = some a := ⟨n, a, h⟩
 unfold acD
 rw [dif_pos hex]
 have h2 := hex.choose_spec.choose_spec
 have h3 := an2 h (n + hex.choose) zb
 have h4 := an2 h2 (n + hex.choose) zb
 rw [h3] at h4
 exact h4.symm
theorem an1 {ι α : Type} {R : ι → Option (ι ⊕ α)} {a : α} {i : ι} (h : acD R i = some a) : ∃ n, apT R n i = some a := by
 unfold acD at h
 split at h
 ·rename_i hex; injection h with h; rw [← h]; exact ⟨_, hex.choose_spec.choose_spec⟩
 ·cases h
theorem afJ {ι α : Type} {R : ι → Option (ι ⊕ α)} {i j : ι} (h : R i = some (.inl j)) : acD R i = acD R j := by
 cases hj : acD R j with
 | some a =>
  obtain ⟨n, hn⟩ := an1 hj
  exact axF (n := n + 1) (by simp only [apT, h]; exact hn)
 | none =>
  cases hi : acD R i with
  | none => rfl
  | some a =>
   obtain ⟨n, hn⟩ := an1 hi
   cases n with
   | zero => cases hn
   | succ n =>
    simp only [apT, h] at hn
    rw [axF hn] at hj; cases hj
theorem ahG {ι α : Type} {R : ι → Option (ι ⊕ α)} {i : ι} {a : α} (h : R i = some (.inr a)) : acD R i = some a :=
 axF (n := 1) (by simp only [apT, h])
theorem afV {ι α : Type} {R : ι → Option (ι ⊕ α)} (I : ι → Prop) (μ : ι → Nat) (Q : α → Prop)
  (h : ∀ i, I i → (∃ j, R i = some (.inl j) ∧ I j ∧ μ j < μ i) ∨ ∃ a, R i = some (.inr a) ∧ Q a) (i : ι) (hi : I i) : ∃ a, acD R i = some a ∧ Q a := by
 suffices H : ∀ n i, μ i = n → I i → ∃ a, acD R i = some a ∧ Q a from H _ i rfl hi
 intro n
 induction n using Nat.strongRecOn with
 | _ n ih =>
  intro i hn hI
  rcases h i hI with ⟨j, h1, h2, h3⟩ | ⟨a, h1, h2⟩
  ·rw [afJ h1]; exact ih (μ j) zb j rfl h2
  ·exact ⟨a, ahG h1, h2⟩
theorem aa2 {ι α : Type} {R : ι → Option (ι ⊕ α)} (I : ι → Prop) (μ : ι → Nat) (f : ι → α)
  (h : ∀ i, I i → (∃ j, R i = some (.inl j) ∧ I j ∧ μ j < μ i ∧ f j = f i) ∨ R i = some (.inr (f i))) (i : ι) (hi : I i) : acD R i = some (f i) := by
 obtain ⟨a, h1, h2⟩ := afV (fun j => I j ∧ f j = f i) μ (fun a => a = f i) (fun j hj => by
  rcases h j hj.1 with ⟨k, h1, h2, h3, h4⟩ | h1
  ·exact Or.inl ⟨k, h1, ⟨h2, h4.trans hj.2⟩, h3⟩
  ·exact Or.inr ⟨_, h1, hj.2⟩) i ⟨hi, rfl⟩
 rw [h1, h2]
open Classical in
noncomputable def TT.toO : {α : Type} → TT α → Option α
 | _, .ok a => some a
 | _, .ite b x y => match b with | true => x.toO | false => y.toO
 | _, .need p x => if p then x.toO else none
 | _, .triv _ _ x => x.toO
 | _, .call o _ x => match o with | some y => (x y).toO | none => none
 | _, .loop _ H R => match H.toO with | some i => acD (fun i => (R i).toO) i | none => none
 | _, .join _ H R => match H.toO with | some (.inl i) => (R i).toO | some (.inr a) => some a | none => none
 | _, .lt b x => (x b).toO
 | _, .both x y => match x.toO with | some a => if y.toO = some a then some a else none | none => none
 | _, .bad => none
theorem TT.holds_of : ∀ {α : Type} (t : TT α) {K : α → Prop} {a : α}, t.toO = some a → K a → t.holds K := by
 intro α t
 induction t with
 | ok b => intro K a h hk; injection h with h; subst h; exact hk
 | ite b x y hx hy =>
  intro K a h hk
  cases b
  ·exact hy h hk
  ·exact hx h hk
 | need p x hx =>
  intro K a h hk
  simp only [TT.toO] at h
  split at h
  ·rename_i hp; exact ⟨hp, hx h hk⟩
  ·cases h
 | triv p hp x hx => intro K a h hk; exact ⟨hp, hx h hk⟩
 | call o d x hx =>
  intro K a h hk
  cases o with
  | none => cases h
  | some y => exact ⟨rfl, hx y h hk⟩
 | loop t H R hH hR =>
  intro K a h hk
  simp only [TT.toO] at h
  split at h
  ·rename_i i0 hi0
   obtain ⟨n, hn⟩ := an1 h
   refine ⟨n, hH hi0 ?_⟩
   clear hi0 h
   induction n generalizing i0 with
   | zero => cases hn
   | succ n ih =>
    simp only [apT] at hn
    simp only [aLE]
    split at hn
    ·rename_i j hj; exact hR i0 hj (ih j hn)
    ·rename_i b hb; injection hn with hn; subst hn; exact hR i0 hb hk
    ·cases hn
  ·cases h
 | join t H R hH hR =>
  intro K a h hk
  simp only [TT.toO] at h
  refine ⟨?_⟩
  split at h
  ·rename_i i hi; exact hH hi (hR i h hk)
  ·rename_i b hb; injection h with h; subst h; exact hH hb hk
  ·cases h
 | lt b x hx => intro K a h hk; exact hx b h hk
 | both x y hx hy =>
  intro K a h hk
  simp only [TT.toO] at h
  split at h
  ·rename_i b hb
   split at h
   ·rename_i hc
    injection h with h
    subst h
    exact ⟨hx hb hk, hy hc hk⟩
   ·cases h
  ·cases h
 | bad => intro K a h; cases h
def aSh (t : Ty) (K : t.T → Prop) (l : List AV) (σ : St) : Prop :=
 match al7 t (AV.maps (fun _ => false) (aFj σ.H) l) with
 | some z => K z
 | none => False
def aNx (A R : Ty) (F : A.T → Option R.T) : Con := { args := A, res := R, pre := fun x => (F x).isSome = true, fn := fun x => (F x).getD R.dflt, dec := fun _ => inferInstance }
def aOr (P : Program) (G : World → Prop) (Γ : Cons) (Λ : LTab) (d f : Nat) (fn : Func) (A R : Ty) (x : A.T) (K : R.T → Prop) : Prop :=
 aD6 P G Γ (aJp P G Γ Λ d) Λ f (fn.body.getD .skip) { slots := acF 0 (ajY A x), H := [], next := 0, n := fn.ntmps } (aRQ P fn (aSh R K))
section
variable {P : Program} {G : World → Prop}
theorem aCY (hG : acS G) (hmix : P.follows .mixedOrders = true) {Γ : Cons} (hΓ : Γ.ok P G) {f : FuncId} {fn : Func} (hf : P.funcs[f]? = some fn) (hb : fn.body.isSome = true) (he : acM P f = true)
  (A R : Ty) (Λ : LTab) (d : Nat) (hn : ∀ x, Nat.ble (ajY A x).length fn.ntmps = true) (t : A.T → TT R.T) (hex : ∀ (x : A.T) (K : R.T → Prop), aOr P G Γ Λ d f fn A R x K = (t x).holds K)
  (F : A.T → Option R.T) (hF : ∀ x y, Wf A x → F x = some y → (t x).toO = some y) : (aNx A R F).ok P G f := by
 obtain ⟨code, hc⟩ := xo.1 hb
 refine as3 hf hc he _ rfl (fun x _ => hn x) (fun x h1 h2 => atD (Λ := Λ) (f0 := f) hG hmix hΓ (av0 hG hmix hΓ Λ d) ?_)
 obtain ⟨y, hy⟩ := xo.1 (show (F x).isSome = true from h2)
 have h := hex x (fun z => z = y)
 have e : (aNx A R F).fn x = y := by show (F x).getD R.dflt = y; rw [hy]; rfl
 have h3 : (t x).holds (fun z => z = y) := TT.holds_of _ (hF x y h1 hy) rfl
 rw [← h] at h3
 unfold aOr at h3
 rw [hc] at h3
 rw [e]
 exact h3
end
instance (a b : Int) : Decidable (inb a b) := inferInstanceAs (Decidable (0 ≤ a ∧ a < b))
instance (a b : Int) : Decidable (inc a b) := inferInstanceAs (Decidable (0 ≤ a ∧ a ≤ b))
theorem aaM {α : Type} (a : α) : (TT.ok a).toO = some a := rfl
theorem aKb {α : Type} (p : Prop) (x : TT α) (h : p) : (TT.need p x).toO = x.toO := by simp only [TT.toO, if_pos h]
theorem aGf {α ι : Type} {t : Nat} {H : TT (ι ⊕ α)} {i : ι} (h : H.toO = some (.inl i)) (R : ι → TT α) : (TT.join t H R).toO = (R i).toO := by simp only [TT.toO, h]
theorem aGe {α ι : Type} {t : Nat} {H : TT (ι ⊕ α)} {a : α} (h : H.toO = some (.inr a)) (R : ι → TT α) : (TT.join t H R).toO = some a := by simp only [TT.toO, h]
theorem aKc {α ι : Type} {H : TT ι} {i : ι} (h : H.toO = some i) (t : Nat) (R : ι → TT (ι ⊕ α)) : (TT.loop t H R).toO = acD (fun i => (R i).toO) i := by simp only [TT.toO, h]
end Go.Vg
