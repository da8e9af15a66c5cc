/-
  The engine, parts HO. Own work; no condition.
-/
import Derived.Test.YtbfajgbedclfeaaGreatDoorEE
namespace Go.Vg
open Go Go.RowKit

/-! A state, written out before it is looked at. -/
def normA0 (a : AV) (K : AV → Prop) : Prop := match a with
  | .d t x => K (.d t x)
  | .ptr k o => K (.ptr k o)
  | .eptr k i => K (.eptr k i)
  | .efp k i f => K (.efp k i f)
  | .dptr t x => K (.dptr t x)
  | .own k o n => K (.own k o n)
  | .ox k o n => K (.ox k o n)
  | .sv k o n c => K (.sv k o n c)
  | .nsl => K (.nsl)
  | .nilp => K (.nilp)
  | .nili => K (.nili)
  | .nni => K (.nni)
  | .ifc k t x => K (.ifc k t x)
  | .fn f a b => K (.fn f a b)
  | .yld l => K (.yld l)
  | .mp k => K (.mp k)
  | .ag l => K (.ag l)
  | .tup l => K (.tup l)
  | .und => K (.und)
  | .no => K (.no)
theorem normA0_eq (a : AV) (K : AV → Prop) : normA0 a K = K a := by cases a <;> rfl
def normL0 : List AV → (List AV → Prop) → Prop
  | [], K => K []
  | a :: r, K => normA0 a fun a' => normL0 r fun r' => K (a' :: r')
theorem normL0_eq : ∀ (l : List AV) (K : List AV → Prop), normL0 l K = K l
  | [], _ => rfl
  | a :: r, K => by simp only [normL0, normA0_eq, normL0_eq r]
def normA (a : AV) (K : AV → Prop) : Prop := match a with
  | .fn f x y => normL0 x fun x' => normL0 y fun y' => K (.fn f x' y')
  | .ag l => normL0 l fun l' => K (.ag l')
  | .tup l => normL0 l fun l' => K (.tup l')
  | a => normA0 a K
theorem normA_eq (a : AV) (K : AV → Prop) : normA a K = K a := by
  cases a <;> simp only [normA, normL0_eq, normA0_eq]
def normL : List AV → (List AV → Prop) → Prop
  | [], K => K []
  | a :: r, K => normA a fun a' => normL r fun r' => K (a' :: r')
theorem normL_eq : ∀ (l : List AV) (K : List AV → Prop), normL l K = K l
  | [], _ => rfl
  | a :: r, K => by simp only [normL, normA_eq, normL_eq r]
def normS1 : List (Nat × AV) → (List (Nat × AV) → Prop) → Prop
  | [], K => K []
  | (t, a) :: r, K => normA a fun a' => normS1 r fun r' => K ((t, a') :: r')
theorem normS1_eq : ∀ (l : List (Nat × AV)) (K : List (Nat × AV) → Prop), normS1 l K = K l
  | [], _ => rfl
  | (t, a) :: r, K => by simp only [normS1, normA_eq, normS1_eq r]
def normB (b : Bk) (K : Bk → Prop) : Prop := match b with
  | .vars e l => normL l fun l' => K (.vars e l')
  | b => K b
theorem normB_eq (b : Bk) (K : Bk → Prop) : normB b K = K b := by cases b <;> simp only [normB, normL_eq]
def normH : Heap → (Heap → Prop) → Prop
  | [], K => K []
  | (k, b) :: r, K => normB b fun b' => normH r fun r' => K ((k, b') :: r')
theorem normH_eq : ∀ (H : Heap) (K : Heap → Prop), normH H K = K H
  | [], _ => rfl
  | (k, b) :: r, K => by simp only [normH, normB_eq, normH_eq r]
def normSt (σ : St) (K : St → Prop) : Prop := normS1 σ.slots fun s => normH σ.H fun h => K { slots := s, H := h, next := σ.next, n := σ.n }
theorem normSt_eq (σ : St) (K : St → Prop) : normSt σ K = K σ := by simp only [normSt, normS1_eq, normH_eq]

/-- An operation that neither lays nor changes a block, nor calls. -/
def pureOp (o : Oper) : Bool :=
  match o.guard with
  | some _ => false
  | none => match o.dst with
    | none => false
    | some _ => match o.op with
      | .move _ => true
      | .load _ _ => true
      | .fieldAddr _ _ _ => true
      | .field _ _ _ => true
      | .indexAddr _ _ _ => true
      | .index _ _ _ => true
      | .extract _ _ => true
      | .convert _ _ _ => true
      | .build _ _ => true
      | .binOp _ _ _ _ _ => true
      | .unOp _ _ _ => true
      | _ => false

def evU (P : Program) (H : Heap) (arg : Operand → AV) (o : Oper) : T AV :=
  match o.op with
  | .load t a => loadAV P H t (arg a)
  | _ => evP P H arg o

/-- The operations that are run first, as bits. -/
def uBits : List Oper → Nat → Nat → Nat
  | [], _, u => u
  | o :: r, i, u => match pureOp o && o.after.toList.all (fun e => !binding e || u.testBit e.on) with
    | true => uBits r (i + 1) (u ||| 2 ^ i)
    | false => uBits r (i + 1) u

/-- Every operation that writes slot t comes before. -/
def chkR (o : Oper) (t : Nat) : List Oper → Nat → Bool
  | [], _ => true
  | p :: r, j => (match p.dst with
    | some d => match Nat.beq d t with
      | true => hasEdge o j
      | false => true
    | none => true) && chkR o t r (j + 1)

def noSelect (o : Oper) : Bool := match o.op with
  | .select _ _ => false
  | .defer _ => false
  | _ => true

def chkH (pre : List Oper) : List Oper → Nat → Bool
  | [], _ => true
  | o :: r, i => (match o.guard with | none => true | some _ => false) && ((tmpsOf o.op.operands.toList).all (fun t => chkR o t pre 0) && ((match o.dst with | some d => chkDst i d pre 0 | none => true) && (noSelect o && chkH pre r (i + 1))))

/-- Has an operation of m operation i before it? -/
def blockedB (m i : Nat) : List Nat → Nat → Bool
  | [], _ => false
  | x :: r, j => (m.testBit j && x.testBit i) || blockedB m i r (j + 1)

def sameAV (a b : AV) : Prop := a = b

/-- The second one again; of closed values this is seen at once. -/
def same2 (r y : AV) (K : Prop) : Prop := match y with
  | .ptr _ _ => (match avE r y with | true => K | false => False)
  | .nsl => (match avE r y with | true => K | false => False)
  | .own _ _ _ => (match avE r y with | true => K | false => False)
  | _ => sameAV r y ∧ K
theorem same2_out {r y : AV} {K : Prop} (h : same2 r y K) : r = y ∧ K := by
  unfold same2 at h
  split at h
  · split at h
    · rename_i h1; exact ⟨avE_eq _ _ h1, h⟩
    · exact h.elim
  · split at h
    · rename_i h1; exact ⟨avE_eq _ _ h1, h⟩
    · exact h.elim
  · split at h
    · rename_i h1; exact ⟨avE_eq _ _ h1, h⟩
    · exact h.elim
  · exact h

/-- Keys from n on, and those that they get. -/
def newK (c n : Nat) : Heap → List (Nat × Nat)
  | [] => []
  | (k, _) :: r => match Nat.ble n k with
    | true => (k, c + (k - n)) :: newK c n r
    | false => newK c n r

/-- Behind operation i of a region: its new blocks have names that hang on i alone. -/
def canK (b L i k : Nat) (σ σ1 : St) : St :=
  match Nat.ble σ1.next ((σ1.rekeysK b (newK (b + 1000 * (i + 1)) σ.next σ1.H)).raise (b + 1000 * (L + 2) + 1000 * (L - k))).next with
  | true => (σ1.rekeysK b (newK (b + 1000 * (i + 1)) σ.next σ1.H)).raise (b + 1000 * (L + 2) + 1000 * (L - k))
  | false => σ1
theorem canK_leads (b L i k : Nat) (σ σ1 : St) : Leads b σ1 (canK b L i k σ σ1) := by
  unfold canK
  split
  · rename_i h; exact leads_raise _ _ _ _ (Nat.le_of_ble_eq_true h)
  · exact fun C ρ a w hs => ⟨ρ, hs, Fr.refl _ _ _ _ _, Nat.le_refl _⟩

def obU (P : Program) (σ : St) (o : Oper) (K : Prop) : Prop :=
  match o.dst with
  | none => False
  | some d => (evU P σ.H σ.eval o).holds fun r => match look σ.slots d with
    | .no => K
    | y => same2 r y K

/-- What may still run has the values that it had. -/
def lateAll (P : Program) (ms : List Nat) (u m : Nat) (σ : St) (K : Prop) : List Oper → Nat → Prop
  | [], _ => K
  | o :: r, i => match u.testBit i && !blockedB m i ms 0 with
    | true => obU P σ o (lateAll P ms u m σ K r (i + 1))
    | false => lateAll P ms u m σ K r (i + 1)

def runU (P : Program) (u : Nat) (K : St → Prop) : List Oper → Nat → St → Prop
  | [], _, σ => K σ
  | o :: r, i, σ => match u.testBit i with
    | true => (evU P σ.H σ.eval o).holds fun x => runU P u K r (i + 1) (σ.put o.dst x)
    | false => runU P u K r (i + 1) σ

def enabB (o : Oper) (v : Nat) : Bool := o.after.toList.all fun e => !binding e || v.testBit e.on

def enabL (v : Nat) : List Oper → Nat → List (Nat × Oper)
  | [], _ => []
  | o :: r, i => match !(v.testBit i) && enabB o v with
    | true => (i, o) :: enabL v r (i + 1)
    | false => enabL v r (i + 1)

/-- Both ways. -/
structure Both (p q : Prop) : Prop where
  l : p
  r : q

def allB (f : Nat × Oper → Prop) : List (Nat × Oper) → Prop
  | [] => False
  | [x] => f x
  | x :: y :: r => Both (f x) (allB f (y :: r))

theorem allB_mem {f : Nat × Oper → Prop} : ∀ {l : List (Nat × Oper)}, allB f l → ∀ x ∈ l, f x
  | [x], h, y, hy => by
    rcases List.mem_cons.1 hy with rfl | hy
    · exact h
    · cases hy
  | x :: z :: r, h, y, hy => by
    rcases List.mem_cons.1 hy with rfl | hy
    · exact h.l
    · exact allB_mem h.r y hy

def goQ (K : St → Prop) : Fi → Prop
  | .go σ => K σ
  | .pan _ _ => False

def cntN (v : Nat) : List Oper → Nat → Nat
  | [], _ => 0
  | _ :: r, i => match v.testBit i with
    | true => cntN v r (i + 1)
    | false => cntN v r (i + 1) + 1

/-- What can be run first once the operations of m have run. -/
def uGrow (m : Nat) : List Oper → Nat → Nat → Nat
  | [], _, u => u
  | o :: r, i, u => match !((u ||| m).testBit i) && (pureOp o && o.after.toList.all (fun e => !binding e || (u ||| m).testBit e.on)) with
    | true => uGrow m r (i + 1) (u ||| 2 ^ i)
    | false => uGrow m r (i + 1) u

/-- Have all operations run? -/
def endN (c : Nat) (t s : Prop) : Prop := match c with
  | 0 => t
  | _ + 1 => s

def manyB {α : Type} : List α → Bool
  | _ :: _ :: _ => true
  | _ => false
/-- Names by operations, where several orders are run. -/
def canC (c : Bool) (b L i k : Nat) (σ σ1 : St) : St := match c with
  | true => canK b L i k σ σ1
  | false => σ1
theorem canC_leads (c : Bool) (b L i k : Nat) (σ σ1 : St) : Leads b σ1 (canC c b L i k σ σ1) := by
  cases c with
  | true => exact canK_leads b L i k σ σ1
  | false => exact fun C ρ a w hs => ⟨ρ, hs, Fr.refl _ _ _ _ _, Nat.le_refl _⟩

def execN (P : Program) (Γ : Cons) (call : CallT) (b : Nat) (pre : List Oper) (ms : List Nat) (tl : St → Prop) : Nat → Bool → Nat → Nat → St → Prop
  | 0, _, u, m, σ => lateAll P ms u m σ (endN (cntN (u ||| m) pre 0) (tl σ) False) pre 0
  | k + 1, c, u, m, σ => lateAll P ms u m σ (endN (cntN (u ||| m) pre 0) (tl σ) (allB (fun x => opS P Γ call x.2 σ (goQ fun σ' => normSt (canC (c || manyB (enabL (u ||| m) pre 0)) b pre.length x.1 k σ σ') fun σ2 => runU P (uGrow (m ||| 2 ^ x.1) pre 0 u ^^^ u) (fun σ1 => execN P Γ call b pre ms tl k (c || manyB (enabL (u ||| m) pre 0)) (uGrow (m ||| 2 ^ x.1) pre 0 u) (m ||| 2 ^ x.1) σ1) pre 0 σ2)) (enabL (u ||| m) pre 0))) pre 0

def execH (P : Program) (Γ : Cons) (call : CallT) (ops : Array Oper) (σ : St) (K : Fi → Prop) : Prop :=
  let l := ops.toList
  let ms := masks l []
  let m := splitAt ms
  let pre := l.take m
  let u := uBits pre 0 0
  match chkH pre pre 0 && chkEdges l 0 && chkTail m ms 0 && Nat.ble m l.length with
  | true => normSt σ fun σ => runU P u (fun σ' => execN P Γ call σ.next pre ms (fun σ'' => execSeq P Γ call ops (l.drop m) σ'' K) (cntN u pre 0) false u 0 σ') pre 0 σ
  | false => False

/-- Blocks are given up. -/
theorem MRel.keepP {C : Ctx} {ρ : Nat → Nat} {H : Heap} {next : Nat} {w : World} (hm : MRel C ρ H next w) (p : Nat → Bool) :
    MRel C ρ (H.keep p dead) next w ∧ (∀ x v, VR C ρ H w x v → VR C ρ (H.keep p dead) w (x.map p dead) v) ∧ ∀ n, Fr C n ρ H w ρ (H.keep p dead) w := by
  have hv : ∀ x v, VR C ρ H w x v → VR C ρ (H.keep p dead) w (x.map p dead) v := fun x v h =>
    VR.map (fun b hb => ⟨hb.keep, rfl⟩) (fun k hk hp => ⟨Heap.keys_keep.2 ⟨hp, hk⟩, rfl⟩) (fun k e t l hk hp => ⟨l, Heap.mem_keep.2 ⟨hp, _, hk, rfl⟩, Nat.le_refl _, fun c fr hc => ⟨c, fr, hc, rfl⟩⟩) (fun _ _ _ _ _ _ => .no) h
  have hd : ∀ b, Ok C ρ H w b → Ok C ρ (H.keep p dead) w b ∧ w.heap[b]? = w.heap[b]? := fun b hb => ⟨hb.keep, rfl⟩
  refine ⟨⟨hm.below, Heap.nodup_keep hm.nodup, fun k hk => hm.lt k (Heap.keys_keep.1 hk).2, fun k hk k' hk' => hm.inj k (Heap.keys_keep.1 hk).2 k' (Heap.keys_keep.1 hk').2, fun k hk => hm.low k (Heap.keys_keep.1 hk).2, fun k b hb => ?_⟩, hv,
    fun n => ⟨hd, fun k _ hk => ⟨(Heap.keys_keep.1 hk).2, rfl⟩, fun k e t l _ hkm hk => ⟨l, Heap.mem_keep.2 ⟨(Heap.keys_keep.1 hk).1, _, hkm, rfl⟩, Nat.le_refl _, fun c fr hc => ⟨c, fr, hc, rfl⟩⟩, Nat.le_refl _⟩⟩
  obtain ⟨_, b', hb', rfl⟩ := Heap.mem_keep.1 hb
  have hbr := hm.mem k b' hb'
  cases b' with
  | vars e cells =>
    obtain ⟨c, g1, g2, g3⟩ := hbr
    exact ⟨c, g1, VRs.map hv g2, g3⟩
  | row e t l =>
    obtain ⟨c, g1, g2, g3, g4, g5⟩ := hbr
    exact ⟨c, g1, g2, g3, RdL.mono (fun x cs => Rd.mono hd t x cs) _ _ g4, g5⟩
  | loop r =>
    obtain ⟨fn, tmps, d, g1, g2, g3⟩ := hbr
    exact ⟨fn, tmps, d, g1, g2, fun t => by show VR C ρ _ w (look (mapSlots _ _ r.slots) t) _; rw [look_map]; exact hv _ _ (g3 t)⟩
  | dic k l => obtain ⟨es, n, g1, g2⟩ := hbr; exact ⟨es, n, g1, g2.map hv⟩
  | any => exact hbr
section
variable {C : Ctx} {P : Program} {G : World → Prop} {Γ : Cons} {ops : Array Oper}

theorem evU_sound {ρ : Nat → Nat} {H : Heap} {next : Nat} {w : World} (hm : MRel C ρ H next w) {arg : Operand → AV} {val : Operand → Value} {o : Oper} {r : AV} (h : (evU P H arg o).Leaf r)
    (hv : ∀ x, VR C ρ H w (arg x) (val x)) : ∃ v, (execOp val o).run P w = .ok (.value v) w ∧ VR C ρ H w r v := by
  unfold evU at h
  split at h
  · rename_i t a ho
    obtain ⟨v', h1, h2⟩ := loadAV_sound (fun _ h => h) hm h (hv a)
    exact ⟨v', by simp [execOp, ho, h1], h2⟩
  · exact evP_sound (fun _ h => h) hm h hv

theorem chkR_spec {o : Oper} {t : Nat} : ∀ {l : List Oper} {k : Nat}, chkR o t l k = true → ∀ {j : Nat} {p : Oper}, l[j]? = some p → p.dst = some t → hasEdge o (k + j) = true
  | [], _, _, j, p, hp, _ => by simp at hp
  | q :: r, k, h, j, p, hp, hd => by
    simp only [chkR, Bool.and_eq_true] at h
    cases j with
    | zero =>
      simp at hp; subst hp
      have h1 := h.1
      rw [hd] at h1
      simp only [show Nat.beq t t = true from Nat.beq_refl t] at h1
      simpa using h1
    | succ j =>
      have := chkR_spec h.2 (j := j) (by simpa using hp) hd
      rwa [show k + 1 + j = k + (j + 1) by omega] at this

theorem chkH_spec {pre : List Oper} : ∀ {l : List Oper} {k : Nat}, chkH pre l k = true → ∀ {i : Nat} {o : Oper}, l[i]? = some o →
    o.guard = none ∧ (∀ t ∈ tmpsOf o.op.operands.toList, chkR o t pre 0 = true) ∧ (∀ d, o.dst = some d → chkDst (k + i) d pre 0 = true) ∧ noSelect o = true
  | [], _, _, i, o, ho => by simp at ho
  | q :: r, k, h, i, o, ho => by
    simp only [chkH, Bool.and_eq_true, List.all_eq_true] at h
    cases i with
    | zero =>
      simp at ho; subst ho
      obtain ⟨h1, h2, h3, h4, _⟩ := h
      refine ⟨?_, h2, fun d hd => ?_, h4⟩
      · cases hg : q.guard with
        | none => rfl
        | some x => rw [hg] at h1; cases h1
      · rw [hd] at h3; exact h3
    | succ i =>
      obtain ⟨h1, h2, h3, h4⟩ := chkH_spec h.2.2.2.2 (i := i) (o := o) (by simpa using ho)
      refine ⟨h1, h2, fun d hd => ?_, h4⟩
      have := h3 d hd
      rwa [show k + 1 + i = k + (i + 1) by omega] at this

theorem blockedB_spec {m i : Nat} : ∀ {l : List Nat} {k : Nat}, blockedB m i l k = true → ∃ j x, l[j]? = some x ∧ m.testBit (k + j) = true ∧ x.testBit i = true
  | [], _, h => by cases h
  | x :: r, k, h => by
    simp only [blockedB, Bool.or_eq_true, Bool.and_eq_true] at h
    rcases h with h | h
    · exact ⟨0, x, rfl, h.1, h.2⟩
    · obtain ⟨j, y, h1, h2, h3⟩ := blockedB_spec h
      exact ⟨j + 1, y, by simpa using h1, by rwa [show k + (j + 1) = k + 1 + j by omega], h3⟩

theorem obU_spec {σ : St} {o : Oper} {K : Prop} (h : obU P σ o K) : (∃ d r, o.dst = some d ∧ (evU P σ.H σ.eval o).Leaf r ∧ (look σ.slots d = .no ∨ r = look σ.slots d)) ∧ K := by
  unfold obU at h
  split at h
  · exact h.elim
  · rename_i d hd
    obtain ⟨r, h1, h2⟩ := T.leaf h
    split at h2
    · rename_i hl; exact ⟨⟨d, r, hd, h1, Or.inl hl⟩, h2⟩
    · exact ⟨⟨d, r, hd, h1, Or.inr (same2_out h2).1⟩, (same2_out h2).2⟩

theorem lateAll_out {ms : List Nat} {u m : Nat} {σ : St} {K : Prop} : ∀ {l : List Oper} {k : Nat}, lateAll P ms u m σ K l k → K
  | [], _, h => h
  | o :: r, k, h => by
    simp only [lateAll] at h
    split at h
    · exact lateAll_out (obU_spec h).2
    · exact lateAll_out h

theorem lateAll_at {ms : List Nat} {u m : Nat} {σ : St} {K : Prop} : ∀ {l : List Oper} {k : Nat}, lateAll P ms u m σ K l k → ∀ {i : Nat} {o : Oper}, l[i]? = some o → u.testBit (k + i) = true → blockedB m (k + i) ms 0 = false →
    ∃ d r, o.dst = some d ∧ (evU P σ.H σ.eval o).Leaf r ∧ (look σ.slots d = .no ∨ r = look σ.slots d)
  | [], _, _, i, o, ho, _, _ => by simp at ho
  | q :: r, k, h, i, o, ho, hu, hb => by
    simp only [lateAll] at h
    cases i with
    | zero =>
      simp at ho; subst ho
      rw [Nat.add_zero] at hu hb
      rw [hu, hb] at h
      exact (obU_spec h).1
    | succ i =>
      have e : k + (i + 1) = k + 1 + i := by omega
      rw [e] at hu hb
      split at h
      · exact lateAll_at (obU_spec h).2 (by simpa using ho) hu hb
      · exact lateAll_at h (by simpa using ho) hu hb

theorem enabL_mem {v : Nat} : ∀ {l : List Oper} {k i : Nat} {o : Oper}, l[i]? = some o → v.testBit (k + i) = false → enabB o v = true → (k + i, o) ∈ enabL v l k
  | [], _, i, o, ho, _, _ => by simp at ho
  | q :: r, k, i, o, ho, hv, he => by
    simp only [enabL]
    cases i with
    | zero =>
      simp at ho; subst ho
      rw [Nat.add_zero] at hv ⊢
      rw [hv, he]
      exact List.mem_cons_self
    | succ i =>
      have e : k + (i + 1) = k + 1 + i := by omega
      rw [e] at hv ⊢
      have := enabL_mem (k := k + 1) (by simpa using ho) hv he
      split
      · exact List.mem_cons_of_mem _ this
      · exact this

theorem cntN_zero {v : Nat} : ∀ {l : List Oper} {k : Nat}, (∀ i, i < l.length → v.testBit (k + i) = true) → cntN v l k = 0
  | [], _, _ => rfl
  | q :: r, k, h => by
    simp only [cntN]
    rw [show v.testBit k = true by have := h 0 (by simp); rwa [Nat.add_zero] at this]
    exact cntN_zero fun i hi => by have := h (i + 1) (by simp; omega); rwa [show k + 1 + i = k + (i + 1) by omega]

theorem bit_or {m i j : Nat} : (m ||| 2 ^ i).testBit j = (m.testBit j || decide (i = j)) := by
  rw [Nat.testBit_or, Nat.testBit_two_pow]

theorem cntN_or {v n : Nat} : ∀ {l : List Oper} {k : Nat}, (∀ i, i < l.length → k + i ≠ n) → cntN (v ||| 2 ^ n) l k = cntN v l k
  | [], _, _ => rfl
  | q :: r, k, h => by
    have hk : n ≠ k := fun e => h 0 (by simp) (by omega)
    have ih := cntN_or (v := v) (n := n) (l := r) (k := k + 1) fun i hi => by have := h (i + 1) (by simp; omega); omega
    simp only [cntN, bit_or, decide_eq_false hk, Bool.or_false, ih]

theorem cntN_add {v n : Nat} : ∀ {l : List Oper} {k i : Nat}, i < l.length → n = k + i → v.testBit n = false → cntN v l k = cntN (v ||| 2 ^ n) l k + 1
  | q :: r, k, 0, _, hn, hv => by
    rw [Nat.add_zero] at hn
    subst hn
    have := cntN_or (v := v) (n := n) (l := r) (k := n + 1) fun i _ => by omega
    simp only [cntN, bit_or, hv, decide_true, Bool.or_true, this]
  | q :: r, k, i + 1, hi, hn, hv => by
    have ih := cntN_add (l := r) (k := k + 1) (i := i) (by simpa using hi) (by omega) hv
    have hk : n ≠ k := by omega
    simp only [cntN, bit_or, decide_eq_false hk, Bool.or_false]
    split
    · exact ih
    · omega

theorem cntN_mono {v v' : Nat} (h : ∀ i, v.testBit i = true → v'.testBit i = true) : ∀ {l : List Oper} {k : Nat}, cntN v' l k ≤ cntN v l k
  | [], _ => Nat.le_refl _
  | q :: r, k => by
    have ih := cntN_mono h (l := r) (k := k + 1)
    simp only [cntN]
    cases h1 : v.testBit k with
    | true => rw [h k h1]; exact ih
    | false =>
      cases v'.testBit k with
      | true => exact Nat.le_succ_of_le ih
      | false => exact Nat.succ_le_succ ih

theorem uGrow_spec {m : Nat} : ∀ {l : List Oper} {k u : Nat}, (∀ j, u.testBit j = true → (uGrow m l k u).testBit j = true) ∧ ∀ j, (uGrow m l k u).testBit j = true → u.testBit j = true ∨ m.testBit j = false
  | [], _, _ => ⟨fun _ h => h, fun _ h => Or.inl h⟩
  | o :: r, k, u => by
    simp only [uGrow]
    split
    · rename_i hc
      rw [Bool.and_eq_true] at hc
      obtain ⟨h1, h2⟩ := uGrow_spec (m := m) (l := r) (k := k + 1) (u := u ||| 2 ^ k)
      refine ⟨fun j hj => h1 j (by rw [bit_or, hj]; rfl), fun j hj => ?_⟩
      rcases h2 j hj with h | h
      · rw [bit_or, Bool.or_eq_true, decide_eq_true_eq] at h
        rcases h with h | rfl
        · exact Or.inl h
        · have h3 := hc.1
          rw [Nat.testBit_or] at h3
          simp only [Bool.not_eq_true', Bool.or_eq_false_iff] at h3
          exact Or.inr h3.2
      · exact Or.inr h
    · exact uGrow_spec

theorem execN_tl {P : Program} {Γ : Cons} {call : CallT} {b : Nat} {pre : List Oper} {ms : List Nat} {tl : St → Prop} {k u m : Nat} {c : Bool} {σ : St} (hc : cntN (u ||| m) pre 0 = 0) (h : execN P Γ call b pre ms tl k c u m σ) : tl σ := by
  cases k with
  | zero => have h := lateAll_out (show lateAll P ms u m σ _ pre 0 from h); rw [hc] at h; exact h
  | succ k => have h := lateAll_out (show lateAll P ms u m σ _ pre 0 from h); rw [hc] at h; exact h

/-- The second activation has what the first one has, but for some slots. -/
structure Agree (L : Nat → Prop) (a b : Act) : Prop where
  tmps : ∀ t, ¬ L t → a.tmps.getD t undef = b.tmps.getD t undef
  size : a.tmps.size = b.tmps.size
  defers : a.defers = b.defers

theorem Agree.put {L : Nat → Prop} {a b : Act} (h : Agree L a b) (dst : Option Nat) (v : Value) : Agree L (a.put dst v) (b.put dst v) := by
  refine ⟨fun t ht => ?_, by rw [put_size, put_size]; exact h.size, by rw [put_defers, put_defers]; exact h.defers⟩
  rw [getD_put, getD_put, h.size, h.tmps t ht]

theorem Agree.eval {L : Nat → Prop} {a b : Act} (h : Agree L a b) {x : Operand} (hx : ∀ t, x = .tmp t → ¬ L t) : a.eval x = b.eval x := by
  cases x with
  | tmp t => exact h.tmps t (hx t rfl)
  | _ => rfl

theorem SRel.agree {ρ : Nat → Nat} {σ : St} {a b : Act} {w : World} (hs : SRel C ρ σ b w) (h : Agree (fun _ => False) a b) : SRel C ρ σ a w :=
  ⟨hs.m, fun t => by rw [h.tmps t (fun h => h)]; exact hs.slots t, by rw [h.size]; exact hs.size, by rw [h.defers]; exact hs.defers⟩

theorem wpIn_agree {L : Nat → Prop} {a b : Act} {w : World} {o : Oper} {r : Option Nat} {Ka Kb : Act → World → Prop} {Q : Exit → Act → World → Prop} (hsel : noSelect o = true) (ha : Agree L a b) (he : ∀ x ∈ o.op.operands, a.eval x = b.eval x)
    (hK : ∀ a' b' w', Agree L a' b' → Kb b' w' → Ka a' w') (h : o.wpIn (wideR r) 0 P b w Kb (fun _ _ _ => False)) : o.wpIn (wideR r) 0 P a w Ka Q := by
  have h1 : ∀ cs d, o.op ≠ .select cs d := fun cs d e => by simp [noSelect, e] at hsel
  have h2 : ∀ c, o.op ≠ .defer c := fun c e => by simp [noSelect, e] at hsel
  unfold Oper.wpIn at h ⊢
  refine ⟨fun _ _ => trivial, ?_⟩
  have h := h.2
  rw [Oper.semAt_eq _ _ _ h2] at h ⊢
  rw [execOp_congr o h1 he]
  generalize (execOp b.eval o).run P w = res at h
  cases res with
  | ok x w' =>
    cases x <;> simp only [Oper.uponIn] at h ⊢
    case value u => exact hK _ _ _ (ha.put _ _) h
    case skip => exact hK _ _ _ (ha.put _ _) h
    case defer d => exact hK _ _ _ (Agree.put (a := { a with defers := d :: a.defers }) (b := { b with defers := d :: b.defers }) ⟨ha.tmps, ha.size, congrArg (d :: ·) ha.defers⟩ _ _) h
    case enter f args =>
      refine ⟨h.1, CallsIn.mono h.2 fun e w'' he => ?_⟩
      cases e with
      | returned u => exact hK _ _ _ (ha.put _ _) he
      | panicked c => exact he.elim
      | outgrown => obtain ⟨_, _, he⟩ := he; exact he.elim
    case row row args => exact ⟨h.1, RowsIn.mono h.2 fun u w'' he => hK _ _ _ (ha.put _ _) he⟩
    case round l f tmps assign body =>
      refine ⟨h.1, RoundIn.mono h.2 fun e w'' he => ?_⟩
      cases e with
      | returned u => exact hK _ _ _ (ha.put _ _) he
      | panicked c => exact he.elim
      | outgrown => obtain ⟨_, _, he⟩ := he; exact he.elim
  | halt x w' =>
    cases x <;> simp only [Oper.uponIn] at h

theorem runU_sound {u : Nat} {Kf : St → Prop} {w : World} : ∀ (l : List Oper) (k : Nat) {ρ : Nat → Nat} {σ : St} {b : Act}, SRel C ρ σ b w → runU P u Kf l k σ →
    ∃ σ' b', Kf σ' ∧ SRel C ρ σ' b' w ∧ Agree (fun t => ∃ j o, l[j]? = some o ∧ u.testBit (k + j) = true ∧ o.dst = some t) b b' ∧ σ'.H = σ.H ∧ σ'.next = σ.next
  | [], k, ρ, σ, b, hs, h => ⟨σ, b, h, hs, ⟨fun _ _ => rfl, rfl, rfl⟩, rfl, rfl⟩
  | o :: r, k, ρ, σ, b, hs, h => by
    simp only [runU] at h
    have up : ∀ {t : Nat}, ¬ (∃ j o', (o :: r)[j]? = some o' ∧ u.testBit (k + j) = true ∧ o'.dst = some t) → ¬ ∃ j o', r[j]? = some o' ∧ u.testBit (k + 1 + j) = true ∧ o'.dst = some t := by
      rintro t hn ⟨j, o', h1, h2, h3⟩
      exact hn ⟨j + 1, o', by simpa using h1, by rwa [show k + (j + 1) = k + 1 + j by omega], h3⟩
    split at h
    · rename_i hb
      obtain ⟨x, hx, h⟩ := T.leaf h
      obtain ⟨v, _, hv⟩ := evU_sound hs.m hx (fun y => hs.eval y)
      obtain ⟨σ', b', h1, h2, h3, h4, h5⟩ := runU_sound r (k + 1) (hs.put (dst := o.dst) hv) h
      refine ⟨σ', b', h1, h2, ⟨fun t ht => ?_, by rw [← h3.size, put_size], by rw [← h3.defers, put_defers]⟩, by rw [h4, St.put_H], by rw [h5, St.put_next]⟩
      rw [← h3.tmps t (up ht), getD_put, if_neg]
      rintro ⟨hd, _⟩
      exact ht ⟨0, o, rfl, hb, hd⟩
    · obtain ⟨σ', b', h1, h2, h3, h4, h5⟩ := runU_sound r (k + 1) hs h
      exact ⟨σ', b', h1, h2, ⟨fun t ht => h3.tmps t (up ht), h3.size, h3.defers⟩, h4, h5⟩

theorem setLD {listed : Array Bool} {i j : Nat} (hi : i < listed.size) : (listed.setIfInBounds i true).getD j false = if j = i then true else listed.getD j false := by
  rw [Array.getD_eq_getD_getElem?, Array.getD_eq_getD_getElem?]
  by_cases h : j = i
  · subst h
    rw [if_pos rfl, Array.getElem?_setIfInBounds_self_of_lt hi]
    rfl
  · rw [if_neg h, Array.getElem?_setIfInBounds_ne (Ne.symm h)]

def Late (l : List Oper) (m u : Nat) (listed : Array Bool) (t : Nat) : Prop := ∃ i o, i < m ∧ l[i]? = some o ∧ u.testBit i = true ∧ listed.getD i false = false ∧ o.dst = some t

theorem hoist_any (hG : GMono G) (hC : G C.w0) (hΓ : Γ.ok P G) {call : CallT} (hcall : CallSat P G call) {Q : Exit → Act → World → Prop} {K : Fi → Prop} {l : List Oper} {m : Nat} (hops : ops.toList = l)
    (hed : chkEdges l 0 = true) (htail : chkTail m (masks l []) 0 = true) (hml : m ≤ l.length) (hchk : chkH (l.take m) (l.take m) 0 = true) {σ0 : St} {ρ0 : Nat → Nat} {w0 : World}
    (hQ : ∀ a' w', Reach C σ0 ρ0 w0 (fun σ' => K (.go σ')) a' w' → Q .normal a' w') (hP : ∀ ch a' w', Reach C σ0 ρ0 w0 (fun σ' => K (.pan ch σ')) a' w' → Q (.panic ch) a' w') (rnd : Option Nat) :
    ∀ (fuel : Nat) (listed : Array Bool) (k : Nat) (cb : Bool) (u dn : Nat) {ρ : Nat → Nat} {σ : St} {a b : Act} {w : World}, listed.size = ops.size → (∀ j, m ≤ j → listed.getD j false = false) → Closed l (fun i => listed.getD i false) →
      (∀ i, i < m → u.testBit i = false → listed.getD i false = dn.testBit i) → (∀ j, dn.testBit j = true → j < m ∧ listed.getD j false = true) → cntN (u ||| dn) (l.take m) 0 ≤ k →
      execN P Γ call σ0.next (l.take m) (masks l []) (fun σ'' => execSeq P Γ call ops (l.drop m) σ'' K) k cb u dn σ → SRel C ρ σ b w → Agree (Late l m u listed) a b → Fr C σ0.next ρ0 σ0.H w0 ρ σ.H w → σ0.next ≤ σ.next →
      ops.size ≤ cntL (fun i => listed.getD i false) ops.size + fuel → wpAnyIn (wideR rnd) 0 P .any ops Q fuel listed a w := by
  have hlen : l.length = ops.size := by rw [← hops]; simp
  intro fuel
  induction fuel with
  | zero =>
    intro listed k cb u dn ρ σ a b w hsz htl hcl hN hdn hk ex hs hag hF hnx hfu
    have hall : ∀ i, i < m → listed.getD i false = true := by
      intro i hi
      cases hb : listed.getD i false with
      | true => rfl
      | false => have := cntL_lt (ls := fun i => listed.getD i false) hb (show i < ops.size by omega); omega
    have hk0 : cntN (u ||| dn) (l.take m) 0 = 0 := by
      refine cntN_zero fun i hi => ?_
      have him : i < m := by simp at hi; omega
      rw [Nat.zero_add, Nat.testBit_or]
      cases hu : u.testBit i with
      | true => rfl
      | false => rw [← hN i him hu, hall i him]; rfl
    have hc := cntL_split (ls := fun i => listed.getD i false) hall htl (n := ops.size)
    exact tail_any hG hC hΓ hcall hops hed htail (l.drop m) m 0 listed rfl (Nat.le_refl _) (by rw [List.length_drop]; omega) hsz
      (fun i _ => by
        by_cases him : i < m
        · rw [hall i him, decide_eq_true him]
        · rw [htl i (by omega), decide_eq_false him])
      (hs.agree ⟨fun t _ => hag.tmps t (by rintro ⟨i, o, h1, _, _, h2, _⟩; rw [hall i h1] at h2; cases h2), hag.size, hag.defers⟩) (execN_tl hk0 ex) (fun a' w' hr => hQ a' w' (hr.trans hF hnx)) (fun ch a' w' hr => hP ch a' w' (hr.trans hF hnx)) rnd
  | succ fuel ih =>
    intro listed k cb u dn ρ σ a b w hsz htl hcl hN hdn hk ex hs hag hF hnx hfu
    by_cases hall : ∀ i, i < m → listed.getD i false = true
    · have hk0 : cntN (u ||| dn) (l.take m) 0 = 0 := by
        refine cntN_zero fun i hi => ?_
        have him : i < m := by simp at hi; omega
        rw [Nat.zero_add, Nat.testBit_or]
        cases hu : u.testBit i with
        | true => rfl
        | false => rw [← hN i him hu, hall i him]; rfl
      have hc := cntL_split (ls := fun i => listed.getD i false) hall htl (n := ops.size)
      exact tail_any hG hC hΓ hcall hops hed htail (l.drop m) m (fuel + 1) listed rfl (Nat.le_refl _) (by rw [List.length_drop]; omega) hsz
        (fun i _ => by
          by_cases him : i < m
          · rw [hall i him, decide_eq_true him]
          · rw [htl i (by omega), decide_eq_false him])
        (hs.agree ⟨fun t _ => hag.tmps t (by rintro ⟨i, o, h1, _, _, h2, _⟩; rw [hall i h1] at h2; cases h2), hag.size, hag.defers⟩) (execN_tl hk0 ex) (fun a' w' hr => hQ a' w' (hr.trans hF hnx)) (fun ch a' w' hr => hP ch a' w' (hr.trans hF hnx)) rnd
    · obtain ⟨i0, hi0, hl0, hbef⟩ := least_not (ls := fun i => listed.getD i false) (m := m) (by
        apply Classical.byContradiction
        intro hn
        refine hall fun i hi => ?_
        cases hb : listed.getD i false with
        | true => rfl
        | false => exact absurd ⟨i, hi, hb⟩ hn)
      have gd : ∀ {i : Nat}, i < ops.size → listed.getD i true = listed.getD i false := by
        intro i hi
        rw [Array.getD_eq_getD_getElem?, Array.getD_eq_getD_getElem?, Array.getElem?_eq_getElem (by omega)]
        rfl
      refine ⟨fun hnil => ?_, fun i hi => ?_⟩
      · exfalso
        obtain ⟨o0, ho0⟩ : ∃ o, ops[i0]? = some o := ⟨_, Array.getElem?_eq_getElem (show i0 < ops.size by omega)⟩
        have h1 : l[i0]? = some o0 := by rw [← hops, Array.getElem?_toList]; exact ho0
        have : i0 ∈ Region.ready .any ops listed := mem_ready.2 ⟨by rw [gd (by omega)]; exact hl0, o0, ho0, fun e he hb => by
          have h2 := chkEdges_spec hed h1 e he hb
          rw [Nat.zero_add] at h2
          exact hbef _ h2⟩
        rw [hnil] at this
        cases this
      · obtain ⟨h0, o, ho, hpred⟩ := mem_ready.1 hi
        have hil : l[i]? = some o := by rw [← hops, Array.getElem?_toList]; exact ho
        have hio : i < ops.size := (Array.getElem?_eq_some_iff.1 ho).1
        have hls : listed.getD i false = false := by rw [← gd hio]; exact h0
        have him : i < m := by
          apply Classical.byContradiction
          intro hge
          obtain ⟨x, hx⟩ : ∃ x, (masks l [])[i]? = some x := ⟨_, List.getElem?_eq_getElem (by rw [(masks_prefix l []).2]; simp; omega)⟩
          have hxe := chkTail_spec htail hx (by omega)
          rw [Nat.zero_add] at hxe
          have := closed_bits hcl hed i o hil hpred x i0 hx (by rw [hxe, Nat.testBit_two_pow_sub_one]; simp; omega)
          have hl0' : listed.getD i0 false = false := hl0
          rw [show listed.getD i0 false = true from this] at hl0'
          cases hl0'
        have hpo : (l.take m)[i]? = some o := by rw [List.getElem?_take, if_pos him]; exact hil
        obtain ⟨hg, hrd, hdst, hsel⟩ := chkH_spec hchk hpo
        rw [Nat.zero_add] at hdst
        have h1sel : ∀ cs d, o.op ≠ .select cs d := fun cs d e => by simp [noSelect, e] at hsel
        have h2def : ∀ c, o.op ≠ .defer c := fun c e => by simp [noSelect, e] at hsel
        have opr : ∀ x ∈ o.op.operands, a.eval x = b.eval x := by
          intro x hx
          refine hag.eval fun t ht hlate => ?_
          subst ht
          obtain ⟨j, p, hjm, hp, _, hjl, hpd⟩ := hlate
          have := chkR_spec (hrd t (mem_tmpsOf (by simpa using hx))) (j := j) (p := p) (by rw [List.getElem?_take, if_pos hjm]; exact hp) hpd
          rw [Nat.zero_add] at this
          obtain ⟨e, he1, he2, he3⟩ := hasEdge_spec this
          have h3 := hpred e he1 he2
          rw [he3, hjl] at h3
          cases h3
        have hsz' : (listed.setIfInBounds i true).size = ops.size := by simpa using hsz
        have hil' : i < listed.size := by omega
        have htl' : ∀ j, m ≤ j → (listed.setIfInBounds i true).getD j false = false := by
          intro j hj
          rw [setLD hil', if_neg (by omega)]
          exact htl j hj
        have hcl' : Closed l (fun j => (listed.setIfInBounds i true).getD j false) := by
          intro j p hp hj e he hb
          have hj' : (listed.setIfInBounds i true).getD j false = true := hj
          show (listed.setIfInBounds i true).getD e.on false = true
          rw [setLD hil'] at hj' ⊢
          by_cases hji : j = i
          · subst hji
            rw [hil] at hp; injection hp with hp; subst hp
            rw [show listed.getD e.on false = true from hpred e he hb]
            split <;> rfl
          · rw [if_neg hji] at hj'
            rw [show listed.getD e.on false = true from hcl j p hp hj' e he hb]
            split <;> rfl
        have hfu' : ops.size ≤ cntL (fun j => (listed.setIfInBounds i true).getD j false) ops.size + fuel := by
          have e : (fun j => (listed.setIfInBounds i true).getD j false) = addL (fun j => listed.getD j false) i := by
            funext j
            rw [setLD hil']
            unfold addL
            rfl
          rw [e, cntL_add hls hio]
          omega
        unfold wpOpIn
        rw [ho]
        simp only
        rw [if_pos (by simp [Region.wanted, hg])]
        cases hu : u.testBit i with
        | true =>
          have hnb : blockedB dn i (masks l []) 0 = false := by
            cases hb : blockedB dn i (masks l []) 0 with
            | false => rfl
            | true =>
              obtain ⟨j, x, h1, h2, h3⟩ := blockedB_spec hb
              rw [Nat.zero_add] at h2
              obtain ⟨hjm, hjl⟩ := hdn j h2
              obtain ⟨p, hp⟩ : ∃ p, ops[j]? = some p := ⟨_, Array.getElem?_eq_getElem (show j < ops.size by omega)⟩
              have hjo : l[j]? = some p := by rw [← hops, Array.getElem?_toList]; exact hp
              have := closed_bits hcl hed j _ hjo (fun e he hb => hcl j _ hjo hjl e he hb) x i h1 h3
              have h4 : listed.getD i false = true := this
              rw [hls] at h4; cases h4
          obtain ⟨d, r, hd, hleaf, hor⟩ : ∃ d r, o.dst = some d ∧ (evU P σ.H σ.eval o).Leaf r ∧ (look σ.slots d = .no ∨ r = look σ.slots d) := by
            cases k with
            | zero => exact lateAll_at ex hpo (by rw [Nat.zero_add]; exact hu) (by rw [Nat.zero_add]; exact hnb)
            | succ k => exact lateAll_at ex hpo (by rw [Nat.zero_add]; exact hu) (by rw [Nat.zero_add]; exact hnb)
          obtain ⟨v, hrun, hv⟩ := evU_sound hs.m hleaf (fun x => hs.eval x)
          refine ⟨fun _ _ => trivial, ?_⟩
          rw [Oper.semAt_eq _ _ _ h2def, execOp_congr o h1sel opr, hrun]
          show wpAnyIn _ _ _ _ _ _ _ _ (a.put o.dst v) w
          have hvl : VR C ρ σ.H w (look σ.slots d) v := by
            rcases hor with h | h
            · rw [h]; exact .no
            · rw [← h]; exact hv
          refine ih (listed.setIfInBounds i true) k cb u dn (ρ := ρ) (σ := σ) (b := b.put o.dst v) hsz' htl' hcl' (fun j hj huj => ?_) (fun j hj => ?_) hk ex ?_ ?_ hF hnx hfu'
          · rw [setLD hil', if_neg (by rintro rfl; rw [hu] at huj; cases huj)]
            exact hN j hj huj
          · obtain ⟨g1, g2⟩ := hdn j hj
            refine ⟨g1, ?_⟩
            rw [setLD hil', g2]
            split <;> rfl
          · refine ⟨hs.m, fun t => ?_, by rw [put_size]; exact hs.size, by rw [put_defers]; exact hs.defers⟩
            rw [getD_put]
            split
            · rename_i hdt
              have : d = t := by have := hdt.1; rw [hd] at this; injection this
              subst this
              exact hvl
            · exact hs.slots t
          · refine ⟨fun t ht => ?_, by rw [put_size, put_size]; exact hag.size, by rw [put_defers, put_defers]; exact hag.defers⟩
            rw [getD_put, getD_put, hag.size]
            split
            · rfl
            · rename_i hnt
              by_cases htd : o.dst = some t
              · have hge : ¬ t < b.tmps.size := fun h => hnt ⟨htd, h⟩
                rw [Array.getD_eq_getD_getElem?, Array.getD_eq_getD_getElem?, Array.getElem?_eq_none (by rw [hag.size]; omega), Array.getElem?_eq_none (by omega)]
              · refine hag.tmps t ?_
                rintro ⟨j, p, g1, g2, g3, g4, g5⟩
                refine ht ⟨j, p, g1, g2, g3, ?_, g5⟩
                rw [setLD hil', if_neg (by rintro rfl; rw [hil] at g2; injection g2 with g2; subst g2; exact htd g5)]
                exact g4
        | false =>
          have hdi : dn.testBit i = false := by rw [← hN i him hu]; exact hls
          have hv : (u ||| dn).testBit i = false := by rw [Nat.testBit_or, hu, hdi]; rfl
          have hcnt := cntN_add (v := u ||| dn) (n := i) (l := l.take m) (k := 0) (i := i) (by simp; omega) (by omega) hv
          obtain ⟨k', rfl⟩ : ∃ k', k = k' + 1 := ⟨k - 1, by omega⟩
          have hen : enabB o (u ||| dn) = true := by
            unfold enabB
            rw [List.all_eq_true]
            intro e he
            cases hb : binding e with
            | false => rfl
            | true =>
              have he' : e ∈ o.after := by simpa using he
              have h3 := hpred e he' hb
              have h4 := chkEdges_spec hed hil e he' hb
              rw [Nat.zero_add] at h4
              rw [Nat.testBit_or]
              cases hue : u.testBit e.on with
              | true => rfl
              | false => rw [← hN _ (by omega) hue, h3]; rfl
          have ex' := lateAll_out (show lateAll P (masks l []) u dn σ _ (l.take m) 0 from ex)
          rw [hcnt] at ex'
          have hf := allB_mem (show allB _ _ from ex') _ (enabL_mem (k := 0) hpo (by rw [Nat.zero_add]; exact hv) hen)
          rw [Nat.zero_add] at hf
          simp only [normSt_eq] at hf
          have hw := opS_sound hG hC hΓ hcall hs hf (nx := fun b' w' => Reach C σ ρ w (fun σ' => runU P (uGrow (dn ||| 2 ^ i) (l.take m) 0 u ^^^ u) (fun σ1 => execN P Γ call σ0.next (l.take m) (masks l []) (fun σ'' => execSeq P Γ call ops (l.drop m) σ'' K) k' (cb || manyB (enabL (u ||| dn) (l.take m) 0)) (uGrow (dn ||| 2 ^ i) (l.take m) 0 u) (dn ||| 2 ^ i) σ1) (l.take m) 0 (canC (cb || manyB (enabL (u ||| dn) (l.take m) 0)) σ0.next (l.take m).length i k' σ σ')) b' w') (Q := fun _ _ _ => False)
            (fun a' w' hr => hr) (fun ch a' w' ⟨_, _, hr, _⟩ => hr.elim) rnd
          refine wpIn_agree hsel hag opr ?_ hw
          rintro a' b' w' hab ⟨ρ', σ', g1, g2, g3, g4⟩
          obtain ⟨ρ'', p2, p3, p4⟩ := canC_leads (cb || manyB (enabL (u ||| dn) (l.take m) 0)) σ0.next (l.take m).length i k' σ σ' C ρ' b' w' g2
          obtain ⟨σ1, b1, e1, e2, e3, e4, e5⟩ := runU_sound _ 0 p2 g1
          obtain ⟨gu1, gu2⟩ := uGrow_spec (m := dn ||| 2 ^ i) (l := l.take m) (k := 0) (u := u)
          have hfr := (hF.trans hnx g3).trans (Nat.le_refl _) p3
          have hnw : ∀ j, j < m → (uGrow (dn ||| 2 ^ i) (l.take m) 0 u ^^^ u).testBit j = true → (uGrow (dn ||| 2 ^ i) (l.take m) 0 u).testBit j = true ∧ (listed.setIfInBounds i true).getD j false = false := by
            intro j hj hb
            rw [Nat.testBit_xor] at hb
            have hb2 : (uGrow (dn ||| 2 ^ i) (l.take m) 0 u).testBit j = true ∧ u.testBit j = false := by
              cases h1 : u.testBit j with
              | true => rw [h1, gu1 j h1] at hb; cases hb
              | false => rw [h1] at hb; simpa using hb
            refine ⟨hb2.1, ?_⟩
            rcases gu2 j hb2.1 with h | h
            · rw [hb2.2] at h; cases h
            · rw [bit_or, Bool.or_eq_false_iff] at h
              rw [setLD hil', if_neg (by rintro rfl; simp at h), hN j hj hb2.2]
              exact h.1
          refine ih (listed.setIfInBounds i true) k' _ _ (dn ||| 2 ^ i) (ρ := ρ'') (σ := σ1) (b := b1) hsz' htl' hcl' (fun j hj huj => ?_) (fun j hj => ?_) ?_ e1 e2 ⟨fun t ht => (hab.tmps t ?_).trans (e3.tmps t ?_), hab.size.trans e3.size, hab.defers.trans e3.defers⟩ (by rw [e4]; exact hfr) (by rw [e5]; exact Nat.le_trans (Nat.le_trans hnx g4) p4) hfu'
          · have huj' : u.testBit j = false := by
              cases h1 : u.testBit j with
              | false => rfl
              | true => rw [gu1 j h1] at huj; cases huj
            rw [setLD hil', bit_or]
            by_cases hji : j = i
            · subst hji; simp
            · rw [if_neg hji, hN j hj huj', decide_eq_false (fun e => hji e.symm), Bool.or_false]
          · rw [bit_or, Bool.or_eq_true, decide_eq_true_eq] at hj
            rcases hj with hj | hj
            · obtain ⟨q1, q2⟩ := hdn j hj
              refine ⟨q1, ?_⟩
              rw [setLD hil', q2]
              split <;> rfl
            · subst hj
              exact ⟨him, by rw [setLD hil', if_pos rfl]⟩
          · have h1 : cntN (uGrow (dn ||| 2 ^ i) (l.take m) 0 u ||| (dn ||| 2 ^ i)) (l.take m) 0 ≤ cntN (u ||| dn ||| 2 ^ i) (l.take m) 0 := by
              refine cntN_mono fun j hj => ?_
              rw [Nat.or_assoc, Nat.testBit_or, Bool.or_eq_true] at hj
              rw [Nat.testBit_or, Bool.or_eq_true]
              rcases hj with h | h
              · exact Or.inl (gu1 j h)
              · exact Or.inr h
            omega
          · rintro ⟨j, p, q1, q2, q3, q4, q5⟩
            refine ht ⟨j, p, q1, q2, gu1 j q3, ?_, q5⟩
            rw [setLD hil', if_neg (by rintro rfl; rw [hu] at q3; cases q3)]
            exact q4
          · rintro ⟨j, p, q1, q2, q3⟩
            rw [Nat.zero_add] at q2
            have hjm : j < m := by
              have := (List.getElem?_eq_some_iff.1 q1).1
              rw [List.length_take] at this
              omega
            obtain ⟨n1, n2⟩ := hnw j hjm q2
            rw [List.getElem?_take, if_pos hjm] at q1
            exact ht ⟨j, p, hjm, q1, n1, n2, q3⟩

theorem execH_sound (hG : GMono G) (hC : G C.w0) (hΓ : Γ.ok P G) {call : CallT} (hcall : CallSat P G call) {Q : Exit → Act → World → Prop} {K : Fi → Prop} {ρ : Nat → Nat} {σ : St} {a : Act} {w : World}
    (hs : SRel C ρ σ a w) (h : execH P Γ call ops σ K) (hQ : ∀ a' w', Reach C σ ρ w (fun σ' => K (.go σ')) a' w' → Q .normal a' w') (hP : ∀ ch a' w', Reach C σ ρ w (fun σ' => K (.pan ch σ')) a' w' → Q (.panic ch) a' w') (rnd : Option Nat) :
    wpAnyIn (wideR rnd) 0 P .any ops Q ops.size (Array.replicate ops.size false) a { w with drawn := w.drawn + 1 } := by
  unfold execH at h
  simp only [normSt_eq] at h
  split at h
  · rename_i hc
    simp only [Bool.and_eq_true] at hc
    obtain ⟨⟨⟨hchk, hed⟩, htail⟩, hml⟩ := hc
    have hml := Nat.le_of_ble_eq_true hml
    obtain ⟨hmd, hextd⟩ := hs.m.grow (w' := w.drew) ((Below.refl _ _).drew)
    have hs' : SRel C ρ σ a w.drew := ⟨hmd, fun t => hextd.vr (hs.slots t), hs.size, hs.defers.mono hextd.data hextd.size⟩
    obtain ⟨σ', b, h1, h2, h3, h4, h5⟩ := runU_sound _ 0 hs' h
    have hrep : ∀ i, (Array.replicate ops.size false).getD i false = false := by
      intro i
      rw [Array.getD_eq_getD_getElem?]
      by_cases hi : i < ops.size
      · rw [Array.getElem?_replicate, if_pos hi]; rfl
      · rw [Array.getElem?_replicate, if_neg hi]; rfl
    refine hoist_any hG hC hΓ hcall (l := ops.toList) rfl hed htail hml hchk (σ0 := σ) (ρ0 := ρ) (w0 := w) hQ hP rnd ops.size (Array.replicate ops.size false) _ _ _ 0 (by simp) (fun j _ => hrep j) (fun j o _ hj => by have hj' : (Array.replicate ops.size false).getD j false = true := hj; rw [hrep] at hj'; cases hj') (fun i _ _ => by rw [hrep, Nat.zero_testBit]) (fun j hj => by rw [Nat.zero_testBit] at hj; cases hj) (by rw [Nat.or_zero]; exact Nat.le_refl _) h1 h2
      ⟨fun t ht => h3.tmps t ?_, h3.size, h3.defers⟩ (by rw [h4]; exact hextd.fr (n := σ.next) (fun j _ hj => hj)) (by rw [h5]; exact Nat.le_refl _) (by omega)
    rintro ⟨j, o, g1, g2, g3⟩
    rw [Nat.zero_add] at g2
    have hjm : j < splitAt (masks ops.toList []) := by
      have := (List.getElem?_eq_some_iff.1 g1).1
      rw [List.length_take] at this
      omega
    rw [List.getElem?_take, if_pos hjm] at g1
    exact ht ⟨j, o, hjm, g1, g2, hrep j, g3⟩
  · exact h.elim

theorem sat_hoist (hG : GMono G) (hmix : P.follows .mixedOrders = true) (hΓ : Γ.ok P G) {call : CallT} (hcall : CallSat P G call) {rd : Option Nat} {id : Nat} {σ : St} {Q : Exit → St → Prop}
    (h : execH P Γ call ops σ (regK Q)) : Sat P G rd (.region id ops true) σ Q :=
  fun _ hC _ _ _ hs rnd _ => wpIn_region_any hmix (execH_sound hG hC hΓ hcall hs h (fun _ _ hr => hr) (fun _ _ _ hr => hr) rnd)
end
end Go.Vg
