/-
  The engine, part R: a region whose operations may run in more than one order: what such a region must look like, and its evaluation in the order of the text. Own work; no condition.
-/
import Derived.Test.YtbdojimkdgajgaaGreatDoorEngQ
namespace Go.Vg
open Go Go.RowKit

def binding (e : Edge) : Bool := Region.binds .any e

def tmpsOf : List Operand → List Nat
  | [] => []
  | .tmp t :: r => t :: tmpsOf r
  | _ :: r => tmpsOf r

/-- The slots that an operation looks at. -/
def readsOf (ops : Array Oper) (o : Oper) : List Nat :=
  match o.guard with
  | none => tmpsOf o.op.operands.toList
  | some (j, _) => match guardSlot ops j with
    | some t => t :: tmpsOf o.op.operands.toList
    | none => tmpsOf o.op.operands.toList

def hasEdge (o : Oper) (j : Nat) : Bool := o.after.toList.any fun e => binding e && Nat.beq e.on j

/-- Slot t, read by operation i, is written by none of these, or by one that comes before i, or by one that comes behind it. -/
def chkRead (i : Nat) (o : Oper) (t : Nat) : List Oper → Nat → Bool
  | [], _ => true
  | p :: r, j => (match p.dst with
    | some d => match Nat.beq d t with
      | true => (Nat.blt j i && hasEdge o j) || (Nat.blt i j && hasEdge p i)
      | false => true
    | none => true) && chkRead i o t r (j + 1)

def chkDst (i : Nat) (d : Nat) : List Oper → Nat → Bool
  | [], _ => true
  | p :: r, j => (match p.dst with
    | some d' => match Nat.beq d d' with
      | true => Nat.beq i j
      | false => true
    | none => true) && chkDst i d r (j + 1)

def chkPre (ops : Array Oper) (pre : List Oper) : List Oper → Nat → Bool
  | [], _ => true
  | o :: r, i => (readsOf ops o).all (fun t => chkRead i o t pre 0) && (match o.dst with | some d => chkDst i d pre 0 | none => true) && chkPre ops pre r (i + 1)

/-- Each edge leads back. -/
def chkEdges : List Oper → Nat → Bool
  | [], _ => true
  | o :: r, i => o.after.toList.all (fun e => !binding e || Nat.blt e.on i) && chkEdges r (i + 1)

/-- What comes before an operation, as bits. -/
def maskEdges (acc : List Nat) : List Edge → Nat
  | [] => 0
  | e :: r => match binding e with
    | true => ((2 ^ e.on) ||| acc.getD e.on 0) ||| maskEdges acc r
    | false => maskEdges acc r

def masks : List Oper → List Nat → List Nat
  | [], acc => acc
  | o :: r, acc => masks r (acc ++ [maskEdges acc o.after.toList])

/-- From m on each operation comes behind all others. -/
def chkTail (m : Nat) : List Nat → Nat → Bool
  | [], _ => true
  | x :: r, j => (match Nat.ble m j with | true => Nat.beq x (2 ^ j - 1) | false => true) && chkTail m r (j + 1)

/-- The first place from which on each operation comes behind all others. -/
def splitAt (l : List Nat) : Nat :=
  go l.reverse l.length
where go : List Nat → Nat → Nat
  | x :: r, n + 1 => match Nat.beq x (2 ^ n - 1) with | true => go r n | false => n + 1
  | _, n => n

inductive Out where
  | ran (r : AV) (new : List (Nat × Bk))
  | skip
  /-- a store: block k becomes b -/
  | st (k : Nat) (b : Bk)

def Out.av : Out → AV
  | .ran r _ => r
  | .skip => .und
  | .st _ _ => .und
def Out.new : Out → List (Nat × Bk)
  | .ran _ n => n
  | .skip => []
  | .st _ _ => []
def Out.sts : Out → List (Nat × Bk)
  | .st k b => [(k, b)]
  | _ => []

def St.step (σ : St) (o : Oper) (u : Out) : St := ({ σ with H := u.new ++ σ.H } : St).put o.dst u.av

/-- Which operation stores into which block: the operation's own number, the block's key. -/
def skGet : List (Nat × Nat) → Nat → Option Nat
  | [], _ => none
  | (K, k) :: r, K' => match Nat.beq K K' with | true => some k | false => skGet r K'

/-- The blocks that are laid in the region, as they are then. -/
def allocs (P : Program) : List Oper → Nat → Heap
  | [], _ => []
  | o :: r, K => match o.op with
    | .alloc e => match zeroAVs P e with
      | some zs => (K, .vars e zs) :: allocs P r (K + 1)
      | none => allocs P r (K + 1)
    | _ => allocs P r (K + 1)

/-- The block that a slot will refer to, where the region lays it. -/
def laidAs (t : Nat) : List Oper → Nat → Option Nat
  | [], _ => none
  | o :: r, K => match o.op with
    | .alloc _ => match o.dst with
      | some d => match Nat.beq d t with
        | true => some K
        | false => laidAs t r (K + 1)
      | none => laidAs t r (K + 1)
    | _ => laidAs t r (K + 1)

def laidOp (a : Operand) (l : List Oper) (K : Nat) : Option Nat :=
  match a with
  | .tmp t => laidAs t l K
  | _ => none

/-- The operand whose block an address lies in, where the region computes the address (the operations from the last to the first). -/
def rootOf : List Oper → Operand → Operand
  | [], a => a
  | o :: r, a => match a with
    | .tmp t => match o.dst with
      | some d => match Nat.beq d t with
        | true => match o.op with
          | .fieldAddr _ x _ => rootOf r x
          | _ => a
        | false => rootOf r a
      | none => rootOf r a
    | _ => a

def skKey (σ : St) (pre : List Oper) (base : Nat) (a : Operand) : Option Nat :=
  match laidOp (rootOf pre.reverse a) pre base with
  | some k => some k
  | none => match σ.eval (rootOf pre.reverse a) with
    | .ptr k _ => some k
    | _ => none

def skOf (σ : St) (pre : List Oper) (base : Nat) (Hx : Heap) : List Oper → Nat → Option (List (Nat × Nat))
  | [], _ => some []
  | o :: r, K => match skOf σ pre base Hx r (K + 1) with
    | some l => match o.op with
      | .store _ a _ => match skKey σ pre base a with
        | some k => match Hx.find k with
          | some (.vars _ _) => some ((K, k) :: l)
          | _ => none
        | none => none
      | _ => some l
    | none => none

def skHas : List (Nat × Nat) → Nat → Bool
  | [], _ => false
  | (_, j) :: r, k => match Nat.beq j k with | true => true | false => skHas r k

def Bk.veil : Bk → Bk
  | .vars _ _ => .any
  | b => b

/-- The blocks into which is stored are not looked at. -/
def veil (sk : List (Nat × Nat)) : Heap → Heap
  | [] => []
  | (k, b) :: r => (k, match skHas sk k with | true => b.veil | false => b) :: veil sk r

def veilS (sk : List (Nat × Nat)) (H : Heap) : Heap :=
  match sk with
  | [] => H
  | x :: r => veil (x :: r) H

def putBlocks (H : Heap) : List (Nat × Bk) → Heap
  | [] => H
  | (k, b) :: r => (putBlocks H r).up k b

def olds (H : Heap) : List (Nat × Nat) → List (Nat × Bk)
  | [] => []
  | (_, k) :: r => match H.find k with
    | some b => (k, b) :: olds H r
    | none => olds H r

/-- Behind the stores: the blocks are as they were, or as they have been stored. -/
def unveil (H : Heap) (sk : List (Nat × Nat)) (x : St × List (Nat × Bk)) : St :=
  match sk with
  | [] => x.1
  | y :: r => { x.1 with H := putBlocks (putBlocks x.1.H (olds H (y :: r))) x.2 }

/-- What a store makes of block k. -/
def stB (P : Program) (Hs : Heap) (k : Nat) (t : TypeId) (a x : AV) : T Bk :=
  match a with
  | .ptr k' off => match Nat.beq k' k with
    | true => match Hs.find k, cellsOf x, sizeAt P t with
      | some (.vars e cells), some cs, some n => match Nat.beq cs.length n && Nat.ble (off + n) cells.length with
        | true => .ok (.vars e (over cells off cs))
        | false => .bad
      | _, _, _ => .bad
    | false => .bad
  | _ => .bad

/-- One operation of the part whose order is open. -/
def evS (P : Program) (Γ : Cons) (sk : List (Nat × Nat)) (Hs : Heap) (K : Nat) (H0 : Heap) (arg : Operand → AV) (o : Oper) : T Out :=
  match o.op with
  | .store t a x => match skGet sk K with
    | some k => (stB P Hs k t (arg a) (arg x)).bind fun b => .ok (.st k b)
    | none => .bad
  | _ => match skHas sk K with
    | false => (evM P Γ K H0 arg o).bind fun x => .ok (.ran x.1 x.2)
    | true => match o.op with
      | .alloc e => match zeroAVs P e with
        | some _ => .ok (.ran (.ptr K 0) [(K, .any)])
        | none => .bad
      | _ => .bad

/-- The operations before the split, in the order of the text; memory is read as it was at the region's beginning. -/
def preT (P : Program) (Γ : Cons) (ops : Array Oper) (sk : List (Nat × Nat)) (Hs : Heap) (H0 : Nat → Heap → Heap) : List Oper → Nat → St → List (Nat × Bk) → T (St × List (Nat × Bk))
  | [], _, σ, s => .ok (σ, s)
  | o :: rest, K, σ, s => match o.guard with
    | none => (evS P Γ sk Hs K (H0 K σ.H) σ.eval o).bind fun u => preT P Γ ops sk Hs H0 rest (K + 1) (σ.step o u) (u.sts ++ s)
    | some (j, want) => match guardSlot ops j with
      | some t => match look σ.slots t with
        | .d .bool x => .ite x
            (match want with
              | true => (evS P Γ sk Hs K (H0 K σ.H) (σ.put (some t) (.d .bool true)).eval o).bind fun u => preT P Γ ops sk Hs H0 rest (K + 1) ((σ.put (some t) (.d .bool true)).step o u) (u.sts ++ s)
              | false => preT P Γ ops sk Hs H0 rest (K + 1) ((σ.put (some t) (.d .bool true)).step o .skip) s)
            (match want with
              | true => preT P Γ ops sk Hs H0 rest (K + 1) ((σ.put (some t) (.d .bool false)).step o .skip) s
              | false => (evS P Γ sk Hs K (H0 K σ.H) (σ.put (some t) (.d .bool false)).eval o).bind fun u => preT P Γ ops sk Hs H0 rest (K + 1) ((σ.put (some t) (.d .bool false)).step o u) (u.sts ++ s))
        | .und => preT P Γ ops sk Hs H0 rest (K + 1) (σ.step o .skip) s
        | _ => .bad
      | none => .bad

/-- The blocks into which is stored only behind operation i. -/
def lateSk (pre : List Oper) (base i : Nat) : List (Nat × Nat) → List (Nat × Nat)
  | [] => []
  | (K, k) :: r => match pre[K - base]? with
    | some o => match hasEdge o i with
      | true => (K, k) :: lateSk pre base i r
      | false => lateSk pre base i r
    | none => lateSk pre base i r

/-- The blocks that the region has laid ahead of an operation. -/
def pickH (sk : List (Nat × Nat)) (o : Oper) (base : Nat) : Heap → Heap
  | [] => []
  | (k, b) :: r => match Nat.ble base k with
    | true => match hasEdge o (k - base) && !(skHas sk k) with
      | true => (k, b) :: pickH sk o base r
      | false => pickH sk o base r
    | false => []

def pickO (sk : List (Nat × Nat)) (base : Nat) (N : Heap) : Option Oper → Heap
  | some o => pickH sk o base N
  | none => []

/-- Memory as operation K may read it; N is memory as it is in the order of the text. -/
def lateH (pre : List Oper) (base : Nat) (sk : List (Nat × Nat)) (Hs H : Heap) (K : Nat) (N : Heap) : Heap :=
  pickO sk base N pre[K - base]? ++ match sk with
  | [] => H
  | y :: r => putBlocks H (olds Hs (lateSk pre base (K - base) (y :: r)))

def nodupB : List Nat → Bool
  | [] => true
  | k :: r => !(r.contains k) && nodupB r

/-- A store into a block that the region lays comes behind its laying. -/
def chkLaid (pre : List Oper) (base : Nat) : List (Nat × Nat) → Bool
  | [] => true
  | (K, k) :: r => (Nat.blt k base || (match pre[K - base]? with | some o => hasEdge o (k - base) | none => false)) && chkLaid pre base r

/-- What a slot will hold, as far as it is easily told. -/
def sourceOf (σ : St) (t : Nat) : List Oper → AV
  | [] => look σ.slots t
  | o :: r => match o.dst with
    | some d => match Nat.beq d t with
      | true => match o.op with
        | .move x => σ.eval x
        | .load _ x => match σ.eval x with
          | .ptr k _ => match σ.H.find k with
            | some (.vars _ cells) => .ag cells
            | _ => .no
          | _ => .no
        | _ => .no
      | false => sourceOf σ t r
    | none => sourceOf σ t r

def sourceArg (σ : St) (l : List Oper) (x : Operand) : AV :=
  match x with
  | .tmp t => sourceOf σ t l
  | _ => .no

/-- The rows that are given away in a region whose order is open. -/
def drawKeys (ret : Nat → Bool) (σ : St) (l : List Oper) : List Oper → List Nat
  | [] => []
  | o :: r => match o.op with
    | .call { callee := .value (.func g), args, .. } => match ret g with
      | true => ownKeysL (args.toList.map (sourceArg σ l)) ++ drawKeys ret σ l r
      | false => drawKeys ret σ l r
    | .buildSlice _ _ ps => ownKeysL (ps.toList.map fun x => sourceArg σ l x.2) ++ drawKeys ret σ l r
    | _ => drawKeys ret σ l r

/-- Does the function's result hold slices? -/
def retSl (Γ : Cons) (g : Nat) : Bool :=
  match Γ.find g with
  | some c => !(noSl c.res)
  | none => false

def St.forDraw (σ : St) (ret : Nat → Bool) (l : List Oper) : St := σ.thaws (drawKeys ret σ l l)

def execDraw (P : Program) (Γ : Cons) (call : CallT) (ops : Array Oper) (σ : St) (K : Fi → Prop) : Prop :=
  let l := ops.toList
  let ms := masks l []
  let m := splitAt ms
  match skOf σ (l.take m) σ.next (allocs P (l.take m) σ.next ++ σ.H) (l.take m) σ.next with
  | some sk => match chkPre ops (l.take m) (l.take m) 0 && chkEdges l 0 && chkTail m ms 0 && Nat.ble m l.length && nodupB (sk.map (·.2)) && chkLaid (l.take m) σ.next sk with
    | true => (preT P Γ ops sk (allocs P (l.take m) σ.next ++ σ.H) (lateH (l.take m) σ.next sk (allocs P (l.take m) σ.next ++ σ.H) (veilS sk σ.H)) (l.take m) σ.next { σ with H := veilS sk σ.H, next := σ.next + m } []).holds fun x => execSeq P Γ call ops (l.drop m) (unveil (allocs P (l.take m) σ.next ++ σ.H) sk x) K
    | false => False
  | none => False

/-- Only the operands count. -/
theorem evM_congr {P : Program} {Γ : Cons} {K : Nat} {H : Heap} {arg arg' : Operand → AV} {o : Oper} (h : ∀ x ∈ o.op.operands, arg x = arg' x) : evM P Γ K H arg o = evM P Γ K H arg' o := by
  have hmap : ∀ l : List Operand, (∀ x ∈ l, arg x = arg' x) → l.map arg = l.map arg' := fun l hl => List.map_congr_left hl
  have hmap2 : ∀ l : List (Nat × Operand), (∀ x ∈ l, arg x.2 = arg' x.2) → (l.map fun x => (x.1, arg x.2)) = l.map fun x => (x.1, arg' x.2) := fun l hl => List.map_congr_left (fun x hx => by rw [hl x hx])
  have hopt : ∀ x : Option Operand, (∀ y ∈ x, arg y = arg' y) → x.map arg = x.map arg' := fun x hx => by
    cases x with
    | none => rfl
    | some y => simp [hx y rfl]
  unfold evM evP
  cases ho : o.op with
  | call c =>
    rw [ho] at h
    obtain ⟨callee, args, ts⟩ := c
    have ha : args.toList.map arg = args.toList.map arg' := hmap _ (fun x hx => h x (by simp only [Op.operands, Call.operands]; exact Array.mem_append.2 (Or.inr (by simpa using hx))))
    cases callee with
    | value f =>
      have hf : arg f = arg' f := h f (by simp [Op.operands, Call.operands])
      simp only [hf, ha]
    | invoke r n => rfl
    | builtin b =>
      cases b <;> first | rfl | simp only [ha] | skip
      all_goals
        congr 1
        split
        · rename_i x hx
          have : arg x = arg' x := by rw [hx] at ha; simpa using ha
          rw [this]
        · rfl
  | build t ps =>
    rw [ho] at h
    simp only
    rw [hmap2 ps.toList (fun x hx => h x.2 (by simp only [Op.operands]; simp; exact ⟨x.1, by simpa using hx⟩))]
  | buildSlice t n ps =>
    rw [ho] at h
    simp only
    rw [hmap2 ps.toList (fun x hx => h x.2 (by simp only [Op.operands]; simp; exact ⟨x.1, by simpa using hx⟩))]
  | makeFunc f first caps =>
    rw [ho] at h
    have h1 : first.toList.map arg = first.toList.map arg' := hmap _ (fun x hx => h x (by simp only [Op.operands]; exact Array.mem_append.2 (Or.inl (by simpa using hx))))
    have h2 : caps.toList.map arg = caps.toList.map arg' := hmap _ (fun x hx => h x (by simp only [Op.operands]; exact Array.mem_append.2 (Or.inr (by simpa using hx))))
    cases f <;> simp only [h1, h2]
  | slice t x lo hi mx =>
    rw [ho] at h
    have h0 : arg x = arg' x := h x (by simp [Op.operands])
    have h1 := hopt lo (fun y hy => h y (by cases hy; simp [Op.operands]))
    have h2 := hopt hi (fun y hy => h y (by cases hy; simp [Op.operands]))
    have h3 := hopt mx (fun y hy => h y (by cases hy; simp [Op.operands]))
    simp only [h0, h1, h2, h3]
  | makeMap t r => cases r <;> rfl
  | _ => (rw [ho] at h; try (first | rfl | (simp [Op.operands] at h; simp [h])))

end Go.Vg
