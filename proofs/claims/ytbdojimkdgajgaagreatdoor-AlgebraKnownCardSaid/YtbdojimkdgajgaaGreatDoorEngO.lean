/-
  The engine, part O: operations one behind the other. Own work; no condition.
-/
import Derived.Test.YtbdojimkdgajgaaGreatDoorEngN
import Derived.RangeFuncNested
import Derived.OrdersIn
import Derived.TacticsIn
import Derived.Laws.Externs
namespace Go.Vg
open Go Go.RowKit

/-- What is known of the world at the start is known of every world that has grown out of it. -/
def GMono (G : World → Prop) : Prop := ∀ w w', Below w.heap.size w w' → G w → G w'

/-- What is called: a function, or the body of a range over a function. -/
inductive Tgt where
  | fn (f : FuncId)
  | yld (l : Nat)

/-- No fence; in a round of the loop whose record is block r, if there is one. -/
def wideR (r : Option Nat) : Fence := { Fence.wide with round := r }

theorem callsIn_wideR {r : Option Nat} {n : Nat} {P : Program} {f : FuncId} {args : Array Value} {w : World} {R : Ending → World → Prop} : CallsIn (wideR r) n P f args w R ↔ Calls P f args w R :=
  callsIn_wide (n := n)

theorem wpIn_of_wp {r : Option Nat} {P : Program} {o : Oper} {a : Act} {w : World} {nx : Act → World → Prop} {Q : Exit → Act → World → Prop} (hd : ∀ c, o.op ≠ .defer c) (h : o.wp P a w nx Q) : o.wpIn (wideR r) 0 P a w nx Q := by
  refine ⟨fun _ _ => trivial, ?_⟩
  rw [Oper.semAt_eq _ _ _ hd]
  unfold Oper.wp at h
  generalize (execOp a.eval o).run P w = x at h
  have hdep : (wideR r).depth.isSome = true → 1 ≤ 0 := fun h => by cases h
  cases x with
  | ok y w' =>
    cases y with
    | value v => exact h
    | skip => exact h
    | defer d => exact h
    | enter f args => exact ⟨hdep, callsIn_wideR.2 h⟩
    | row row args => exact ⟨hdep, fun c cs _ => let ⟨v, w', r, s⟩ := h c cs; ⟨v, w', r, stepsIn_wide.2 s⟩⟩
    | _ => exact h.elim
  | halt x w' => cases x <;> exact h

/-- A call that is entered: function, arguments, memory, the next key; what must hold of its result. -/
abbrev CallT := Tgt → List AV → Heap → Nat → (AV → Heap → Nat → Prop) → Prop

def hasKey (H : Heap) (k : Nat) : Bool :=
  match H.find k with
  | some _ => true
  | none => false

mutual
def ownKeys : AV → List Nat
  | .own k _ _ => [k]
  | .ox k _ _ => [k]
  | .fn _ a b => ownKeysL a ++ ownKeysL b
  | .ag l => ownKeysL l
  | .tup l => ownKeysL l
  | _ => []
def ownKeysL : List AV → List Nat
  | [] => []
  | a :: as => ownKeys a ++ ownKeysL as
end

def St.thaw (σ : St) (k : Nat) : St :=
  match σ.H.find k with
  | some (.row _ t l) => { σ with slots := mapSlots (neK k) (asData t l) σ.slots, H := σ.H.keep (neK k) (asData t l) }
  | _ => σ

def St.thaws (σ : St) : List Nat → St
  | [] => σ
  | k :: ks => (σ.thaw k).thaws ks

def deepOwn : AV → Bool
  | .ag l => match ownKeysL l with | [] => false | _ :: _ => true
  | _ => false

def anyDeep : List AV → Bool
  | [] => false
  | a :: as => deepOwn a || anyDeep as

def St.grow (σ : St) (dst : Option Nat) (r : AV) (new : Heap) : St := ({ σ with H := new ++ σ.H, next := σ.next + 1 } : St).put dst r

/-- unsafe.String of the bytes of one of the call's own rows, which is given away. -/
def unsafeStrI (P : Program) (σ : St) (dst : Option Nat) (pt : TypeId) (p : AV) (m : Int) : T St :=
  match p with
  | .eptr k 0 => match σ.H.find k with
    | some (.row e (.int .u8) l) => match P.underlying pt with
      | some (.pointer e') => match Nat.beq e' e && Nat.beq (P.cellsOf e) 1 with
        | true => .need (1 ≤ m ∧ m ≤ ((l : List Int).length : Int)) (.ok ((σ.thaw k).put dst (.d .str (strOf ((l : List Int).take m.toNat)))))
        | false => .bad
      | _ => .bad
    | _ => .bad
  | .nilp => .need (m = 0) (.ok (σ.put dst (.d .str [])))
  | _ => .bad

def unsafeStr (P : Program) (σ : St) (dst : Option Nat) (pt : TypeId) (p n : AV) : T St :=
  match n with
  | .d (.int .i64) m => unsafeStrI P σ dst pt p m
  | _ => .bad

/-- A function of the model's own that hands its argument back. -/
def noEsc (P : Program) (g : FuncId) : Bool :=
  match P.funcs[g]? with
  | some fn => fn.body.isNone && fn.name == "internal/abi.NoEscape" && (fn.origin == "internal/abi.NoEscape" || fn.origin == "")
  | none => false

/-- The state in which values are stored into a row: their own rows are given away. -/
def St.freed (σ : St) (x : AV) : St :=
  match ownKeys x with
  | [] => σ
  | k :: ks => σ.thaws (k :: ks)

def storeOp (P : Program) (σ : St) (t : TypeId) (a x : Operand) : T St :=
  match σ.eval a with
  | .eptr _ _ => storeSt P (σ.freed (σ.eval x)) t ((σ.freed (σ.eval x)).eval a) ((σ.freed (σ.eval x)).eval x)
  | _ => storeSt P σ t (σ.eval a) (σ.eval x)

def builtinOp (P : Program) (σ : St) (dst : Option Nat) (b : Builtin) (args : List Operand) (ts : List TypeId) : Option (T St) :=
  match b with
  | .append => match args, ts with
    | [s, x], [t, u] => match Nat.beq t u with
      | true => some (appendSt P σ dst t (σ.eval s) (σ.eval x).soft)
      | false => match P.underlying u with
        | some (.int _) => some (appendZ P σ dst t u (σ.eval s) (σ.eval x))
        | _ => some (appendStr P σ dst t u (σ.eval s) (σ.eval x))
    | _, _ => some .bad
  | .copy => match args, ts with
    | [d, x], [t, u] => match Nat.beq t u with
      | true => some (copySt P σ dst t (σ.eval d).soft (σ.eval x).soft)
      | false => some .bad
    | _, _ => some .bad
  | .unsafeString => match args, ts with
    | [p, n], [pt, _] => some (unsafeStr P σ dst pt (σ.eval p) (σ.eval n))
    | _, _ => some .bad
  | _ => none

/-- An entry of a map is set. -/
def setE : List (Int × AV) → Int → AV → List (Int × AV)
  | [], n, v => [(n, v)]
  | (k, x) :: r, n, v => match eqD.eqI n k with
    | true => (n, v) :: r
    | false => (k, x) :: setE r n v

def mapSt (P : Program) (σ : St) (t : TypeId) (m i v : AV) : T St :=
  match P.underlying t with
  | some (.map kt _) => match P.underlying kt with
    | some (.int k) => match m, i with
      | .mp K, .d (.int k') n => match σ.H.find K with
        | some (.dic k'' l) => match decide (k' = k) && decide (k'' = k) with
          | true => .ok { σ with H := σ.H.up K (.dic k (setE l n v)) }
          | false => .bad
        | _ => .bad
      | _, _ => .bad
    | _ => .bad
  | _ => .bad

/-! Panics. -/
/-- How an operation ends: it goes on, or it panics. -/
inductive Fi where
  | go (σ : St)
  | pan (ch : List PanicEntry) (σ : St)

/-- The chain of a panic with an interface value, if this holds a number, or a struct of one number. -/
def chainOf : AV → Option (List PanicEntry)
  | .ifc k (.pair (.int kk) .unit) x => some [{ v := .iface k (.agg #[.int kk x.1]), recovered := false }]
  | .ifc k (.int kk) x => some [{ v := .iface k (.int kk x), recovered := false }]
  | _ => none

def ofValue : Value → Option AV
  | .iface k (.agg ⟨[.int kk n]⟩) => match decide (kk.min ≤ n) && decide (n ≤ kk.max) with
    | true => some (.ifc k (.pair (.int kk) .unit) (n, ()))
    | false => none
  | .iface k (.int kk n) => match decide (kk.min ≤ n) && decide (n ≤ kk.max) with
    | true => some (.ifc k (.int kk) n)
    | false => none
  | _ => none

/-- The value of a chain of one panic. -/
def ofChain : List PanicEntry → Option AV
  | [⟨v, false, false⟩] => ofValue v
  | _ => none

/-- The same, as something to be shown. -/
def ofChainP (ch : List PanicEntry) (K : AV → Prop) : Prop := match ch with
  | [⟨.iface k (.agg ⟨[.int kk n]⟩), false, false⟩] => (kk.min ≤ n ∧ n ≤ kk.max) ∧ K (.ifc k (.pair (.int kk) .unit) (n, ()))
  | [⟨.iface k (.int kk n), false, false⟩] => (kk.min ≤ n ∧ n ≤ kk.max) ∧ K (.ifc k (.int kk) n)
  | _ => False
theorem ofChainP_of {ch : List PanicEntry} {K : AV → Prop} (h : ofChainP ch K) : ∃ x, ofChain ch = some x ∧ K x := by
  unfold ofChainP at h
  split at h
  · refine ⟨_, ?_, h.2⟩
    simp only [ofChain, ofValue, decide_eq_true h.1.1, decide_eq_true h.1.2, Bool.and_self]
  · refine ⟨_, ?_, h.2⟩
    simp only [ofChain, ofValue, decide_eq_true h.1.1, decide_eq_true h.1.2, Bool.and_self]
  · exact h.elim
theorem ofChainP_mk {ch : List PanicEntry} {x : AV} {K : AV → Prop} (h : ofChain ch = some x) (hk : K x) : ofChainP ch K := by
  unfold ofChain at h
  split at h
  · unfold ofValue at h
    split at h
    · split at h
      · rename_i hc
        injection h with h; subst h
        rw [Bool.and_eq_true, decide_eq_true_eq, decide_eq_true_eq] at hc
        exact ⟨hc, hk⟩
      · cases h
    · split at h
      · rename_i hc
        injection h with h; subst h
        rw [Bool.and_eq_true, decide_eq_true_eq, decide_eq_true_eq] at hc
        exact ⟨hc, hk⟩
      · cases h
    · cases h
  · cases h

/-- A call's result that stands for a panic. -/
def panE (x : AV) : AV := .tup [.und, .und, .und, x]
def isPan : AV → Option AV
  | .tup [.und, .und, .und, x] => some x
  | _ => none

/-- Behind an entered call. -/
def afterC (σ : St) (dst : Option Nat) (K : Fi → Prop) (r : AV) (H' : Heap) (n' : Nat) : Prop :=
  match isPan r with
  | none => K (.go (({ slots := mapSlots (hasKey H') dead σ.slots, H := H', next := n', n := σ.n } : St).put dst r))
  | some x => match chainOf x with
    | some ch => K (.pan ch { slots := mapSlots (hasKey H') dead σ.slots, H := H', next := n', n := σ.n })
    | none => False

def seqF (f : St → Prop) (K : Fi → Prop) : Fi → Prop
  | .go σ => f σ
  | .pan ch σ => K (.pan ch σ)

/-- One operation in its turn. -/
def opS (P : Program) (Γ : Cons) (call : CallT) (o : Oper) (σ : St) (K : Fi → Prop) : Prop :=
  match o.op with
  | .store t a x => (storeOp P σ t a x).holds fun σ' => K (.go (σ'.put o.dst .und))
  | .buildSlice _ _ ps => (evM P Γ (σ.freed (.ag (ps.toList.map fun x => σ.eval x.2))).next (σ.freed (.ag (ps.toList.map fun x => σ.eval x.2))).H (σ.freed (.ag (ps.toList.map fun x => σ.eval x.2))).eval o).holds
      fun x => K (.go ((σ.freed (.ag (ps.toList.map fun x => σ.eval x.2))).grow o.dst x.1 x.2))
  | .call { callee := .builtin b, args, argTypes } => match builtinOp P σ o.dst b args.toList argTypes.toList with
    | some r => r.holds fun σ' => K (.go σ')
    | none => (evM P Γ σ.next σ.H σ.eval o).holds fun x => K (.go (σ.grow o.dst x.1 x.2))
  | .call { callee := .value f, args, .. } => match σ.eval f with
    | .fn g first caps => match Γ.find g with
      | some c => match !(noSl c.res) || anyDeep (args.toList.map σ.eval) with
        | true => (evM P Γ σ.next (σ.thaws (ownKeysL (args.toList.map σ.eval))).H (σ.thaws (ownKeysL (args.toList.map σ.eval))).eval o).holds fun x => K (.go ((σ.thaws (ownKeysL (args.toList.map σ.eval))).grow o.dst x.1 x.2))
        | false => (evM P Γ σ.next σ.H σ.eval o).holds fun x => K (.go (σ.grow o.dst x.1 x.2))
      | none => match noEsc P g with
        | true => match args.toList, first, caps with
          | [x], [], [] => K (.go (σ.put o.dst (σ.eval x)))
          | _, _, _ => False
        | false => call (.fn g) (first ++ args.toList.map σ.eval ++ caps) σ.H σ.next (afterC σ o.dst K)
    | .yld l => call (.yld l) (args.toList.map σ.eval) σ.H σ.next (afterC σ o.dst K)
    | _ => False
  | .panic x => match chainOf (σ.eval x) with
    | some ch => K (.pan ch σ)
    | none => False
  | .slice _ y _ _ (some _) => (evM P Γ (σ.freed (σ.eval y)).next (σ.freed (σ.eval y)).H (σ.freed (σ.eval y)).eval o).holds fun x => K (.go ((σ.freed (σ.eval y)).grow o.dst x.1 x.2))
  | .mapUpdate t m i x => (mapSt P σ t (σ.eval m) (σ.eval i) (σ.eval x)).holds fun σ' => K (.go (σ'.put o.dst .und))
  | .insert t m i x => (mapSt P σ t (σ.eval m) (σ.eval i) (σ.eval x)).holds fun σ' => K (.go (σ'.put o.dst .und))
  | _ => (evM P Γ σ.next σ.H σ.eval o).holds fun x => K (.go (σ.grow o.dst x.1 x.2))

/-- The slot by which an operation is guarded. -/
def guardSlot (ops : Array Oper) (j : Nat) : Option Nat := (ops[j]?).bind (·.dst)

def execSeq (P : Program) (Γ : Cons) (call : CallT) (ops : Array Oper) : List Oper → St → (Fi → Prop) → Prop
  | [], σ, K => K (.go σ)
  | o :: rest, σ, K => match o.guard with
    | none => opS P Γ call o σ (seqF (fun σ' => execSeq P Γ call ops rest σ' K) K)
    | some (j, want) => match guardSlot ops j with
      | some t => match look σ.slots t with
        | .d .bool x => bcase x
            (match want with
              | true => opS P Γ call o (σ.put (some t) (.d .bool true)) (seqF (fun σ' => execSeq P Γ call ops rest σ' K) K)
              | false => execSeq P Γ call ops rest ((σ.put (some t) (.d .bool true)).put o.dst .und) K)
            (match want with
              | true => execSeq P Γ call ops rest ((σ.put (some t) (.d .bool false)).put o.dst .und) K
              | false => opS P Γ call o (σ.put (some t) (.d .bool false)) (seqF (fun σ' => execSeq P Γ call ops rest σ' K) K))
        | .und => execSeq P Γ call ops rest (σ.put o.dst .und) K
        | _ => False
      | none => False

section
variable {C : Ctx} {P : Program} {G : World → Prop}

theorem dic_set {R : AV → Value → Prop} {k : IntKind} {n : Int} {v : AV} {val : Value} (hv : R v val) (born : Nat) : ∀ {l : List (Int × AV)} {es : List MapEntry} (i : Nat), MapR R k l es →
    (Instr.findNow (.int k) (.int k n) es i = some none ∧ MapR R k (setE l n v) (es ++ [⟨.int k n, val, born⟩])) ∨
    ∃ j u, Instr.findNow (.int k) (.int k n) es i = some (some (i + j, u)) ∧ (∃ e, es[j]? = some e ∧ e.key = .int k n) ∧ MapR R k (setE l n v) (es.modify j fun e => { e with key := .int k n, val := val })
  | [], [], _, _ => Or.inl ⟨rfl, rfl, hv, trivial⟩
  | x :: l, e :: es, i, ⟨h1, h2, h3⟩ => by
    have ih := dic_set (n := n) (v := v) (val := val) hv born (i + 1) h3
    have hs : Instr.sameNow (.int k) (.int k n) e.key = some (n == x.1) := by rw [h1]; simp [Instr.sameNow]
    have e1 : setE (x :: l) n v = match n == x.1 with | true => (n, v) :: l | false => x :: setE l n v := rfl
    rw [e1]
    simp only [Instr.findNow, hs]
    cases hb : n == x.1 with
    | true =>
      have hx : n = x.1 := eq_of_beq hb
      exact Or.inr ⟨0, _, rfl, ⟨e, rfl, by rw [h1, hx]⟩, rfl, hv, h3⟩
    | false =>
      rcases ih with ⟨g1, g2⟩ | ⟨j, u, g1, g2, g3⟩
      · exact Or.inl ⟨g1, h1, h2, g2⟩
      · exact Or.inr ⟨j + 1, u, by rw [g1, Nat.add_assoc, Nat.add_comm 1 j], by simpa using g2, h1, h2, g3⟩
  | [], _ :: _, _, h => h.elim
  | _ :: _, [], _, h => h.elim

/-- A change of a block that is no row. -/
theorem MRel.chg {ρ : Nat → Nat} {H : Heap} {next : Nat} {w : World} (hm : MRel C ρ H next w) {l : Nat} {ob nb : Bk} {o O : Obj} (hk : (l, ob) ∈ H) (hl : w.heap[ρ l]? = some o) (hc : ∀ c e fr, o ≠ .cells c e fr) (hr : ∀ e t m, ob ≠ .row e t m)
    (hb : ∀ (H' : Heap) (w' : World), Ext C ρ H w ρ H' w' → w'.heap[ρ l]? = some O → BkR C ρ H' w' (ρ l) nb) :
    MRel C ρ (H.up l nb) next (w.putObj (ρ l) O) ∧ Ext C ρ H w ρ (H.up l nb) (w.putObj (ρ l) O) := by
  have hkk := mem_keys hk
  have hlt := lt_of_block hl
  have hext : Ext C ρ H w ρ (H.up l nb) (w.putObj (ρ l) O) := by
    refine ⟨fun b hb => ?_, fun j hj => ⟨by rw [Heap.keys_up]; exact hj, rfl⟩, fun j e' t m hmem => ?_, by simp⟩
    · obtain ⟨h1, h2, h3⟩ := hb
      exact ⟨⟨h1, by simpa using h2, fun j hj => h3 j (by rwa [Heap.keys_up] at hj)⟩, World.putObj_heap_other (fun e => h3 l hkk e.symm)⟩
    · have hne : j ≠ l := fun e => by subst e; exact hr _ _ _ (Heap.mem_unique hm.nodup hk hmem)
      refine ⟨m, (Heap.mem_up_ne hne).2 hmem, Nat.le_refl _, fun c fr hcc => ⟨c, fr, ?_, rfl⟩⟩
      rw [World.putObj_heap_other]; exact hcc
      intro e
      rw [e, hl] at hcc
      injection hcc with hcc
      exact hc _ _ _ hcc
  refine ⟨⟨?_, ?_, ?_, ?_, ?_, ?_⟩, hext⟩
  · exact hm.below.trans ⟨rfl, rfl, rfl, by simp, fun i hi => World.putObj_heap_other (fun e => by have := hm.low l hkk; omega)⟩
  · rw [Heap.keys_up]; exact hm.nodup
  · rw [Heap.keys_up]; exact hm.lt
  · rw [Heap.keys_up]; exact hm.inj
  · rw [Heap.keys_up]; exact hm.low
  · intro j b hjb
    by_cases hj : j = l
    · subst hj
      rw [Heap.mem_up_eq hm.nodup hjb]
      exact hb _ _ hext (World.putObj_heap_same hlt)
    · have hjb' := (Heap.mem_up_ne hj).1 hjb
      exact (hm.mem j b hjb').ext hext (World.putObj_heap_other (fun e => hj (hm.inj j (mem_keys hjb') l hkk e)))

theorem mapSt_sound {ρ : Nat → Nat} {σ σ' : St} {a : Act} {w : World} {t : TypeId} {m i v : AV} {vm vi vv : Value} (h : (mapSt P σ t m i v).Leaf σ') (hs : SRel C ρ σ a w) (hvm : VR C ρ σ.H w m vm) (hvi : VR C ρ σ.H w i vi) (hvv : VR C ρ σ.H w v vv) :
    ∃ w', (Instr.mapUpdate t vm vi vv).run P w = .ok () w' ∧ SRel C ρ σ' a w' ∧ Fr C σ.next ρ σ.H w ρ σ'.H w' ∧ σ'.next = σ.next := by
  unfold mapSt at h
  split at h
  case h_2 => cases h
  rename_i kt et hu
  split at h
  case h_2 => cases h
  rename_i k hk
  split at h
  case h_2 => cases h
  rename_i K k' n
  split at h
  case h_2 => cases h
  rename_i k'' l hf
  split at h
  case h_2 => cases h
  rename_i hc
  cases h
  rw [Bool.and_eq_true] at hc
  have e1 := of_decide_eq_true hc.1
  have e2 := of_decide_eq_true hc.2
  subst e1; subst e2
  cases hvm with
  | mp hkk =>
    obtain ⟨es, c, hb, hR⟩ := hs.m.mem _ _ (Heap.find_mem hf)
    cases hvi with
    | d hvi =>
      obtain ⟨cs, ⟨rfl, _⟩, hv'⟩ := hvi
      have hv' : [_] = [vi] := hv'
      injection hv' with hv' _
      subst hv'
      have hkey : MapKept.IsKey (.int k'') (.int k'' n) := rfl
      have fin : ∀ (es' : Array MapEntry) (c' : Nat), MapR (VR C ρ σ.H w) k'' (setE l n v) es'.toList → (Instr.mapUpdate t (.map (some (ρ K))) (.int k'' n) vv).run P w = .ok () (w.putObj (ρ K) (.map es' c')) →
          ∃ w', (Instr.mapUpdate t (.map (some (ρ K))) (.int k'' n) vv).run P w = .ok () w' ∧ SRel C ρ { σ with H := σ.H.up K (.dic k'' (setE l n v)) } a w' ∧ Fr C σ.next ρ σ.H w ρ (σ.H.up K (.dic k'' (setE l n v))) w' ∧ σ.next = σ.next := by
        intro es' c' hR' hrun
        obtain ⟨hm', hext⟩ := hs.m.chg (O := .map es' c') (nb := .dic k'' (setE l n v)) (Heap.find_mem hf) hb (fun _ _ _ h => by cases h) (fun _ _ _ h => by cases h) (fun H' w' he hh => ⟨es', c', hh, hR'.imp fun _ _ => he.vr⟩)
        have hfr := hext.fr (n := σ.next) (fun k _ hk => by rwa [Heap.keys_up] at hk)
        exact ⟨_, hrun, hs.frame (next' := σ.next) hm' hfr (fun k hk => by rw [Heap.keys_up]; exact hk), hfr, rfl⟩
      rcases dic_set hvv c 0 hR with ⟨g1, g2⟩ | ⟨j, u, g1, ⟨e, g2, g4⟩, g3⟩
      · refine fin (es.push ⟨.int k'' n, vv, c⟩) (c + 1) (by simpa using g2) ?_
        simp [Instr.mapUpdate, run_underlying hu, MapKept.run_getObj_map hb, MapKept.run_checkKey hk hkey, MapKept.run_findKey hk g1, MapKept.run_setObj_map _ hb, Result.andThen, World.putObj]
      · rw [Nat.zero_add] at g1
        have g5 : es[j]? = some e := by simpa using g2
        refine fin (es.modify j fun e => { e with key := .int k'' n, val := vv }) c (by simpa using g3) ?_
        simp [Instr.mapUpdate, run_underlying hu, MapKept.run_getObj_map hb, MapKept.run_checkKey hk hkey, MapKept.run_findKey hk g1, g5, g4, MapKept.run_keyThatStays hkey, MapKept.run_setObj_map _ hb, Result.andThen, World.putObj]

/-- Some state of which K holds has been reached. -/
def Reach (C : Ctx) (σ : St) (ρ : Nat → Nat) (w : World) (K : St → Prop) (a' : Act) (w' : World) : Prop :=
  ∃ ρ' σ', K σ' ∧ SRel C ρ' σ' a' w' ∧ Fr C σ.next ρ σ.H w ρ' σ'.H w' ∧ σ.next ≤ σ'.next

theorem Reach.trans {σ σ1 : St} {ρ ρ1 : Nat → Nat} {w w1 : World} {K : St → Prop} {a' : Act} {w' : World} (hf : Fr C σ.next ρ σ.H w ρ1 σ1.H w1) (hn : σ.next ≤ σ1.next) (h : Reach C σ1 ρ1 w1 K a' w') : Reach C σ ρ w K a' w' := by
  obtain ⟨ρ', σ', h1, h2, h3, h4⟩ := h
  exact ⟨ρ', σ', h1, h2, hf.trans hn h3, Nat.le_trans hn h4⟩

/-- What an entered call owes: how it ends. -/
def CallEnd (C : Ctx) (ρ : Nat → Nat) (H : Heap) (next : Nat) (w : World) (K : AV → Heap → Nat → Prop) (e : Ending) (w' : World) : Prop :=
  ∃ ρ' r H' n', K r H' n' ∧ MRel C ρ' H' n' w' ∧ Fr C next ρ H w ρ' H' w' ∧ next ≤ n' ∧ ((∃ v, e = .returned v ∧ isPan r = none ∧ VR C ρ' H' w' r v) ∨ ∃ x ch, r = panE x ∧ chainOf x = some ch ∧ e = .panicked ch)

/-- What an entered call owes. -/
structure CallSat (P : Program) (G : World → Prop) (call : CallT) : Prop where
  fn : ∀ f args H next K, call (.fn f) args H next K → ∀ (C : Ctx) (ρ : Nat → Nat) (w : World) (vs : List Value), G C.w0 → MRel C ρ H next w → VRs C ρ H w args vs →
    enters P f = true ∧ Calls P f ⟨vs⟩ w (CallEnd C ρ H next w K)
  yld : ∀ l args H next K, call (.yld l) args H next K → ∀ (C : Ctx) (ρ : Nat → Nat) (w : World) (vs : List Value), G C.w0 → MRel C ρ H next w → VRs C ρ H w args vs →
    ∃ fn tmps assign body, (Instr.yield (ρ l) ⟨vs⟩).run P w = .ok (.round (ρ l) fn tmps assign body) w ∧ RoundIn Fence.wide 0 P (ρ l) fn tmps assign body w (CallEnd C ρ H next w K)

theorem chainOf_sound {ρ : Nat → Nat} {H : Heap} {w : World} {x : AV} {v : Value} {ch : List PanicEntry} (h : chainOf x = some ch) (hv : VR C ρ H w x v) : ch = [{ v := v, recovered := false }] ∧ ∃ k u, v = .iface k u := by
  unfold chainOf at h
  split at h
  · injection h with h
    subst h
    cases hv with
    | ifc hr =>
      obtain ⟨cs, ⟨c1, c2, e, ⟨e1, _⟩, e2⟩, hv⟩ := hr
      have e2 : c2 = [] := e2
      subst e1; subst e2
      simp only [List.append_nil] at e
      subst e
      have hv : _ = Value.agg _ := hv
      subst hv
      exact ⟨rfl, _, _, rfl⟩
  · injection h with h
    subst h
    cases hv with
    | ifc hr =>
      obtain ⟨cs, ⟨e, _⟩, hv⟩ := hr
      have hv : cs = [_] := hv
      rw [e] at hv
      injection hv with hv
      subst hv
      exact ⟨rfl, _, _, rfl⟩
  · cases h

theorem ofChain_chain {ch : List PanicEntry} {x : AV} (h : ofChain ch = some x) : chainOf x = some ch := by
  unfold ofChain at h
  split at h
  · unfold ofValue at h
    split at h
    · split at h
      · injection h with h; subst h; rfl
      · cases h
    · split at h
      · injection h with h; subst h; rfl
      · cases h
    · cases h
  · cases h

theorem SRel.g {ρ : Nat → Nat} {σ : St} {a : Act} {w : World} (hG : GMono G) (hC : G C.w0) (h : SRel C ρ σ a w) : G w := hG _ _ h.m.below hC

theorem hasKey_iff {H : Heap} {k : Nat} : hasKey H k = true ↔ k ∈ H.keys := by
  unfold hasKey
  constructor
  · intro h
    split at h
    · rename_i b hb; exact mem_keys (Heap.find_mem hb)
    · cases h
  · intro h
    split
    · rfl
    · rename_i hn
      exfalso
      induction H with
      | nil => simp [Heap.keys] at h
      | cons x r ih =>
        obtain ⟨j, b⟩ := x
        simp only [Heap.find] at hn
        cases hb : Nat.beq j k with
        | true => rw [hb] at hn; cases hn
        | false =>
          rw [hb] at hn
          rcases List.mem_cons.1 h with e | h
          · exact beq_false hb e.symm
          · exact ih h hn

theorem St.thaw_sound {ρ : Nat → Nat} {σ : St} {a : Act} {w : World} (h : SRel C ρ σ a w) (k : Nat) : SRel C ρ (σ.thaw k) a w ∧ Fr C σ.next ρ σ.H w ρ (σ.thaw k).H w ∧ (σ.thaw k).next = σ.next := by
  unfold St.thaw
  split
  · rename_i e t l hf
    obtain ⟨h1, h2, h3⟩ := h.m.thaw (Heap.find_mem hf)
    exact ⟨h.keepTo h1 h2 (h3 0).data (Nat.le_refl _), h3 _, rfl⟩
  · exact ⟨h, Fr.refl _ _ _ _ _, rfl⟩

theorem St.thaws_sound {ρ : Nat → Nat} {a : Act} {w : World} : ∀ (ks : List Nat) {σ : St}, SRel C ρ σ a w → SRel C ρ (σ.thaws ks) a w ∧ Fr C σ.next ρ σ.H w ρ (σ.thaws ks).H w ∧ (σ.thaws ks).next = σ.next
  | [], σ, h => ⟨h, Fr.refl _ _ _ _ _, rfl⟩
  | k :: ks, σ, h => by
    obtain ⟨h1, h2, h3⟩ := St.thaw_sound h k
    obtain ⟨h4, h5, h6⟩ := St.thaws_sound ks h1
    refine ⟨h4, h2.trans (n' := (σ.thaw k).next) (by omega) h5, by rw [St.thaws, h6, h3]⟩

theorem St.freed_sound {ρ : Nat → Nat} {σ : St} {a : Act} {w : World} (h : SRel C ρ σ a w) (x : AV) : SRel C ρ (σ.freed x) a w ∧ Fr C σ.next ρ σ.H w ρ (σ.freed x).H w ∧ (σ.freed x).next = σ.next := by
  unfold St.freed
  split
  · exact ⟨h, Fr.refl _ _ _ _ _, rfl⟩
  · exact St.thaws_sound _ h

theorem noEsc_run {g : FuncId} (h : noEsc P g = true) (x : Value) (w : World) : (callFunc g #[x]).run P w = .ok (.value x) w := by
  unfold noEsc at h
  split at h
  · rename_i fn hf
    simp only [Bool.and_eq_true, Bool.or_eq_true, beq_iff_eq] at h
    obtain ⟨⟨hb, hn⟩, ho⟩ := h
    have e1 : Extern.findNext fn = none := by
      have h1 : Extern.allNextRows.lookup "internal/abi.NoEscape" = none := by kernel_rfl
      have h2 : Extern.allNextRows.lookup "" = none := by kernel_rfl
      unfold Extern.findNext
      rcases ho with ho | ho <;> simp [hn, ho, h1, h2]
    have e2 : Extern.find fn = some Extern.AbiNoEscape.same := by
      have h1 : Extern.allGenericRows.lookup "internal/abi.NoEscape" = none := by kernel_rfl
      have h2 : Extern.allTypedRows.lookup "internal/abi.NoEscape" = none := by kernel_rfl
      have h3 : Extern.allRows.lookup "internal/abi.NoEscape" = some Extern.AbiNoEscape.same := by kernel_rfl
      unfold Extern.find
      simp [hn, h1, h2, h3]
    rw [run_callFunc_extern hf (by rw [hn]; decide) hb e1 e2]
    rfl
  · cases h

/-- A row of bytes of the call's own that is made a string of: nobody writes it from now on. -/
theorem SRel.frozen {ρ : Nat → Nat} {σ : St} {a : Act} {w w' : World} (hs : SRel C ρ σ a w) {k : Nat} {e : TypeId} {t : Ty} {l : List t.T} (hf : σ.H.find k = some (.row e t l)) {fr : Nat × Nat} {c : Array Value} (hc : w.heap[ρ k]? = some (.cells c e (0, 0))) (hc' : w'.heap[ρ k]? = some (.cells c e fr))
    (hoth : ∀ j, j ≠ ρ k → w'.heap[j]? = w.heap[j]?) (hsz : w'.heap.size = w.heap.size) (hbel : Below C.w0.heap.size C.w0 w') : SRel C ρ (σ.thaw k) a w' ∧ Fr C σ.next ρ σ.H w ρ (σ.thaw k).H w' ∧ (σ.thaw k).next = σ.next := by
  have hk := Heap.find_mem hf
  have hkk := mem_keys hk
  have hm := hs.m
  have eT : σ.thaw k = { σ with slots := mapSlots (neK k) (asData t l) σ.slots, H := σ.H.keep (neK k) (asData t l) } := by unfold St.thaw; rw [hf]
  rw [eT]
  have hd : ∀ b, Ok C ρ σ.H w b → Ok C ρ (σ.H.keep (neK k) (asData t l)) w' b ∧ w'.heap[b]? = w.heap[b]? := fun b hb =>
    ⟨⟨hb.1, by rw [hsz]; exact hb.2.1, fun j hj => hb.2.2 j (Heap.keys_keep.1 hj).2⟩, hoth b (fun e => hb.2.2 k hkk e.symm)⟩
  have hokk : Ok C ρ (σ.H.keep (neK k) (asData t l)) w' (ρ k) :=
    ⟨Or.inr (hm.low k hkk), by rw [hsz]; exact hm.key_lt hkk, fun j hj e => by
      obtain ⟨h1, h2⟩ := Heap.keys_keep.1 hj
      exact neK_true h1 (hm.inj j h2 k hkk e)⟩
  have hblk : ∀ j ∈ σ.H.keys, neK k j = true → w'.heap[ρ j]? = w.heap[ρ j]? := fun j hj hp => hoth _ (fun e => neK_true hp (hm.inj j hj k hkk e))
  have hrows : ∀ j e' t' l', (j, Bk.row e' t' l') ∈ σ.H → neK k j = true → (j, Bk.row e' t' l') ∈ σ.H.keep (neK k) (asData t l) :=
    fun j e' t' l' hj hp => Heap.mem_keep.2 ⟨hp, _, hj, rfl⟩
  have hrow' : ∀ j e' t' l', (j, Bk.row e' t' l') ∈ σ.H → neK k j = true → ∃ l'', (j, Bk.row e' t' l'') ∈ σ.H.keep (neK k) (asData t l) ∧ l'.length ≤ l''.length ∧
      ∀ c fr, w.heap[ρ j]? = some (.cells c e' fr) → ∃ c' fr', w'.heap[ρ j]? = some (.cells c' e' fr') ∧ c.size = c'.size :=
    fun j e' t' l' hj hp => ⟨l', hrows j e' t' l' hj hp, Nat.le_refl _, fun c fr h => ⟨c, fr, by rw [hblk j (mem_keys hj) hp]; exact h, rfl⟩⟩
  have hv : ∀ x v, VR C ρ σ.H w x v → VR C ρ (σ.H.keep (neK k) (asData t l)) w' (x.map (neK k) (asData t l)) v := by
    intro x v hx
    refine VR.map hd (fun j hj hp => ⟨Heap.keys_keep.2 ⟨hp, hj⟩, rfl⟩) hrow' ?_ hx
    intro j off len v hp hov
    have := neK_false hp
    subst this
    cases hov with
    | own h hl hcp hmx hb hs' ha =>
      have hu := Heap.mem_unique hm.nodup hk h
      injection hu with hu1 hu2 hu3
      subst hu1; subst hu2
      have hu3 := eq_of_heq hu3
      subst hu3
      obtain ⟨c1, h1, h2, h3, h4, h5⟩ := hm.ownCells hk hl
      rw [hc] at h1
      injection h1 with h1
      injection h1 with h1 _ _
      subst h1
      refine .d ⟨_, ⟨_, _, by rw [h3], by rw [h3]; exact hcp, by rw [h3]; exact h4, ?_⟩, rfl⟩
      by_cases hnil : (l.drop off).take len = []
      · exact Or.inl hnil
      · have hpos : 0 < len := by
          rw [← h3]; exact List.length_pos_iff.2 hnil
        have ha' := ha.resolve_right (fun h => by omega)
        exact Or.inr ⟨ρ j, off * t.size, c, e, fr, ha', hokk, hc', h2, RdL.mono (fun x cs => Rd.mono hd t x cs) _ _ h5⟩
  have hm' : MRel C ρ (σ.H.keep (neK k) (asData t l)) σ.next w' := by
    refine ⟨hbel, Heap.nodup_keep hm.nodup, fun j hj => hm.lt j (Heap.keys_keep.1 hj).2, fun j hj j' hj' => hm.inj j (Heap.keys_keep.1 hj).2 j' (Heap.keys_keep.1 hj').2,
      fun j hj => hm.low j (Heap.keys_keep.1 hj).2, fun j b hj => ?_⟩
    obtain ⟨hp, b', hb', e'⟩ := Heap.mem_keep.1 hj
    subst e'
    exact (hm.mem j b' hb').map hd hv (hblk j (mem_keys hb') hp)
  refine ⟨hs.keepTo hm' hv hd (by rw [hsz]; exact Nat.le_refl _), ⟨hd, fun j _ hj => ⟨(Heap.keys_keep.1 hj).2, rfl⟩, fun j e' t' l' _ hj hj' => hrow' j e' t' l' hj (Heap.keys_keep.1 hj').1, by rw [hsz]; exact Nat.le_refl _⟩, rfl⟩

theorem rdl_range {ok : Nat → Prop} {w : World} : ∀ (l : List Int) (cs : List Value), RdL (Rd ok w (.int .u8)) l cs → ∀ x ∈ l, 0 ≤ x ∧ x ≤ 255
  | [], _, _, x, hx => by cases hx
  | y :: l, cs, ⟨c1, c2, _, ⟨_, h1, h2⟩, h3⟩, x, hx => by
    rcases List.mem_cons.1 hx with rfl | hx
    · exact ⟨h1, h2⟩
    · exact rdl_range l c2 h3 x hx

theorem freeze_size (w : World) (p : Addr) (n : Nat) : (w.freeze p n).heap.size = w.heap.size := by
  unfold World.freeze
  split <;> simp

theorem freeze_other {w : World} {b j : Nat} (h : j ≠ b) (n : Nat) : (w.freeze ⟨b, 0, none⟩ n).heap[j]? = w.heap[j]? := by
  unfold World.freeze
  split
  · rfl
  · simp [Array.getElem?_modify, Ne.symm h]

theorem freeze_same {w : World} {b : Nat} {c : Array Value} {e : TypeId} {fr : Nat × Nat} (h : w.heap[b]? = some (.cells c e fr)) (n : Nat) : ∃ fr', (w.freeze ⟨b, 0, none⟩ n).heap[b]? = some (.cells c e fr') := by
  unfold World.freeze
  split
  · exact ⟨fr, h⟩
  · simp [Array.getElem?_modify, h]

theorem unsafeRow {ρ : Nat → Nat} {σ : St} {a : Act} {w : World} {dst : Option Nat} {pt it ty e : TypeId} {k : Nat} {l : List Int} {m : Int} {c : Array Value} (hs : SRel C ρ σ a w) (hf : σ.H.find k = some (.row e (.int .u8) l)) (hc : w.heap[ρ k]? = some (.cells c e (0, 0)))
    (hlc : l.length * 1 ≤ c.size) (hr : RdL (Rd (Ok C ρ σ.H w) w (.int .u8)) l (c.toList.take (l.length * 1))) (hu : P.underlying pt = some (.pointer e)) (hcl : P.cellsOf e = 1) (h1 : 1 ≤ m) (h2 : m ≤ (l.length : Int)) :
    ∃ v w', (Builtin.unsafeString_ #[pt, it] ty #[.pointer (some ⟨ρ k, 0, none⟩), .int .i64 m]).run P w = .ok v w' ∧ SRel C ρ ((σ.thaw k).put dst (.d .str (strOf (l.take m.toNat)))) (a.put dst v) w' ∧
      Fr C σ.next ρ σ.H w ρ ((σ.thaw k).put dst (.d .str (strOf (l.take m.toNat)))).H w' ∧ ((σ.thaw k).put dst (.d .str (strOf (l.take m.toNat)))).next = σ.next := by
  obtain ⟨n, rfl⟩ : ∃ n : Nat, m = (n : Int) := ⟨m.toNat, by omega⟩
  have hn : n ≤ l.length := by omega
  have hcs := rdl_u8 _ _ hr
  rw [Nat.mul_one] at hcs hlc
  have hrng := rdl_range _ _ hr
  have hlim : l.length ≤ lim := by
    obtain ⟨_, _, _, h3, _, _⟩ := hs.m.mem k _ (Heap.find_mem hf)
    exact h3
  have hsl : (strOf (l.take n)).length = n := by simp [strOf]; omega
  have hcells : ∀ j x, (strOf (l.take n))[j]? = some x → w.cell? ((⟨ρ k, 0, none⟩ : Addr).add j) = some (.int .u8 (x.toNat : Int)) := by
    intro j x hj
    have hjn : j < n := by have := (List.getElem?_eq_some_iff.1 hj).1; omega
    have hjl : j < l.length := by omega
    unfold strOf at hj
    rw [List.getElem?_map, List.getElem?_take, if_pos hjn, List.getElem?_eq_getElem hjl] at hj
    injection hj with hj
    subst hj
    have hcj : c[j]? = some (.int .u8 l[j]) := by
      have : (c.toList.take l.length)[j]? = some (.int .u8 l[j]) := by rw [hcs]; simp [hjl]
      rw [List.getElem?_take, if_pos hjl, Array.getElem?_toList] at this
      exact this
    have hrj := hrng l[j] (List.getElem_mem hjl)
    have hto : ((UInt8.ofNat (l[j]).toNat).toNat : Int) = l[j] := by
      rw [UInt8.toNat_ofNat']
      have : (l[j]).toNat < 256 := by omega
      rw [Nat.mod_eq_of_lt (by simpa using this)]
      omega
    rw [add_mk, Nat.zero_add, hto]
    simp [World.cell?, hc, hcj]
  have hsh : w.shape? (ρ k) = some (e, c.size) := by simp [World.shape?, hc]
  have hrun := Lib.run_unsafeString_row (P := P) w pt it ty e hu hcl (ρ k) c.size hsh (strOf (l.take n)) (by intro e0; rw [e0] at hsl; simp at hsl; omega) (by omega) (by rw [hsl]; unfold lim at hlim; omega) hcells
  rw [hsl] at hrun
  obtain ⟨fr, hfr⟩ : ∃ fr, (w.freeze ⟨ρ k, 0, none⟩ n).heap[ρ k]? = some (.cells c e fr) := freeze_same hc n
  have hoth : ∀ j, j ≠ ρ k → (w.freeze ⟨ρ k, 0, none⟩ n).heap[j]? = w.heap[j]? := fun j hj => freeze_other hj n
  obtain ⟨g1, g2, g3⟩ := hs.frozen (t := .int .u8) (l := l) hf hc hfr hoth (freeze_size _ _ _) (Lib.below_freeze hs.m.below (by show C.w0.heap.size ≤ ρ k; exact hs.m.low k (mem_keys (Heap.find_mem hf))) n)
  exact ⟨_, _, hrun, g1.put (vr_str (by rw [Int.toNat_natCast]; rw [hsl]; omega)), by rw [St.put_H]; exact g2, by rw [St.put_next]; exact g3⟩

theorem unsafeI_sound {ρ : Nat → Nat} {σ σ' : St} {a : Act} {w : World} {dst : Option Nat} {pt it ty : TypeId} {p : AV} {m : Int} {vp : Value} (h : (unsafeStrI P σ dst pt p m).Leaf σ') (hs : SRel C ρ σ a w) (hvp : VR C ρ σ.H w p vp) :
    ∃ v w', (Builtin.unsafeString_ #[pt, it] ty #[vp, .int .i64 m]).run P w = .ok v w' ∧ SRel C ρ σ' (a.put dst v) w' ∧ Fr C σ.next ρ σ.H w ρ σ'.H w' ∧ σ'.next = σ.next := by
  unfold unsafeStrI at h
  split at h
  · rename_i k
    split at h
    · rename_i e l hf
      split at h
      · rename_i e' hu
        split at h
        · rename_i hb
          simp only [Bool.and_eq_true] at hb
          have he := beq_true hb.1
          subst he
          have hcl := beq_true hb.2
          cases h with
          | need hp h =>
            cases h
            cases hvp with
            | eptr hk hi =>
              obtain ⟨c, d1, d2, d3, d4, d5⟩ := hs.m.mem k _ (Heap.find_mem hf)
              rw [Nat.zero_mul]
              exact unsafeRow hs hf d1 d2 d4 hu hcl hp.1 hp.2
        · cases h
      · cases h
    · cases h
  · cases h with
    | need hp h =>
      cases h
      cases hvp
      refine ⟨_, w, by rw [hp]; exact Lib.run_unsafeString_none w pt it ty none, hs.put (vr_str (Nat.zero_le _)), by rw [St.put_H]; exact Fr.refl _ _ _ _ _, by rw [St.put_next]⟩
  · cases h

theorem unsafeStr_sound {ρ : Nat → Nat} {σ σ' : St} {a : Act} {w : World} {dst : Option Nat} {pt it ty : TypeId} {p n : AV} {vp vn : Value} (h : (unsafeStr P σ dst pt p n).Leaf σ') (hs : SRel C ρ σ a w) (hvp : VR C ρ σ.H w p vp) (hvn : VR C ρ σ.H w n vn) :
    ∃ v w', (Builtin.unsafeString_ #[pt, it] ty #[vp, vn]).run P w = .ok v w' ∧ SRel C ρ σ' (a.put dst v) w' ∧ Fr C σ.next ρ σ.H w ρ σ'.H w' ∧ σ'.next = σ.next := by
  unfold unsafeStr at h
  split at h
  · rename_i m
    obtain ⟨e1, _⟩ := int_value hvn
    subst e1
    exact unsafeI_sound h hs hvp
  · cases h

theorem evM_keys {Γ : Cons} {K : Nat} {H : Heap} {arg : Operand → AV} {o : Oper} {r : AV} {new : List (Nat × Bk)} (h : (evM P Γ K H arg o).Leaf (r, new)) : ∀ x ∈ new, x.1 = K := by
  unfold evM at h
  split at h
  · obtain ⟨_, _, h⟩ := T.Leaf.bind h; cases h; intro x hx; cases hx
  · split at h <;> cases h; intro x hx; simp at hx; subst hx; rfl
  · split at h <;> cases h; intro x hx; simp at hx; subst hx; rfl
  · split at h <;> first | (cases h; done) | skip
    split at h <;> first | (cases h; done) | skip
    split at h <;> first | (cases h; done) | skip
    split at h <;> first | (cases h; done) | skip
    split at h <;> first | (cases h; done) | skip
    split at h
    · cases h; intro x hx; cases hx
    split at h
    · cases h
      intro x hx; simp at hx; subst hx; rfl
    · cases h
      intro x hx; simp at hx; subst hx; rfl
  · split at h
    · unfold strBytes at h
      split at h <;> first | (cases h; done) | skip
      split at h <;> first | (cases h; done) | skip
      cases h; intro x hx; cases hx
    · obtain ⟨_, _, h⟩ := T.Leaf.bind h; cases h; intro x hx; cases hx
  · split at h <;> first | (cases h; done) | skip
    split at h <;> cases h
    intro x hx; simp at hx; subst hx; rfl
  · split at h <;> first | (cases h; done) | skip
    split at h <;> first | (cases h; done) | skip
    unfold makeI at h
    split at h <;> first | (cases h; done) | skip
    split at h <;> first | (cases h; done) | skip
    · unfold makeV at h
      split at h <;> first | (cases h; done) | skip
      split at h <;> first | (cases h; done) | skip
      cases h with
      | need _ h =>
        cases h
        intro x hx; simp at hx; subst hx; rfl
    split at h <;> first | (cases h; done) | skip
    split at h <;> first | (cases h; done) | skip
    cases h with
    | need _ h =>
      cases h
      intro x hx; simp at hx; subst hx; rfl
  · split at h <;> first | (cases h; done) | skip
    split at h <;> first | (cases h; done) | skip
    split at h <;> first | (cases h; done) | skip
    split at h <;> first | (cases h; done) | skip
    cases h with
    | need _ h =>
      intro x hx
      rw [show new = [] from conRes_new h] at hx
      cases hx
  · unfold appendE at h
    split at h <;> first | (cases h; done) | skip
    split at h <;> first | (cases h; done) | skip
    split at h <;> first | (cases h; done) | skip
    split at h <;> first | (cases h; done) | skip
    split at h <;> first | (cases h; done) | skip
    split at h <;> first | (cases h; done) | skip
    split at h <;> first | (cases h; done) | skip
    unfold appendNew at h
    cases h with
    | need _ h => cases h; intro x hx; cases hx
  · obtain ⟨_, _, h⟩ := T.Leaf.bind h; cases h; intro x hx; cases hx

theorem evM_reach (hG : GMono G) (hC : G C.w0) {Γ : Cons} (hΓ : Γ.ok P G) {ρ : Nat → Nat} {σ : St} {a : Act} {w : World} {o : Oper} {K : St → Prop} {nx : Act → World → Prop} {Q : Exit → Act → World → Prop}
    (hs : SRel C ρ σ a w) (h : (evM P Γ σ.next σ.H σ.eval o).holds fun x => K (σ.grow o.dst x.1 x.2)) (hnx : ∀ a' w', Reach C σ ρ w K a' w' → nx a' w') : o.wp P a w nx Q := by
  obtain ⟨⟨r, new⟩, h1, h2⟩ := T.leaf h
  have hK : σ.next ∉ σ.H.keys := fun h => absurd (hs.m.lt _ h) (Nat.lt_irrefl _)
  refine evM_wp (fun _ h => h) (hs.m.mono (Nat.le_succ σ.next)) hK (Nat.lt_succ_self _) hΓ (hs.g hG hC) (fun x => hs.eval x) h1 (fun v ρ' w' hm' hext hv hb => hnx _ _ ?_)
  have hkeys : ∀ k, k < σ.next → k ∈ Heap.keys (new ++ σ.H) → k ∈ σ.H.keys := by
    intro k hk hm
    simp only [Heap.keys, List.map_append, List.mem_append] at hm
    rcases hm with hm | hm
    · exfalso
      have hnew := evM_keys h1
      obtain ⟨x, hx, e⟩ := List.mem_map.1 hm
      have := hnew x hx
      omega
    · exact hm
  have hfr := hext.fr (n := σ.next) hkeys
  have hsr := (hs.frame (next' := σ.next + 1) hm' hfr (fun k hk => (hext.keys k hk).1)).put (dst := o.dst) hv
  exact ⟨ρ', σ.grow o.dst r new, h2, hsr, by unfold St.grow; rw [St.put_H]; exact hfr, by unfold St.grow; rw [St.put_next]; exact Nat.le_succ _⟩

end
end Go.Vg
