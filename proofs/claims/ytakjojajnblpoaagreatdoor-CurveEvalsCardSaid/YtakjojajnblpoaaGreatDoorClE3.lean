/-
  An evaluator of Go code over plain data, proved sound against the model. Own work; no condition.
-/
import Derived.Test.YtakjojajnblpoaaGreatDoorClE2
import Derived.RangeFuncNested
import Derived.OrdersIn
import Derived.TacticsIn
import Derived.Laws.Externs
import Derived.Tactics
set_option linter.unusedVariables false
set_option linter.unusedSimpArgs false
namespace Go.Vg
open Go Go.RowKit
def ap3 (G : World → Prop) : Prop := ∀ w w', Below w.heap.size w w' → G w → G w'
inductive Tgt where
 | fn (f : FuncId)
 | yld (l : Nat)
def afL (r : Option Nat) : Fence := { Fence.wide with round := r }
theorem callsIn_wideR {r : Option Nat} {n : Nat} {P : Program} {f : FuncId} {args : Array Value} {w : World} {R : Ending → World → Prop} : CallsIn (afL r) n P f args w R ↔ Calls P f args w R :=
 callsIn_wide (n := n)
theorem abP {r : Option Nat} {P : Program} {o : Oper} {a : Act} {w : World} {nx : Act → World → Prop} {Q : Exit → Act → World → Prop} (hd : ∀ c, o.op ≠ .defer c) (h : o.wp P a w nx Q) : o.wpIn (afL r) 0 P a w nx Q := by
 refine ⟨fun _ _ => trivial, ?_⟩
 rw [Oper.semAt_eq _ _ _ hd]
 unfold Oper.wp at h
 generalize (execOp a.eval o).run P w = x at h
 have hdep : (afL r).depth.isSome = true → 1 ≤ 0 := fun h => by cases h
 cases x with
 | ok y w' =>
  cases y with
  | value v => exact h
  | skip => exact h
  | defer d => exact h
  | enter f args => exact ⟨hdep, callsIn_wideR.2 h⟩
  | row row args => exact ⟨hdep, fun c cs _ => let ⟨v, w', r, s⟩ := h c cs; ⟨v, w', r, stepsIn_wide.2 s⟩⟩
  | _ => exact h.elim
 | halt x w' => cases x <;> exact h
abbrev al2 := Tgt → List AV → Heap → Nat → (AV → Heap → Nat → Prop) → Prop
def ah6 (H : Heap) (k : Nat) : Bool :=
 match H.find k with
 | some _ => true
 | none => false
mutual
def aNj : AV → List Nat
 | .own k _ _ => [k]
 | .fn _ a b => ae3 a ++ ae3 b
 | .ag l => ae3 l
 | .tup l => ae3 l
 | _ => []
def ae3 : List AV → List Nat
 | [] => []
 | a :: as => aNj a ++ ae3 as
end
def St.thaw (σ : St) (k : Nat) : St :=
 match σ.H.find k with
 | some (.row _ t l) => { σ with slots := adV (neK k) (afG t l) σ.slots, H := σ.H.keep (neK k) (afG t l) }
 | _ => σ
def St.thaws (σ : St) : List Nat → St
 | [] => σ
 | k :: ks => (σ.thaw k).thaws ks
def aSU : AV → Bool
 | .ag l => match ae3 l with | [] => false | _ :: _ => true
 | _ => false
def aPu : List AV → Bool
 | [] => false
 | a :: as => aSU a || aPu as
def St.grow (σ : St) (dst : Option Nat) (r : AV) (new : Heap) : St := ({ σ with H := new ++ σ.H, next := σ.next + 1 } : St).put dst r
def asH (P : Program) (σ : St) (dst : Option Nat) (pt : TypeId) (p : AV) (m : Int) : T St :=
 match p with
 | .eptr k 0 => match σ.H.find k with
  | some (.row e (.int .u8) l) => match P.underlying pt with
   | some (.pointer e') => match Nat.beq e' e && Nat.beq (P.cellsOf e) 1 with
    | true => .need (1 ≤ m ∧ m ≤ ((l : List Int).length : Int)) (.ok ((σ.thaw k).put dst (.d .str (aoT ((l : List Int).take m.toNat)))))
    | false => .bad
   | _ => .bad
  | _ => .bad
 | .nilp => .need (m = 0) (.ok (σ.put dst (.d .str [])))
 | _ => .bad
def awJ (P : Program) (σ : St) (dst : Option Nat) (pt : TypeId) (p n : AV) : T St :=
 match n with
 | .d (.int .i64) m => asH P σ dst pt p m
 | _ => .bad
def aSu (P : Program) (g : FuncId) : Bool :=
 match P.funcs[g]? with
 | some fn => fn.body.isNone && fn.name == "internal/abi.NoEscape" && (fn.origin == "internal/abi.NoEscape" || fn.origin == "")
 | none => false
def St.freed (σ : St) (x : AV) : St :=
 match aNj x with
 | [] => σ
 | k :: ks => σ.thaws (k :: ks)
def aMz (P : Program) (σ : St) (t : TypeId) (a x : Operand) : T St :=
 match σ.eval a with
 | .eptr _ _ => awN P (σ.freed (σ.eval x)) t ((σ.freed (σ.eval x)).eval a) ((σ.freed (σ.eval x)).eval x)
 | _ => awN P σ t (σ.eval a) (σ.eval x)
def aFJ (P : Program) (σ : St) (dst : Option Nat) (b : Builtin) (args : List Operand) (ts : List TypeId) : Option (T St) :=
 match b with
 | .append => match args, ts with
  | [s, x], [t, u] => match Nat.beq t u with
   | true => some (aDu P σ dst t (σ.eval s) (σ.eval x))
   | false => some (azJ P σ dst t u (σ.eval s) (σ.eval x))
  | _, _ => some .bad
 | .copy => match args, ts with
  | [d, x], [t, u] => match Nat.beq t u with
   | true => some (aO2 P σ dst t (σ.eval d) (σ.eval x))
   | false => some .bad
  | _, _ => some .bad
 | .unsafeString => match args, ts with
  | [p, n], [pt, _] => some (awJ P σ dst pt (σ.eval p) (σ.eval n))
  | _, _ => some .bad
 | _ => none
def opS (P : Program) (Γ : Cons) (call : al2) (o : Oper) (σ : St) (K : St → Prop) : Prop :=
 match o.op with
 | .store t a x => (aMz P σ t a x).holds fun σ' => K (σ'.put o.dst .und)
 | .buildSlice _ _ ps => (evM P Γ (σ.freed (.ag (ps.toList.map fun x => σ.eval x.2))).next (σ.freed (.ag (ps.toList.map fun x => σ.eval x.2))).H (σ.freed (.ag (ps.toList.map fun x => σ.eval x.2))).eval o).holds
   fun x => K ((σ.freed (.ag (ps.toList.map fun x => σ.eval x.2))).grow o.dst x.1 x.2)
 | .call { callee := .builtin b, args, argTypes } => match aFJ P σ o.dst b args.toList argTypes.toList with
  | some r => r.holds K
  | none => (evM P Γ σ.next σ.H σ.eval o).holds fun x => K (σ.grow o.dst x.1 x.2)
 | .call { callee := .value f, args, .. } => match σ.eval f with
  | .fn g first caps => match Γ.find g with
   | some c => match !(noSl c.res) || aPu (args.toList.map σ.eval) with
    | true => (evM P Γ σ.next (σ.thaws (ae3 (args.toList.map σ.eval))).H (σ.thaws (ae3 (args.toList.map σ.eval))).eval o).holds fun x => K ((σ.thaws (ae3 (args.toList.map σ.eval))).grow o.dst x.1 x.2)
    | false => (evM P Γ σ.next σ.H σ.eval o).holds fun x => K (σ.grow o.dst x.1 x.2)
   | none => match aSu P g with
    | true => match args.toList, first, caps with
     | [x], [], [] => K (σ.put o.dst (σ.eval x))
     | _, _, _ => False
    | false => call (.fn g) (first ++ args.toList.map σ.eval ++ caps) σ.H σ.next fun r H' n' => K (({ slots := adV (ah6 H') aDb σ.slots, H := H', next := n', n := σ.n } : St).put o.dst r)
  | .yld l => call (.yld l) (args.toList.map σ.eval) σ.H σ.next fun r H' n' => K (({ slots := adV (ah6 H') aDb σ.slots, H := H', next := n', n := σ.n } : St).put o.dst r)
  | _ => False
 | _ => (evM P Γ σ.next σ.H σ.eval o).holds fun x => K (σ.grow o.dst x.1 x.2)
def ac6 (ops : Array Oper) (j : Nat) : Option Nat := (ops[j]?).bind (·.dst)
def aeP (P : Program) (Γ : Cons) (call : al2) (ops : Array Oper) : List Oper → St → (St → Prop) → Prop
 | [], σ, K => K σ
 | o :: rest, σ, K => match o.guard with
  | none => opS P Γ call o σ fun σ' => aeP P Γ call ops rest σ' K
  | some (j, want) => match ac6 ops j with
   | some t => match af8 σ.slots t with
    | .d .bool x => aLH x
      (match want with
       | true => opS P Γ call o (σ.put (some t) (.d .bool true)) fun σ' => aeP P Γ call ops rest σ' K
       | false => aeP P Γ call ops rest ((σ.put (some t) (.d .bool true)).put o.dst .und) K)
      (match want with
       | true => aeP P Γ call ops rest ((σ.put (some t) (.d .bool false)).put o.dst .und) K
       | false => opS P Γ call o (σ.put (some t) (.d .bool false)) fun σ' => aeP P Γ call ops rest σ' K)
    | .und => aeP P Γ call ops rest (σ.put o.dst .und) K
    | _ => False
   | none => False
section
variable {C : Ctx} {P : Program} {G : World → Prop}
def Reach (C : Ctx) (σ : St) (ρ : Nat → Nat) (w : World) (K : St → Prop) (a' : Act) (w' : World) : Prop :=
 ∃ ρ' σ', K σ' ∧ SRel C ρ' σ' a' w' ∧ Fr C σ.next ρ σ.H w ρ' σ'.H w' ∧ σ.next ≤ σ'.next
theorem Reach.trans {σ σ1 : St} {ρ ρ1 : Nat → Nat} {w w1 : World} {K : St → Prop} {a' : Act} {w' : World} (hf : Fr C σ.next ρ σ.H w ρ1 σ1.H w1) (hn : σ.next ≤ σ1.next) (h : Reach C σ1 ρ1 w1 K a' w') : Reach C σ ρ w K a' w' := by
 obtain ⟨ρ', σ', h1, h2, h3, h4⟩ := h
 exact ⟨ρ', σ', h1, h2, hf.trans hn h3, zC hn h4⟩
def aDG (C : Ctx) (ρ : Nat → Nat) (H : Heap) (next : Nat) (w : World) (K : AV → Heap → Nat → Prop) (e : Ending) (w' : World) : Prop :=
 ∃ v ρ' r H' n', e = .returned v ∧ K r H' n' ∧ MRel C ρ' H' n' w' ∧ VR C ρ' H' w' r v ∧ Fr C next ρ H w ρ' H' w' ∧ next ≤ n'
structure CallSat (P : Program) (G : World → Prop) (call : al2) : Prop where
 fn : ∀ f args H next K, call (.fn f) args H next K → ∀ (C : Ctx) (ρ : Nat → Nat) (w : World) (vs : List Value), G C.w0 → MRel C ρ H next w → VRs C ρ H w args vs →
  alX P f = true ∧ Calls P f ⟨vs⟩ w (aDG C ρ H next w K)
 yld : ∀ l args H next K, call (.yld l) args H next K → ∀ (C : Ctx) (ρ : Nat → Nat) (w : World) (vs : List Value), G C.w0 → MRel C ρ H next w → VRs C ρ H w args vs →
  ∃ fn tmps assign body, (Instr.yield (ρ l) ⟨vs⟩).run P w = .ok (.round (ρ l) fn tmps assign body) w ∧ RoundIn Fence.wide 0 P (ρ l) fn tmps assign body w (aDG C ρ H next w K)
theorem SRel.g {ρ : Nat → Nat} {σ : St} {a : Act} {w : World} (hG : ap3 G) (hC : G C.w0) (h : SRel C ρ σ a w) : G w := hG _ _ h.m.below hC
theorem hasKey_iff {H : Heap} {k : Nat} : ah6 H k = true ↔ k ∈ H.keys := by
 unfold ah6
 constructor
 ·intro h
  split at h
  ·rename_i b hb; exact aaO (Heap.find_mem hb)
  ·cases h
 ·intro h
  split
  ·rfl
  ·rename_i hn
   exfalso
   induction H with
   | nil => simp [Heap.keys] at h
   | cons x r ih =>
    obtain ⟨j, b⟩ := x
    simp only [Heap.find] at hn
    cases hb : Nat.beq j k with
    | true => rw [hb] at hn; cases hn
    | false =>
     rw [hb] at hn
     rcases zy.1 h with e | h
     ·exact ac9 hb e.symm
     ·exact ih h hn
theorem St.thaw_sound {ρ : Nat → Nat} {σ : St} {a : Act} {w : World} (h : SRel C ρ σ a w) (k : Nat) : SRel C ρ (σ.thaw k) a w ∧ Fr C σ.next ρ σ.H w ρ (σ.thaw k).H w ∧ (σ.thaw k).next = σ.next := by
 unfold St.thaw
 split
 ·rename_i e t l hf
  obtain ⟨h1, h2, h3⟩ := h.m.thaw (Heap.find_mem hf)
  exact ⟨h.keepTo h1 h2 (h3 0).data (zq _), h3 _, rfl⟩
 ·exact ⟨h, Fr.refl _ _ _ _ _, rfl⟩
theorem St.thaws_sound {ρ : Nat → Nat} {a : Act} {w : World} : ∀ (ks : List Nat) {σ : St}, SRel C ρ σ a w → SRel C ρ (σ.thaws ks) a w ∧ Fr C σ.next ρ σ.H w ρ (σ.thaws ks).H w ∧ (σ.thaws ks).next = σ.next
 | [], σ, h => ⟨h, Fr.refl _ _ _ _ _, rfl⟩
 | k :: ks, σ, h => by
  obtain ⟨h1, h2, h3⟩ := St.thaw_sound h k
  obtain ⟨h4, h5, h6⟩ := St.thaws_sound ks h1
  refine ⟨h4, h2.trans (n' := (σ.thaw k).next) zc h5, by rw [St.thaws, h6, h3]⟩
theorem St.freed_sound {ρ : Nat → Nat} {σ : St} {a : Act} {w : World} (h : SRel C ρ σ a w) (x : AV) : SRel C ρ (σ.freed x) a w ∧ Fr C σ.next ρ σ.H w ρ (σ.freed x).H w ∧ (σ.freed x).next = σ.next := by
 unfold St.freed
 split
 ·exact ⟨h, Fr.refl _ _ _ _ _, rfl⟩
 ·exact St.thaws_sound _ h
theorem aNW {g : FuncId} (h : aSu P g = true) (x : Value) (w : World) : (callFunc g #[x]).run P w = .ok (.value x) w := by
 unfold aSu at h
 split at h
 ·rename_i fn hf
  simp only [zw, wX, yF] at h
  obtain ⟨⟨hb, hn⟩, ho⟩ := h
  have e1 : Extern.findNext fn = none := by
   have h1 : Extern.allNextRows.lookup "internal/abi.NoEscape" = none := by kernel_rfl
   have h2 : Extern.allNextRows.lookup "" = none := by kernel_rfl
   unfold Extern.findNext
   rcases ho with ho | ho <;> simp [hn, ho, h1, h2]
  have e2 : Extern.find fn = some Extern.AbiNoEscape.same := by
   have h1 : Extern.allGenericRows.lookup "internal/abi.NoEscape" = none := by kernel_rfl
   have h2 : Extern.allTypedRows.lookup "internal/abi.NoEscape" = none := by kernel_rfl
   have h3 : Extern.allRows.lookup "internal/abi.NoEscape" = some Extern.AbiNoEscape.same := by kernel_rfl
   unfold Extern.find
   simp [hn, h1, h2, h3]
  rw [run_callFunc_extern hf (by rw [hn]; decide) hb e1 e2]
  rfl
 ·cases h
theorem SRel.frozen {ρ : Nat → Nat} {σ : St} {a : Act} {w w' : World} (hs : SRel C ρ σ a w) {k : Nat} {e : TypeId} {t : Ty} {l : List t.T} (hf : σ.H.find k = some (.row e t l)) {fr : Nat × Nat} {c : Array Value} (hc : w.heap[ρ k]? = some (.cells c e (0, 0))) (hc' : w'.heap[ρ k]? = some (.cells c e fr))
  (hoth : ∀ j, j ≠ ρ k → w'.heap[j]? = w.heap[j]?) (hsz : w'.heap.size = w.heap.size) (hbel : Below C.w0.heap.size C.w0 w') : SRel C ρ (σ.thaw k) a w' ∧ Fr C σ.next ρ σ.H w ρ (σ.thaw k).H w' ∧ (σ.thaw k).next = σ.next := by
 have hk := Heap.find_mem hf
 have hkk := aaO hk
 have hm := hs.m
 have eT : σ.thaw k = { σ with slots := adV (neK k) (afG t l) σ.slots, H := σ.H.keep (neK k) (afG t l) } := by unfold St.thaw; rw [hf]
 rw [eT]
 have hd : ∀ b, Ok C ρ σ.H w b → Ok C ρ (σ.H.keep (neK k) (afG t l)) w' b ∧ w'.heap[b]? = w.heap[b]? := fun b hb =>
  ⟨⟨hb.1, by rw [hsz]; exact hb.2.1, fun j hj => hb.2.2 j (Heap.keys_keep.1 hj).2⟩, hoth b (fun e => hb.2.2 k hkk e.symm)⟩
 have hokk : Ok C ρ (σ.H.keep (neK k) (afG t l)) w' (ρ k) :=
  ⟨Or.inr (hm.low k hkk), by rw [hsz]; exact hm.key_lt hkk, fun j hj e => by
   obtain ⟨h1, h2⟩ := Heap.keys_keep.1 hj
   exact aiW h1 (hm.inj j h2 k hkk e)⟩
 have hblk : ∀ j ∈ σ.H.keys, neK k j = true → w'.heap[ρ j]? = w.heap[ρ j]? := fun j hj hp => hoth _ (fun e => aiW hp (hm.inj j hj k hkk e))
 have hrows : ∀ j e' t' l', (j, Bk.row e' t' l') ∈ σ.H → neK k j = true → (j, Bk.row e' t' l') ∈ σ.H.keep (neK k) (afG t l) :=
  fun j e' t' l' hj hp => Heap.mem_keep.2 ⟨hp, _, hj, rfl⟩
 have hrow' : ∀ j e' t' l', (j, Bk.row e' t' l') ∈ σ.H → neK k j = true → ∃ l'', (j, Bk.row e' t' l'') ∈ σ.H.keep (neK k) (afG t l) ∧ l'.length ≤ l''.length ∧
   ∀ c fr, w.heap[ρ j]? = some (.cells c e' fr) → ∃ c' fr', w'.heap[ρ j]? = some (.cells c' e' fr') ∧ c.size = c'.size :=
  fun j e' t' l' hj hp => ⟨l', hrows j e' t' l' hj hp, zq _, fun c fr h => ⟨c, fr, by rw [hblk j (aaO hj) hp]; exact h, rfl⟩⟩
 have hv : ∀ x v, VR C ρ σ.H w x v → VR C ρ (σ.H.keep (neK k) (afG t l)) w' (x.map (neK k) (afG t l)) v := by
  intro x v hx
  refine VR.map hd (fun j hj hp => ⟨Heap.keys_keep.2 ⟨hp, hj⟩, rfl⟩) hrow' ?_ hx
  intro j off len v hp hov
  have := aEW hp
  subst this
  cases hov with
  | own h hl hcp hmx hb hs' ha =>
   have hu := Heap.mem_unique hm.nodup hk h
   injection hu with hu1 hu2 hu3
   subst hu1; subst hu2
   have hu3 := eq_of_heq hu3
   subst hu3
   obtain ⟨c1, h1, h2, h3, h4, h5⟩ := hm.ownCells hk hl
   rw [hc] at h1
   injection h1 with h1
   injection h1 with h1 _ _
   subst h1
   refine .d ⟨_, ⟨_, _, by rw [h3], by rw [h3]; exact hcp, by rw [h3]; exact h4, ?_⟩, rfl⟩
   by_cases hnil : (l.drop off).take len = []
   ·exact Or.inl hnil
   ·have hpos : 0 < len := by
     rw [← h3]; exact ya.2 hnil
    have ha' := ha.resolve_right (fun h => by omega)
    exact Or.inr ⟨ρ j, off * t.size, c, e, fr, ha', hokk, hc', h2, RdL.mono (fun x cs => Rd.mono hd t x cs) _ _ h5⟩
 have hm' : MRel C ρ (σ.H.keep (neK k) (afG t l)) σ.next w' := by
  refine ⟨hbel, Heap.nodup_keep hm.nodup, fun j hj => hm.lt j (Heap.keys_keep.1 hj).2, fun j hj j' hj' => hm.inj j (Heap.keys_keep.1 hj).2 j' (Heap.keys_keep.1 hj').2,
   fun j hj => hm.low j (Heap.keys_keep.1 hj).2, fun j b hj => ?_⟩
  obtain ⟨hp, b', hb', e'⟩ := Heap.mem_keep.1 hj
  subst e'
  exact (hm.mem j b' hb').map hd hv (hblk j (aaO hb') hp)
 refine ⟨hs.keepTo hm' hv hd (by rw [hsz]; exact zq _), ⟨hd, fun j _ hj => ⟨(Heap.keys_keep.1 hj).2, rfl⟩, fun j e' t' l' _ hj hj' => hrow' j e' t' l' hj (Heap.keys_keep.1 hj').1, by rw [hsz]; exact zq _⟩, rfl⟩
theorem aD3 {ok : Nat → Prop} {w : World} : ∀ (l : List Int) (cs : List Value), RdL (Rd ok w (.int .u8)) l cs → ∀ x ∈ l, 0 ≤ x ∧ x ≤ 255
 | [], _, _, x, hx => by cases hx
 | y :: l, cs, ⟨c1, c2, _, ⟨_, h1, h2⟩, h3⟩, x, hx => by
  rcases zy.1 hx with rfl | hx
  ·exact ⟨h1, h2⟩
  ·exact aD3 l c2 h3 x hx
theorem aHu (w : World) (p : Addr) (n : Nat) : (w.freeze p n).heap.size = w.heap.size := by
 unfold World.freeze
 split <;> simp
theorem aFa {w : World} {b j : Nat} (h : j ≠ b) (n : Nat) : (w.freeze ⟨b, 0, none⟩ n).heap[j]? = w.heap[j]? := by
 unfold World.freeze
 split
 ·rfl
 ·simp [Array.getElem?_modify, Ne.symm h]
theorem aHv {w : World} {b : Nat} {c : Array Value} {e : TypeId} {fr : Nat × Nat} (h : w.heap[b]? = some (.cells c e fr)) (n : Nat) : ∃ fr', (w.freeze ⟨b, 0, none⟩ n).heap[b]? = some (.cells c e fr') := by
 unfold World.freeze
 split
 ·exact ⟨fr, h⟩
 ·simp [Array.getElem?_modify, h]
theorem aMq {ρ : Nat → Nat} {σ : St} {a : Act} {w : World} {dst : Option Nat} {pt it ty e : TypeId} {k : Nat} {l : List Int} {m : Int} {c : Array Value} (hs : SRel C ρ σ a w) (hf : σ.H.find k = some (.row e (.int .u8) l)) (hc : w.heap[ρ k]? = some (.cells c e (0, 0)))
  (hlc : l.length * 1 ≤ c.size) (hr : RdL (Rd (Ok C ρ σ.H w) w (.int .u8)) l (c.toList.take (l.length * 1))) (hu : P.underlying pt = some (.pointer e)) (hcl : P.cellsOf e = 1) (h1 : 1 ≤ m) (h2 : m ≤ (l.length : Int)) :
  ∃ v w', (Builtin.unsafeString_ #[pt, it] ty #[.pointer (some ⟨ρ k, 0, none⟩), .int .i64 m]).run P w = .ok v w' ∧ SRel C ρ ((σ.thaw k).put dst (.d .str (aoT (l.take m.toNat)))) (a.put dst v) w' ∧
   Fr C σ.next ρ σ.H w ρ ((σ.thaw k).put dst (.d .str (aoT (l.take m.toNat)))).H w' ∧ ((σ.thaw k).put dst (.d .str (aoT (l.take m.toNat)))).next = σ.next := by
 obtain ⟨n, rfl⟩ : ∃ n : Nat, m = (n : Int) := ⟨m.toNat, by omega⟩
 have hn : n ≤ l.length := zc
 have hcs := aMO _ _ hr
 rw [xJ] at hcs hlc
 have hrng := aD3 _ _ hr
 have hlim : l.length ≤ lim := by
  obtain ⟨_, _, _, h3, _, _⟩ := hs.m.mem k _ (Heap.find_mem hf)
  exact h3
 have hsl : (aoT (l.take n)).length = n := by simp [aoT]; omega
 have hcells : ∀ j x, (aoT (l.take n))[j]? = some x → w.cell? ((⟨ρ k, 0, none⟩ : Addr).add j) = some (.int .u8 (x.toNat : Int)) := by
  intro j x hj
  have hjn : j < n := by have := (zP.1 hj).1; omega
  have hjl : j < l.length := zc
  unfold aoT at hj
  rw [List.getElem?_map, yw, if_pos hjn, zR hjl] at hj
  injection hj with hj
  subst hj
  have hcj : c[j]? = some (.int .u8 l[j]) := by
   have : (c.toList.take l.length)[j]? = some (.int .u8 l[j]) := by rw [hcs]; simp [hjl]
   rw [yw, if_pos hjl, yV] at this
   exact this
  have hrj := hrng l[j] (yf hjl)
  have hto : ((UInt8.ofNat (l[j]).toNat).toNat : Int) = l[j] := by
   rw [UInt8.toNat_ofNat']
   have : (l[j]).toNat < 256 := zc
   rw [yE (by simpa using this)]
   omega
  rw [am2, zu, hto]
  simp [World.cell?, hc, hcj]
 have hsh : w.shape? (ρ k) = some (e, c.size) := by simp [World.shape?, hc]
 have hrun := Lib.run_unsafeString_row (P := P) w pt it ty e hu hcl (ρ k) c.size hsh (aoT (l.take n)) (by intro e0; rw [e0] at hsl; simp at hsl; omega) zc (by rw [hsl]; unfold lim at hlim; omega) hcells
 rw [hsl] at hrun
 obtain ⟨fr, hfr⟩ : ∃ fr, (w.freeze ⟨ρ k, 0, none⟩ n).heap[ρ k]? = some (.cells c e fr) := aHv hc n
 have hoth : ∀ j, j ≠ ρ k → (w.freeze ⟨ρ k, 0, none⟩ n).heap[j]? = w.heap[j]? := fun j hj => aFa hj n
 obtain ⟨g1, g2, g3⟩ := hs.frozen (t := .int .u8) (l := l) hf hc hfr hoth (aHu _ _ _) (Lib.below_freeze hs.m.below (by show C.w0.heap.size ≤ ρ k; exact hs.m.low k (aaO (Heap.find_mem hf))) n)
 exact ⟨_, _, hrun, g1.put (aAE (by rw [zp]; rw [hsl]; omega)), by rw [St.put_H]; exact g2, by rw [St.put_next]; exact g3⟩
theorem aB3 {ρ : Nat → Nat} {σ σ' : St} {a : Act} {w : World} {dst : Option Nat} {pt it ty : TypeId} {p : AV} {m : Int} {vp : Value} (h : (asH P σ dst pt p m).Leaf σ') (hs : SRel C ρ σ a w) (hvp : VR C ρ σ.H w p vp) :
  ∃ v w', (Builtin.unsafeString_ #[pt, it] ty #[vp, .int .i64 m]).run P w = .ok v w' ∧ SRel C ρ σ' (a.put dst v) w' ∧ Fr C σ.next ρ σ.H w ρ σ'.H w' ∧ σ'.next = σ.next := by
 unfold asH at h
 split at h
 ·rename_i k
  split at h
  ·rename_i e l hf
   split at h
   ·rename_i e' hu
    split at h
    ·rename_i hb
     simp only [zw] at hb
     have he := aaK hb.1
     subst he
     have hcl := aaK hb.2
     cases h with
     | need hp h =>
      cases h
      cases hvp with
      | eptr hk hi =>
       obtain ⟨c, d1, d2, d3, d4, d5⟩ := hs.m.mem k _ (Heap.find_mem hf)
       rw [vC]
       exact aMq hs hf d1 d2 d4 hu hcl hp.1 hp.2
    ·cases h
   ·cases h
  ·cases h
 ·cases h with
  | need hp h =>
   cases h
   cases hvp
   refine ⟨_, w, by rw [hp]; exact Lib.run_unsafeString_none w pt it ty none, hs.put (aAE (yg _)), by rw [St.put_H]; exact Fr.refl _ _ _ _ _, by rw [St.put_next]⟩
 ·cases h
theorem awI {ρ : Nat → Nat} {σ σ' : St} {a : Act} {w : World} {dst : Option Nat} {pt it ty : TypeId} {p n : AV} {vp vn : Value} (h : (awJ P σ dst pt p n).Leaf σ') (hs : SRel C ρ σ a w) (hvp : VR C ρ σ.H w p vp) (hvn : VR C ρ σ.H w n vn) :
  ∃ v w', (Builtin.unsafeString_ #[pt, it] ty #[vp, vn]).run P w = .ok v w' ∧ SRel C ρ σ' (a.put dst v) w' ∧ Fr C σ.next ρ σ.H w ρ σ'.H w' ∧ σ'.next = σ.next := by
 unfold awJ at h
 split at h
 ·rename_i m
  obtain ⟨e1, _⟩ := ac5 hvn
  subst e1
  exact aB3 h hs hvp
 ·cases h
theorem aq6 {Γ : Cons} {K : Nat} {H : Heap} {arg : Operand → AV} {o : Oper} {r : AV} {new : List (Nat × Bk)} (h : (evM P Γ K H arg o).Leaf (r, new)) : ∀ x ∈ new, x.1 = K := by
 unfold evM at h
 split at h
 ·obtain ⟨_, _, h⟩ := T.Leaf.bind h; cases h; intro x hx; cases hx
 ·split at h <;> cases h; intro x hx; simp at hx; subst hx; rfl
 ·split at h <;> cases h; intro x hx; simp at hx; subst hx; rfl
 ·split at h <;> first | (cases h; done) | skip
  split at h <;> first | (cases h; done) | skip
  split at h <;> first | (cases h; done) | skip
  split at h <;> first | (cases h; done) | skip
  split at h <;> first | (cases h; done) | skip
  split at h
  ·cases h
   intro x hx; simp at hx; subst hx; rfl
  ·cases h; intro x hx; cases hx
 ·split at h
  ·unfold ap9 at h
   split at h <;> first | (cases h; done) | skip
   split at h <;> first | (cases h; done) | skip
   cases h; intro x hx; cases hx
  ·obtain ⟨_, _, h⟩ := T.Leaf.bind h; cases h; intro x hx; cases hx
 ·split at h <;> first | (cases h; done) | skip
  split at h <;> first | (cases h; done) | skip
  unfold aN6 at h
  split at h <;> first | (cases h; done) | skip
  split at h <;> first | (cases h; done) | skip
  ·unfold aN5 at h
   split at h <;> first | (cases h; done) | skip
   split at h <;> first | (cases h; done) | skip
   cases h with
   | need _ h =>
    cases h
    intro x hx; simp at hx; subst hx; rfl
  split at h <;> first | (cases h; done) | skip
  split at h <;> first | (cases h; done) | skip
  cases h with
  | need _ h =>
   cases h
   intro x hx; simp at hx; subst hx; rfl
 ·split at h <;> first | (cases h; done) | skip
  split at h <;> first | (cases h; done) | skip
  split at h <;> first | (cases h; done) | skip
  split at h <;> first | (cases h; done) | skip
  cases h with
  | need _ h =>
   intro x hx
   rw [show new = [] from aBC h] at hx
   cases hx
 ·obtain ⟨_, _, h⟩ := T.Leaf.bind h; cases h; intro x hx; cases hx
theorem amT (hG : ap3 G) (hC : G C.w0) {Γ : Cons} (hΓ : Γ.ok P G) {ρ : Nat → Nat} {σ : St} {a : Act} {w : World} {o : Oper} {K : St → Prop} {nx : Act → World → Prop} {Q : Exit → Act → World → Prop}
  (hs : SRel C ρ σ a w) (h : (evM P Γ σ.next σ.H σ.eval o).holds fun x => K (σ.grow o.dst x.1 x.2)) (hnx : ∀ a' w', Reach C σ ρ w K a' w' → nx a' w') : o.wp P a w nx Q := by
 obtain ⟨⟨r, new⟩, h1, h2⟩ := T.leaf h
 have hK : σ.next ∉ σ.H.keys := fun h => absurd (hs.m.lt _ h) (wQ _)
 refine aRR (fun _ h => h) (hs.m.mono (xK σ.next)) hK (xG _) hΓ (hs.g hG hC) (fun x => hs.eval x) h1 (fun v ρ' w' hm' hext hv hb => hnx _ _ ?_)
 have hkeys : ∀ k, k < σ.next → k ∈ Heap.keys (new ++ σ.H) → k ∈ σ.H.keys := by
  intro k hk hm
  simp only [Heap.keys, xT, zJ] at hm
  rcases hm with hm | hm
  ·exfalso
   have hnew := aq6 h1
   obtain ⟨x, hx, e⟩ := zM.1 hm
   have := hnew x hx
   omega
  ·exact hm
 have hfr := hext.fr (n := σ.next) hkeys
 have hsr := (hs.frame (next' := σ.next + 1) hm' hfr (fun k hk => (hext.keys k hk).1)).put (dst := o.dst) hv
 exact ⟨ρ', σ.grow o.dst r new, h2, hsr, by unfold St.grow; rw [St.put_H]; exact hfr, by unfold St.grow; rw [St.put_next]; exact xK _⟩
end
open Go Go.RowKit
section
variable {C : Ctx} {P : Program} {G : World → Prop}
theorem aOJ {Γ : Cons} {K : Nat} {H : Heap} {arg : Operand → AV} {o : Oper} {x : AV × List (Nat × Bk)} (h : (evM P Γ K H arg o).Leaf x) : ∀ c, o.op ≠ .defer c := by
 intro c e
 simp only [evM, evP, e] at h
 obtain ⟨_, h1, _⟩ := T.Leaf.bind h
 cases h1
theorem aNp {Γ : Cons} {call : al2} {o : Oper} {σ : St} {K : St → Prop} (h : opS P Γ call o σ K) : ∀ c, o.op ≠ .defer c := by
 intro c e
 simp only [opS, evM, evP, e] at h
 exact h
theorem aNo (hG : ap3 G) (hC : G C.w0) {Γ : Cons} (hΓ : Γ.ok P G) {call : al2} (hcall : CallSat P G call) {ρ : Nat → Nat} {σ : St} {a : Act} {w : World} {o : Oper} {K : St → Prop} {nx : Act → World → Prop} {Q : Exit → Act → World → Prop}
  (hs : SRel C ρ σ a w) (h : opS P Γ call o σ K) (hnx : ∀ a' w', Reach C σ ρ w K a' w' → nx a' w') (rnd : Option Nat) : o.wpIn (afL rnd) 0 P a w nx Q := by
 have hnd := aNp h
 unfold opS at h
 split at h
 ·rename_i t x y ho
  obtain ⟨σ', h1, h2⟩ := T.leaf h
  unfold aMz at h1
  have fin : ∀ (σ1 : St), SRel C ρ σ1 a w → Fr C σ.next ρ σ.H w ρ σ1.H w → σ1.next = σ.next → (awN P σ1 t (σ1.eval x) (σ1.eval y)).Leaf σ' → o.wpIn (afL rnd) 0 P a w nx Q := by
   intro σ1 hs1 hf1 hn1 h1
   obtain ⟨w', h3, h4, h5, h6⟩ := aB7 h1 hs1 (hs1.eval x) (hs1.eval y)
   refine abP hnd ?_
   unfold Oper.wp
   rw [show (execOp a.eval o).run P w = .ok .skip w' by simp [execOp, ho, h3]]
   exact hnx _ _ ⟨ρ, _, h2, h4.put .und, by rw [St.put_H]; exact hf1.trans (by rw [hn1]; exact zq _) h5, by rw [St.put_next, h6, hn1]; exact zq _⟩
  split at h1
  ·obtain ⟨g1, g2, g3⟩ := St.freed_sound hs (σ.eval y)
   exact fin _ g1 g2 g3 h1
  ·exact fin σ hs (Fr.refl _ _ _ _ _) rfl h1
 ·rename_i t n ps ho
  obtain ⟨h1, h2, h3⟩ := St.freed_sound hs (.ag (ps.toList.map fun x => σ.eval x.2))
  exact abP hnd <| amT hG hC hΓ h1 h (fun a' w' hr => hnx a' w' (hr.trans h2 (by rw [h3]; exact zq _)))
 ·rename_i bt args ts ho
  split at h
  ·rename_i r hr
   obtain ⟨σ', h1, h2⟩ := T.leaf h
   unfold aFJ at hr
   split at hr
   ·split at hr
    ·rename_i s x t u hargs hts
     have e1 : args.map a.eval = #[a.eval s, a.eval x] := by apply Array.ext'; simp [hargs]
     have e2 : ts = #[t, u] := by apply Array.ext'; simp [hts]
     split at hr
     ·rename_i hb
      have hb := aaK hb
      subst hb
      injection hr with hr
      subst hr
      obtain ⟨v, w', ρ', h3, h4, h5, h6⟩ := aAy (ty := o.type) h1 hs (hs.eval s) (hs.eval x)
      refine abP hnd ?_
      unfold Oper.wp
      rw [show (execOp a.eval o).run P w = .ok (.value v) w' by subst e2; simp [execOp, ho, resolve, invoke, builtin, e1, h3]]
      exact hnx _ _ ⟨ρ', _, h2, h4, h5, h6⟩
     ·injection hr with hr
      subst hr
      obtain ⟨v, w', ρ', h3, h4, h5, h6⟩ := azI (ty := o.type) h1 hs (hs.eval s) (hs.eval x)
      refine abP hnd ?_
      unfold Oper.wp
      rw [show (execOp a.eval o).run P w = .ok (.value v) w' by subst e2; simp [execOp, ho, resolve, invoke, builtin, e1, h3]]
      exact hnx _ _ ⟨ρ', _, h2, h4, h5, h6⟩
    ·injection hr with hr; subst hr; cases h1
   ·split at hr
    ·rename_i d x t u hargs hts
     have e1 : args.map a.eval = #[a.eval d, a.eval x] := by apply Array.ext'; simp [hargs]
     have e2 : ts = #[t, u] := by apply Array.ext'; simp [hts]
     split at hr
     ·injection hr with hr
      subst hr
      obtain ⟨v, w', h3, h4, h5, h6⟩ := aFz (t2 := u) (ty := o.type) h1 hs (hs.eval d) (hs.eval x)
      refine abP hnd ?_
      unfold Oper.wp
      rw [show (execOp a.eval o).run P w = .ok (.value v) w' by subst e2; simp [execOp, ho, resolve, invoke, builtin, e1, h3]]
      exact hnx _ _ ⟨ρ, _, h2, h4, h5, by rw [h6]; exact zq _⟩
     ·injection hr with hr; subst hr; cases h1
    ·injection hr with hr; subst hr; cases h1
   ·split at hr
    ·rename_i p n pt it hargs hts
     have e1 : args.map a.eval = #[a.eval p, a.eval n] := by apply Array.ext'; simp [hargs]
     have e2 : ts = #[pt, it] := by apply Array.ext'; simp [hts]
     injection hr with hr
     subst hr
     obtain ⟨v, w', h3, h4, h5, h6⟩ := awI (it := it) (ty := o.type) h1 hs (hs.eval p) (hs.eval n)
     refine abP hnd ?_
     unfold Oper.wp
     rw [show (execOp a.eval o).run P w = .ok (.value v) w' by subst e2; simp [execOp, ho, resolve, invoke, builtin, e1, h3]]
     exact hnx _ _ ⟨ρ, _, h2, h4, h5, by rw [h6]; exact zq _⟩
    ·injection hr with hr; subst hr; cases h1
   ·cases hr
  ·exact abP hnd <| amT hG hC hΓ hs h hnx
 ·rename_i f args ts ho
  split at h
  ·rename_i g first caps hf
   split at h
   ·rename_i c hc
    split at h
    ·obtain ⟨h1, h2, h3⟩ := St.thaws_sound (ae3 (args.toList.map σ.eval)) hs
     rw [← h3] at h
     exact abP hnd <| amT hG hC hΓ h1 h (fun a' w' hr => hnx a' w' (hr.trans h2 (by rw [h3]; exact zq _)))
    ·exact abP hnd <| amT hG hC hΓ hs h hnx
   ·split at h
    ·rename_i hne
     split at h
     ·rename_i x hargs
      have hfv := hs.eval f
      rw [hf] at hfv
      generalize hvf : a.eval f = vf at hfv
      cases hfv with
      | fn h1 h2 =>
       cases h1
       cases h2
       refine abP hnd ?_
       unfold Oper.wp
       have e1 : args.map a.eval = #[a.eval x] := by apply Array.ext'; simp [hargs]
       rw [show (execOp a.eval o).run P w = .ok (.value (a.eval x)) w by
        simp only [execOp, ho, resolve, Deferred.ofValue, hvf, Sem.run_bind, Sem.run_pure, Result.andThen_ok, invoke]
        rw [e1]
        exact aNW hne _ w]
       exact hnx _ _ ⟨ρ, _, h, hs.put (hs.eval x), by rw [St.put_H]; exact Fr.refl _ _ _ _ _, by rw [St.put_next]; exact zq _⟩
     ·exact h.elim
    ·have hfv := hs.eval f
     rw [hf] at hfv
     generalize hvf : a.eval f = vf at hfv
     cases hfv with
     | fn h1 h2 =>
      obtain ⟨he, hcl⟩ := hcall.fn _ _ _ _ _ h C ρ w _ hC hs.m ((h1.append (VRs.ofMap (fun x => hs.eval x) args.toList)).append h2)
      refine abP hnd ?_
      unfold Oper.wp
      rw [aJj ho hvf he]
      show Calls P g _ w _
      refine hcl.mono ?_
      rintro e w' ⟨v, ρ', r, H', n', rfl, hK, hm', hv, hfr, hn⟩
      refine hnx _ _ ⟨ρ', _, hK, (hs.keepTo hm' ?_ hfr.data hfr.size).put hv, by rw [St.put_H]; exact hfr, by rw [St.put_next]; exact hn⟩
      intro x v hx
      refine VR.map hfr.data (fun k hk hp => ⟨hasKey_iff.1 hp, (hfr.keys k (hs.m.lt k hk) (hasKey_iff.1 hp)).2⟩) (fun k e t l hk hp => ?_) (fun _ _ _ _ _ _ => .no) hx
      exact hfr.rows k e t l (hs.m.lt k (aaO hk)) hk (hasKey_iff.1 hp)
  ·rename_i l hf
   have hfv := hs.eval f
   rw [hf] at hfv
   generalize hvf : a.eval f = vf at hfv
   cases hfv with
   | yld hl =>
    obtain ⟨fn, tmps, assign, body, hy, hr⟩ := hcall.yld _ _ _ _ _ h C ρ w _ hC hs.m (VRs.ofMap (fun x => hs.eval x) args.toList)
    refine ⟨fun _ _ => trivial, ?_⟩
    rw [Oper.semAt_eq _ _ _ hnd]
    rw [show (execOp a.eval o).run P w = .ok (.round (ρ l) fn tmps assign body) w by
     simp only [execOp, ho, resolve, Deferred.ofValue, hvf, Sem.run_bind, Sem.run_pure, Result.andThen_ok, invoke]
     have e1 : #[] ++ args.map a.eval ++ #[] = ⟨args.toList.map a.eval⟩ := by apply Array.ext'; simp
     simp only [Array.empty_append, Array.append_empty] at e1 ⊢
     rw [e1]; exact hy]
    refine ⟨fun h => (by cases h), ?_⟩
    refine RoundIn.mono hr ?_
    rintro e w' ⟨v, ρ', r, H', n', rfl, hK, hm', hv, hfr, hn⟩
    refine hnx _ _ ⟨ρ', _, hK, (hs.keepTo hm' ?_ hfr.data hfr.size).put hv, by rw [St.put_H]; exact hfr, by rw [St.put_next]; exact hn⟩
    intro x v hx
    refine VR.map hfr.data (fun k hk hp => ⟨hasKey_iff.1 hp, (hfr.keys k (hs.m.lt k hk) (hasKey_iff.1 hp)).2⟩) (fun k e t l hk hp => ?_) (fun _ _ _ _ _ _ => .no) hx
    exact hfr.rows k e t l (hs.m.lt k (aaO hk)) hk (hasKey_iff.1 hp)
  ·exact h.elim
 ·exact abP hnd <| amT hG hC hΓ hs h hnx
theorem aP7 {ρ : Nat → Nat} {σ : St} {a : Act} {w : World} (hs : SRel C ρ σ a w) {t : Nat} {b : Bool} (h : af8 σ.slots t = .d .bool b) : a.tmps[t]? = some (.bool b) := by
 have := hs.slots t
 rw [h] at this
 have e := agC this
 rw [zI] at e
 cases hg : a.tmps[t]? with
 | none => rw [hg] at e; cases e
 | some v => rw [hg] at e; simp at e; rw [e]
theorem auH {ρ : Nat → Nat} {σ : St} {a : Act} {w : World} (hs : SRel C ρ σ a w) {ops : Array Oper} {j t : Nat} (ht : ac6 ops j = some t) {b : Bool} (h : af8 σ.slots t = .d .bool b) : yielded ops a.tmps j = some b := by
 unfold yielded
 unfold ac6 at ht
 rw [ht]
 simp [aP7 hs h]
theorem aGb {ρ : Nat → Nat} {σ : St} {a : Act} {w : World} (hs : SRel C ρ σ a w) {ops : Array Oper} {j t : Nat} (ht : ac6 ops j = some t) (h : af8 σ.slots t = .und) : yielded ops a.tmps j = none := by
 unfold yielded
 unfold ac6 at ht
 rw [ht]
 have := hs.slots t
 rw [h] at this
 have e : a.tmps.getD t undef = undef := by generalize a.tmps.getD t undef = v at this; cases this; rfl
 rw [zI] at e
 simp only [zO]
 cases hg : a.tmps[t]? with
 | none => rfl
 | some v => rw [hg] at e; simp at e; rw [e]; rfl
theorem SRel.refine {ρ : Nat → Nat} {σ : St} {a : Act} {w : World} (hs : SRel C ρ σ a w) {t : Nat} {x : AV} (h : af8 σ.slots t = x) : SRel C ρ (σ.put (some t) x) a w := by
 refine ⟨by rw [St.put_H, St.put_next]; exact hs.m, fun u => ?_, ?_, by rw [St.put_H]; exact hs.defers⟩
 ·rw [St.put_H]
  simp only [St.put]
  split
  ·simp only [af8]
   cases hu : Nat.beq t u with
   | true => have := aaK hu; subst this; simp only; rw [← h]; exact hs.slots t
   | false => simp only; rw [apJ (ac9 hu)]; exact hs.slots u
  ·exact hs.slots u
 ·simp only [St.put]; split <;> exact hs.size
theorem au7 (hG : ap3 G) (hC : G C.w0) {Γ : Cons} (hΓ : Γ.ok P G) {call : al2} (hcall : CallSat P G call) {ops : Array Oper} {Q : Exit → Act → World → Prop} {K : St → Prop} {o : Oper} {rest : List Oper}
  {ρ : Nat → Nat} {σ : St} {a : Act} {w : World} {nx : Act → World → Prop} (hs : SRel C ρ σ a w) (h : aeP P Γ call ops (o :: rest) σ K)
  (hnx : ∀ a' w', Reach C σ ρ w (fun σ' => aeP P Γ call ops rest σ' K) a' w' → nx a' w') (rnd : Option Nat) :
  if Region.wanted o (yielded ops a.tmps) then o.wpIn (afL rnd) 0 P a w nx Q else (∀ f, o.about P w a.eval = some f → (afL rnd).fn f) ∧ nx (a.put o.dst undef) w := by
 have run : ∀ {ρ1 : Nat → Nat} {σ1 : St}, SRel C ρ1 σ1 a w → Fr C σ.next ρ σ.H w ρ1 σ1.H w → σ.next ≤ σ1.next → (opS P Γ call o σ1 fun σ' => aeP P Γ call ops rest σ' K) → o.wpIn (afL rnd) 0 P a w nx Q := by
  intro ρ1 σ1 hs1 hf1 hn1 h1
  exact aNo hG hC hΓ hcall hs1 h1 (fun a' w' hr => hnx a' w' (hr.trans hf1 hn1)) rnd
 have skip : ∀ {ρ1 : Nat → Nat} {σ1 : St}, SRel C ρ1 σ1 a w → Fr C σ.next ρ σ.H w ρ1 σ1.H w → σ.next ≤ σ1.next → aeP P Γ call ops rest (σ1.put o.dst .und) K → (∀ f, o.about P w a.eval = some f → (afL rnd).fn f) ∧ nx (a.put o.dst undef) w := by
  intro ρ1 σ1 hs1 hf1 hn1 h1
  exact ⟨fun _ _ => trivial, hnx _ _ ⟨ρ1, _, h1, hs1.put .und, by rw [St.put_H]; exact hf1, by rw [St.put_next]; exact hn1⟩⟩
 have hput : ∀ (t : Nat) (x : AV), (σ.put (some t) x).H = σ.H ∧ (σ.put (some t) x).next = σ.next := fun t x => ⟨St.put_H _ _ _, St.put_next _ _ _⟩
 simp only [aeP] at h
 split at h
 ·rename_i hg
  rw [if_pos (by simp [Region.wanted, hg])]
  exact (run hs (Fr.refl _ _ _ _ _) (zq _) h)
 ·rename_i j want hg
  split at h
  ·rename_i t ht
   split at h
   ·rename_i x hx
    cases x with
    | true =>
     have hy := auH hs ht hx
     have hs' := hs.refine hx
     have hf' : Fr C σ.next ρ σ.H w ρ (σ.put (some t) (.d .bool true)).H w := by rw [(hput t _).1]; exact Fr.refl _ _ _ _ _
     have hn' : σ.next ≤ (σ.put (some t) (.d .bool true)).next := by rw [(hput t _).2]; exact zq _
     cases want with
     | true =>
      rw [if_pos (by simp [Region.wanted, hg, hy])]
      exact (run hs' hf' hn' h)
     | false =>
      rw [if_neg (by simp [Region.wanted, hg, hy])]
      exact skip hs' hf' hn' h
    | false =>
     have hy := auH hs ht hx
     have hs' := hs.refine hx
     have hf' : Fr C σ.next ρ σ.H w ρ (σ.put (some t) (.d .bool false)).H w := by rw [(hput t _).1]; exact Fr.refl _ _ _ _ _
     have hn' : σ.next ≤ (σ.put (some t) (.d .bool false)).next := by rw [(hput t _).2]; exact zq _
     cases want with
     | true =>
      rw [if_neg (by simp [Region.wanted, hg, hy])]
      exact skip hs' hf' hn' h
     | false =>
      rw [if_pos (by simp [Region.wanted, hg, hy])]
      exact (run hs' hf' hn' h)
   ·rename_i hx
    have hy := aGb hs ht hx
    rw [if_neg (by simp [Region.wanted, hg, hy])]
    exact skip hs (Fr.refl _ _ _ _ _) (zq _) h
   ·exact h.elim
  ·exact h.elim
theorem aq4 (hG : ap3 G) (hC : G C.w0) {Γ : Cons} (hΓ : Γ.ok P G) {call : al2} (hcall : CallSat P G call) {ops : Array Oper} {Q : Exit → Act → World → Prop} {K : St → Prop} :
  ∀ (l : List Oper) {ρ : Nat → Nat} {σ : St} {a : Act} {w : World}, SRel C ρ σ a w → aeP P Γ call ops l σ K → (∀ a' w', Reach C σ ρ w K a' w' → Q .normal a' w') → ∀ rnd : Option Nat, wpListIn (afL rnd) 0 P ops Q l a w
 | [], ρ, σ, a, w, hs, h, hQ, rnd => wpListIn_nil (hQ a w ⟨ρ, σ, h, hs, Fr.refl _ _ _ _ _, zq _⟩)
 | o :: rest, ρ, σ, a, w, hs, h, hQ, rnd => by
  unfold wpListIn
  refine au7 hG hC hΓ hcall hs h ?_ rnd
  rintro a' w' ⟨ρ', σ', h2, h3, h4, h5⟩
  exact aq4 hG hC hΓ hcall rest h3 h2 (fun a'' w'' hr => hQ a'' w'' (hr.trans h4 h5)) rnd
end
open Go Go.RowKit
def agD (e : Edge) : Bool := Region.binds .any e
def ap7 : List Operand → List Nat
 | [] => []
 | .tmp t :: r => t :: ap7 r
 | _ :: r => ap7 r
def al9 (ops : Array Oper) (o : Oper) : List Nat :=
 match o.guard with
 | none => ap7 o.op.operands.toList
 | some (j, _) => match ac6 ops j with
  | some t => t :: ap7 o.op.operands.toList
  | none => ap7 o.op.operands.toList
def afP (o : Oper) (j : Nat) : Bool := o.after.toList.any fun e => agD e && Nat.beq e.on j
def ayW (i : Nat) (o : Oper) (t : Nat) : List Oper → Nat → Bool
 | [], _ => true
 | p :: r, j => (match p.dst with
  | some d => match Nat.beq d t with
   | true => (Nat.blt j i && afP o j) || (Nat.blt i j && afP p i)
   | false => true
  | none => true) && ayW i o t r (j + 1)
def aFD (i : Nat) (d : Nat) : List Oper → Nat → Bool
 | [], _ => true
 | p :: r, j => (match p.dst with
  | some d' => match Nat.beq d d' with
   | true => Nat.beq i j
   | false => true
  | none => true) && aFD i d r (j + 1)
def aBF (ops : Array Oper) (pre : List Oper) : List Oper → Nat → Bool
 | [], _ => true
 | o :: r, i => (al9 ops o).all (fun t => ayW i o t pre 0) && (match o.dst with | some d => aFD i d pre 0 | none => true) && aBF ops pre r (i + 1)
def alH : List Oper → Nat → Bool
 | [], _ => true
 | o :: r, i => o.after.toList.all (fun e => !agD e || Nat.blt e.on i) && alH r (i + 1)
def adN (acc : List Nat) : List Edge → Nat
 | [] => 0
 | e :: r => match agD e with
  | true => ((2 ^ e.on) ||| acc.getD e.on 0) ||| adN acc r
  | false => adN acc r
def ad1 : List Oper → List Nat → List Nat
 | [], acc => acc
 | o :: r, acc => ad1 r (acc ++ [adN acc o.after.toList])
def atW (m : Nat) : List Nat → Nat → Bool
 | [], _ => true
 | x :: r, j => (match Nat.ble m j with | true => Nat.beq x (2 ^ j - 1) | false => true) && atW m r (j + 1)
def ad2 (l : List Nat) : Nat :=
 go l.reverse l.length
where go : List Nat → Nat → Nat
 | x :: r, n + 1 => match Nat.beq x (2 ^ n - 1) with | true => go r n | false => n + 1
 | _, n => n
inductive Out where
 | ran (r : AV) (new : List (Nat × Bk))
 | skip
 /-- a store: block k becomes b -/
 | st (k : Nat) (b : Bk)
def Out.av : Out → AV
 | .ran r _ => r
 | .skip => .und
 | .st _ _ => .und
def Out.new : Out → List (Nat × Bk)
 | .ran _ n => n
 | .skip => []
 | .st _ _ => []
def Out.sts : Out → List (Nat × Bk)
 | .st k b => [(k, b)]
 | _ => []
def St.step (σ : St) (o : Oper) (u : Out) : St := ({ σ with H := u.new ++ σ.H } : St).put o.dst u.av
def aCd : List (Nat × Nat) → Nat → Option Nat
 | [], _ => none
 | (K, k) :: r, K' => match Nat.beq K K' with | true => some k | false => aCd r K'
def afU (P : Program) : List Oper → Nat → Heap
 | [], _ => []
 | o :: r, K => match o.op with
  | .alloc e => match aeN P e with
   | some zs => (K, .vars e zs) :: afU P r (K + 1)
   | none => afU P r (K + 1)
  | _ => afU P r (K + 1)
def aI5 (t : Nat) : List Oper → Nat → Option Nat
 | [], _ => none
 | o :: r, K => match o.op with
  | .alloc _ => match o.dst with
   | some d => match Nat.beq d t with
    | true => some K
    | false => aI5 t r (K + 1)
   | none => aI5 t r (K + 1)
  | _ => aI5 t r (K + 1)
def aTn (a : Operand) (l : List Oper) (K : Nat) : Option Nat :=
 match a with
 | .tmp t => aI5 t l K
 | _ => none
def aD0 : List Oper → Operand → Operand
 | [], a => a
 | o :: r, a => match a with
  | .tmp t => match o.dst with
   | some d => match Nat.beq d t with
    | true => match o.op with
     | .fieldAddr _ x _ => aD0 r x
     | _ => a
    | false => aD0 r a
   | none => aD0 r a
  | _ => a
def aTW (σ : St) (pre : List Oper) (base : Nat) (a : Operand) : Option Nat :=
 match aTn (aD0 pre.reverse a) pre base with
 | some k => some k
 | none => match σ.eval (aD0 pre.reverse a) with
  | .ptr k _ => some k
  | _ => none
def aS8 (σ : St) (pre : List Oper) (base : Nat) (Hx : Heap) : List Oper → Nat → Option (List (Nat × Nat))
 | [], _ => some []
 | o :: r, K => match aS8 σ pre base Hx r (K + 1) with
  | some l => match o.op with
   | .store _ a _ => match aTW σ pre base a with
    | some k => match Hx.find k with
     | some (.vars _ _) => some ((K, k) :: l)
     | _ => none
    | none => none
   | _ => some l
  | none => none
def ao7 : List (Nat × Nat) → Nat → Bool
 | [], _ => false
 | (_, j) :: r, k => match Nat.beq j k with | true => true | false => ao7 r k
def Bk.veil : Bk → Bk
 | .vars _ _ => .any
 | b => b
def veil (sk : List (Nat × Nat)) : Heap → Heap
 | [] => []
 | (k, b) :: r => (k, match ao7 sk k with | true => b.veil | false => b) :: veil sk r
def aR1 (sk : List (Nat × Nat)) (H : Heap) : Heap :=
 match sk with
 | [] => H
 | x :: r => veil (x :: r) H
def aa5 (H : Heap) : List (Nat × Bk) → Heap
 | [] => H
 | (k, b) :: r => (aa5 H r).up k b
def olds (H : Heap) : List (Nat × Nat) → List (Nat × Bk)
 | [] => []
 | (_, k) :: r => match H.find k with
  | some b => (k, b) :: olds H r
  | none => olds H r
def aoV (H : Heap) (sk : List (Nat × Nat)) (x : St × List (Nat × Bk)) : St :=
 match sk with
 | [] => x.1
 | y :: r => { x.1 with H := aa5 (aa5 x.1.H (olds H (y :: r))) x.2 }
def stB (P : Program) (Hs : Heap) (k : Nat) (t : TypeId) (a x : AV) : T Bk :=
 match a with
 | .ptr k' off => match Nat.beq k' k with
  | true => match Hs.find k, cellsOf x, ab5 P t with
   | some (.vars e cells), some cs, some n => match Nat.beq cs.length n && Nat.ble (off + n) cells.length with
    | true => .ok (.vars e (over cells off cs))
    | false => .bad
   | _, _, _ => .bad
  | false => .bad
 | _ => .bad
def evS (P : Program) (Γ : Cons) (sk : List (Nat × Nat)) (Hs : Heap) (K : Nat) (H0 : Heap) (arg : Operand → AV) (o : Oper) : T Out :=
 match o.op with
 | .store t a x => match aCd sk K with
  | some k => (stB P Hs k t (arg a) (arg x)).bind fun b => .ok (.st k b)
  | none => .bad
 | _ => match ao7 sk K with
  | false => (evM P Γ K H0 arg o).bind fun x => .ok (.ran x.1 x.2)
  | true => match o.op with
   | .alloc e => match aeN P e with
    | some _ => .ok (.ran (.ptr K 0) [(K, .any)])
    | none => .bad
   | _ => .bad
def aF8 (P : Program) (Γ : Cons) (ops : Array Oper) (sk : List (Nat × Nat)) (Hs : Heap) (H0 : Nat → Heap → Heap) : List Oper → Nat → St → List (Nat × Bk) → T (St × List (Nat × Bk))
 | [], _, σ, s => .ok (σ, s)
 | o :: rest, K, σ, s => match o.guard with
  | none => (evS P Γ sk Hs K (H0 K σ.H) σ.eval o).bind fun u => aF8 P Γ ops sk Hs H0 rest (K + 1) (σ.step o u) (u.sts ++ s)
  | some (j, want) => match ac6 ops j with
   | some t => match af8 σ.slots t with
    | .d .bool x => .ite x
      (match want with
       | true => (evS P Γ sk Hs K (H0 K σ.H) (σ.put (some t) (.d .bool true)).eval o).bind fun u => aF8 P Γ ops sk Hs H0 rest (K + 1) ((σ.put (some t) (.d .bool true)).step o u) (u.sts ++ s)
       | false => aF8 P Γ ops sk Hs H0 rest (K + 1) ((σ.put (some t) (.d .bool true)).step o .skip) s)
      (match want with
       | true => aF8 P Γ ops sk Hs H0 rest (K + 1) ((σ.put (some t) (.d .bool false)).step o .skip) s
       | false => (evS P Γ sk Hs K (H0 K σ.H) (σ.put (some t) (.d .bool false)).eval o).bind fun u => aF8 P Γ ops sk Hs H0 rest (K + 1) ((σ.put (some t) (.d .bool false)).step o u) (u.sts ++ s))
    | .und => aF8 P Γ ops sk Hs H0 rest (K + 1) (σ.step o .skip) s
    | _ => .bad
   | none => .bad
def aeV (pre : List Oper) (base i : Nat) : List (Nat × Nat) → List (Nat × Nat)
 | [] => []
 | (K, k) :: r => match pre[K - base]? with
  | some o => match afP o i with
   | true => (K, k) :: aeV pre base i r
   | false => aeV pre base i r
  | none => aeV pre base i r
def aNf (sk : List (Nat × Nat)) (o : Oper) (base : Nat) : Heap → Heap
 | [] => []
 | (k, b) :: r => match Nat.ble base k with
  | true => match afP o (k - base) && !(ao7 sk k) with
   | true => (k, b) :: aNf sk o base r
   | false => aNf sk o base r
  | false => []
def aTd (sk : List (Nat × Nat)) (base : Nat) (N : Heap) : Option Oper → Heap
 | some o => aNf sk o base N
 | none => []
def aN9 (pre : List Oper) (base : Nat) (sk : List (Nat × Nat)) (Hs H : Heap) (K : Nat) (N : Heap) : Heap :=
 aTd sk base N pre[K - base]? ++ match sk with
 | [] => H
 | y :: r => aa5 H (olds Hs (aeV pre base (K - base) (y :: r)))
def axW : List Nat → Bool
 | [] => true
 | k :: r => !(r.contains k) && axW r
def ayY (pre : List Oper) (base : Nat) : List (Nat × Nat) → Bool
 | [] => true
 | (K, k) :: r => (Nat.blt k base || (match pre[K - base]? with | some o => afP o (k - base) | none => false)) && ayY pre base r
def aB8 (σ : St) (t : Nat) : List Oper → AV
 | [] => af8 σ.slots t
 | o :: r => match o.dst with
  | some d => match Nat.beq d t with
   | true => match o.op with
    | .move x => σ.eval x
    | .load _ x => match σ.eval x with
     | .ptr k _ => match σ.H.find k with
      | some (.vars _ cells) => .ag cells
      | _ => .no
     | _ => .no
    | _ => .no
   | false => aB8 σ t r
  | none => aB8 σ t r
def aDU (σ : St) (l : List Oper) (x : Operand) : AV :=
 match x with
 | .tmp t => aB8 σ t l
 | _ => .no
def an5 (ret : Nat → Bool) (σ : St) (l : List Oper) : List Oper → List Nat
 | [] => []
 | o :: r => match o.op with
  | .call { callee := .value (.func g), args, .. } => match ret g with
   | true => ae3 (args.toList.map (aDU σ l)) ++ an5 ret σ l r
   | false => an5 ret σ l r
  | .buildSlice _ _ ps => ae3 (ps.toList.map fun x => aDU σ l x.2) ++ an5 ret σ l r
  | _ => an5 ret σ l r
def aTb (Γ : Cons) (g : Nat) : Bool :=
 match Γ.find g with
 | some c => !(noSl c.res)
 | none => false
def St.forDraw (σ : St) (ret : Nat → Bool) (l : List Oper) : St := σ.thaws (an5 ret σ l l)
def aC2 (P : Program) (Γ : Cons) (call : al2) (ops : Array Oper) (σ : St) (K : St → Prop) : Prop :=
 let l := ops.toList
 let ms := ad1 l []
 let m := ad2 ms
 match aS8 σ (l.take m) σ.next (afU P (l.take m) σ.next ++ σ.H) (l.take m) σ.next with
 | some sk => match aBF ops (l.take m) (l.take m) 0 && alH l 0 && atW m ms 0 && Nat.ble m l.length && axW (sk.map (·.2)) && ayY (l.take m) σ.next sk with
  | true => (aF8 P Γ ops sk (afU P (l.take m) σ.next ++ σ.H) (aN9 (l.take m) σ.next sk (afU P (l.take m) σ.next ++ σ.H) (aR1 sk σ.H)) (l.take m) σ.next { σ with H := aR1 sk σ.H, next := σ.next + m } []).holds fun x => aeP P Γ call ops (l.drop m) (aoV (afU P (l.take m) σ.next ++ σ.H) sk x) K
  | false => False
 | none => False
theorem aOK {P : Program} {Γ : Cons} {K : Nat} {H : Heap} {arg arg' : Operand → AV} {o : Oper} (h : ∀ x ∈ o.op.operands, arg x = arg' x) : evM P Γ K H arg o = evM P Γ K H arg' o := by
 have hmap : ∀ l : List Operand, (∀ x ∈ l, arg x = arg' x) → l.map arg = l.map arg' := fun l hl => List.map_congr_left hl
 have hmap2 : ∀ l : List (Nat × Operand), (∀ x ∈ l, arg x.2 = arg' x.2) → (l.map fun x => (x.1, arg x.2)) = l.map fun x => (x.1, arg' x.2) := fun l hl => List.map_congr_left (fun x hx => by rw [hl x hx])
 have hopt : ∀ x : Option Operand, (∀ y ∈ x, arg y = arg' y) → x.map arg = x.map arg' := fun x hx => by
  cases x with
  | none => rfl
  | some y => simp [hx y rfl]
 unfold evM evP
 cases ho : o.op with
 | call c =>
  rw [ho] at h
  obtain ⟨callee, args, ts⟩ := c
  have ha : args.toList.map arg = args.toList.map arg' := hmap _ (fun x hx => h x (by simp only [Op.operands, Call.operands]; exact Array.mem_append.2 (Or.inr (by simpa using hx))))
  cases callee with
  | value f =>
   have hf : arg f = arg' f := h f (by simp [Op.operands, Call.operands])
   simp only [hf, ha]
  | invoke r n => rfl
  | builtin b =>
   cases b <;> first | rfl | simp only [ha] | skip
   all_goals
    congr 1
    split
    ·rename_i x hx
     have : arg x = arg' x := by rw [hx] at ha; simpa using ha
     rw [this]
    ·rfl
 | build t ps =>
  rw [ho] at h
  simp only
  rw [hmap2 ps.toList (fun x hx => h x.2 (by simp only [Op.operands]; simp; exact ⟨x.1, by simpa using hx⟩))]
 | buildSlice t n ps =>
  rw [ho] at h
  simp only
  rw [hmap2 ps.toList (fun x hx => h x.2 (by simp only [Op.operands]; simp; exact ⟨x.1, by simpa using hx⟩))]
 | makeFunc f first caps =>
  rw [ho] at h
  have h1 : first.toList.map arg = first.toList.map arg' := hmap _ (fun x hx => h x (by simp only [Op.operands]; exact Array.mem_append.2 (Or.inl (by simpa using hx))))
  have h2 : caps.toList.map arg = caps.toList.map arg' := hmap _ (fun x hx => h x (by simp only [Op.operands]; exact Array.mem_append.2 (Or.inr (by simpa using hx))))
  cases f <;> simp only [h1, h2]
 | slice t x lo hi mx =>
  rw [ho] at h
  have h0 : arg x = arg' x := h x (by simp [Op.operands])
  have h1 := hopt lo (fun y hy => h y (by cases hy; simp [Op.operands]))
  have h2 := hopt hi (fun y hy => h y (by cases hy; simp [Op.operands]))
  have h3 := hopt mx (fun y hy => h y (by cases hy; simp [Op.operands]))
  simp only [h0, h1, h2, h3]
 | _ => (rw [ho] at h; try (first | rfl | (simp [Op.operands] at h; simp [h])))
open Go Go.RowKit
def upS (nt : Nat) (f : Nat → AV) (dst : Option Nat) (x : AV) : Nat → AV := fun t =>
 match dst with
 | some d => if d = t ∧ d < nt then x else f t
 | none => f t
theorem aI3 (σ : St) (dst : Option Nat) (x : AV) : af8 (σ.put dst x).slots = upS σ.n (af8 σ.slots) dst x := by
 funext t
 unfold St.put upS
 cases dst with
 | none => rfl
 | some d =>
  simp only
  cases hb : Nat.blt d σ.n with
  | true =>
   have hlt : d < σ.n := Nat.le_of_ble_eq_true hb
   simp only [af8]
   cases hu : Nat.beq d t with
   | true => have := aaK hu; subst this; simp [hlt]
   | false => have hne := ac9 hu; simp only; rw [apJ hne, if_neg (fun h => hne h.1)]
  | false =>
   have hge : ¬ d < σ.n := fun hlt => by simp [Nat.blt, vz hlt] at hb
   simp only
   rw [if_neg (fun h => hge h.2)]
theorem aP1 {nt : Nat} {f : Nat → AV} {t : Nat} {x : AV} (h : f t = x) : upS nt f (some t) x = f := by
 funext u
 simp only [upS]
 split
 ·rename_i hc; rw [← hc.1]; exact h.symm
 ·rfl
def aC3 (f : Nat → AV) : Operand → AV
 | .tmp t => f t
 | .const v => aDg v
 | .func f => .fn f [] []
 | .global _ => .no
theorem atS (σ : St) : σ.eval = aC3 (af8 σ.slots) := by funext x; cases x <;> rfl
def aPz (ops : Array Oper) (f : Nat → AV) (o : Oper) : Prop :=
 o.guard = none ∨ ∃ j want t, o.guard = some (j, want) ∧ ac6 ops j = some t ∧ f t = .d .bool want
def aRw (ops : Array Oper) (f : Nat → AV) (o : Oper) : Prop :=
 ∃ j want t, o.guard = some (j, want) ∧ ac6 ops j = some t ∧ (f t = .d .bool (!want) ∨ f t = .und)
def aRx (P : Program) (Γ : Cons) (ops : Array Oper) (sk : List (Nat × Nat)) (Hs Hx : Heap) (K : Nat) (f : Nat → AV) (o : Oper) : Out → Prop
 | .ran r new => aPz ops f o ∧ (ao7 sk K = false ∧ (evM P Γ K Hx (aC3 f) o).Leaf (r, new) ∨ ∃ e zs, o.op = .alloc e ∧ aeN P e = some zs ∧ r = .ptr K 0 ∧ new = [(K, .any)])
 | .skip => aRw ops f o
 | .st k b => aPz ops f o ∧ aCd sk K = some k ∧ ∃ t a x, o.op = .store t a x ∧ (stB P Hs k t (aC3 f a) (aC3 f x)).Leaf b
theorem aC5 {P : Program} {Γ : Cons} {ops : Array Oper} {sk : List (Nat × Nat)} {Hs Hx : Heap} {K : Nat} {f : Nat → AV} {o : Oper} {u : Out} (hw : aPz ops f o) (h : (evS P Γ sk Hs K Hx (aC3 f) o).Leaf u) : aRx P Γ ops sk Hs Hx K f o u := by
 unfold evS at h
 split at h
 ·rename_i t a x ho
  split at h
  ·rename_i k hk
   obtain ⟨b, h1, h2⟩ := T.Leaf.bind h
   cases h2
   exact ⟨hw, hk, t, a, x, ho, h1⟩
  ·cases h
 ·split at h
  ·rename_i hk
   obtain ⟨y, h1, h2⟩ := T.Leaf.bind h
   cases h2
   exact ⟨hw, Or.inl ⟨hk, h1⟩⟩
  ·split at h
   ·rename_i e ho
    split at h
    ·rename_i zs hz
     cases h
     exact ⟨hw, Or.inr ⟨e, zs, ho, hz, rfl, rfl⟩⟩
    ·cases h
   ·cases h
inductive Tr (P : Program) (Γ : Cons) (ops : Array Oper) (sk : List (Nat × Nat)) (Hs : Heap) (H0 : Nat → Heap → Heap) (nt : Nat) : List Oper → Nat → Heap → (Nat → AV) → List Out → (Nat → AV) → Prop where
 | nil {K : Nat} {N : Heap} {f : Nat → AV} : Tr P Γ ops sk Hs H0 nt [] K N f [] f
 | cons {K : Nat} {N : Heap} {f f' : Nat → AV} {o : Oper} {rest : List Oper} {u : Out} {us : List Out} (h : aRx P Γ ops sk Hs (H0 K N) K f o u) (ht : Tr P Γ ops sk Hs H0 nt rest (K + 1) (u.new ++ N) (upS nt f o.dst u.av) us f') :
   Tr P Γ ops sk Hs H0 nt (o :: rest) K N f (u :: us) f'
section
variable {C : Ctx} {P : Program} {G : World → Prop} {Γ : Cons} {ops : Array Oper} {sk : List (Nat × Nat)} {Hs : Heap} {H0 : Nat → Heap → Heap} {nt : Nat}
theorem aA1 : ∀ (l : List Oper) (K : Nat) (σ : St) (s : List (Nat × Bk)) (y : St × List (Nat × Bk)), (aF8 P Γ ops sk Hs H0 l K σ s).Leaf y →
  ∃ us : List Out, Tr P Γ ops sk Hs H0 σ.n l K σ.H (af8 σ.slots) us (af8 y.1.slots) ∧ (∀ x, x ∈ y.1.H ↔ x ∈ σ.H ∨ ∃ (j : Nat) (u : Out), us[j]? = some u ∧ x ∈ u.new) ∧ y.1.next = σ.next ∧ y.1.n = σ.n ∧
   ∀ x, x ∈ y.2 ↔ x ∈ s ∨ ∃ (j : Nat) (u : Out), us[j]? = some u ∧ x ∈ u.sts
 | [], K, σ, s, y, h => by
  cases h
  exact ⟨[], .nil, by simp, rfl, rfl, by simp⟩
 | o :: rest, K, σ, s, y, h => by
  have key : ∀ (σ1 : St) (u : Out), af8 σ1.slots = af8 σ.slots → σ1.H = σ.H → σ1.next = σ.next → σ1.n = σ.n → aRx P Γ ops sk Hs (H0 K σ.H) K (af8 σ.slots) o u → (aF8 P Γ ops sk Hs H0 rest (K + 1) (σ1.step o u) (u.sts ++ s)).Leaf y →
    ∃ us : List Out, Tr P Γ ops sk Hs H0 σ.n (o :: rest) K σ.H (af8 σ.slots) us (af8 y.1.slots) ∧ (∀ x, x ∈ y.1.H ↔ x ∈ σ.H ∨ ∃ (j : Nat) (u : Out), us[j]? = some u ∧ x ∈ u.new) ∧ y.1.next = σ.next ∧ y.1.n = σ.n ∧
     ∀ x, x ∈ y.2 ↔ x ∈ s ∨ ∃ (j : Nat) (u : Out), us[j]? = some u ∧ x ∈ u.sts := by
   intro σ1 u e1 e2 e3 e4 hst hl
   obtain ⟨us, h1, h2, h3, h4, h5⟩ := aA1 rest (K + 1) _ _ y hl
   have hn : (σ1.step o u).n = σ1.n := by unfold St.step St.put; split <;> (try split) <;> rfl
   have hs : af8 (σ1.step o u).slots = upS σ.n (af8 σ.slots) o.dst u.av := by
    unfold St.step; rw [aI3]; simp only [e1, e4]
   have hH : (σ1.step o u).H = u.new ++ σ.H := by unfold St.step; rw [St.put_H]; simp only [e2]
   have hnx : (σ1.step o u).next = σ.next := by unfold St.step; rw [St.put_next]; exact e3
   rw [hn, hs, e4, hH] at h1
   refine ⟨u :: us, .cons hst h1, fun x => ?_, by rw [h3, hnx], by rw [h4, hn, e4], fun x => ?_⟩
   ·rw [h2, hH, zJ]
    constructor
    ·rintro ((hx | hx) | ⟨j, v, hj, hx⟩)
     ·exact Or.inr ⟨0, u, rfl, hx⟩
     ·exact Or.inl hx
     ·exact Or.inr ⟨j + 1, v, by simpa using hj, hx⟩
    ·rintro (hx | ⟨j, v, hj, hx⟩)
     ·exact Or.inl (Or.inr hx)
     ·cases j with
      | zero => simp at hj; subst hj; exact Or.inl (Or.inl hx)
      | succ j => exact Or.inr ⟨j, v, by simpa using hj, hx⟩
   ·rw [h5, zJ]
    constructor
    ·rintro ((hx | hx) | ⟨j, v, hj, hx⟩)
     ·exact Or.inr ⟨0, u, rfl, hx⟩
     ·exact Or.inl hx
     ·exact Or.inr ⟨j + 1, v, by simpa using hj, hx⟩
    ·rintro (hx | ⟨j, v, hj, hx⟩)
     ·exact Or.inl (Or.inr hx)
     ·cases j with
      | zero => simp at hj; subst hj; exact Or.inl (Or.inl hx)
      | succ j => exact Or.inr ⟨j, v, by simpa using hj, hx⟩
  simp only [aF8] at h
  split at h
  ·rename_i hg
   obtain ⟨u, h1, h2⟩ := T.Leaf.bind h
   rw [atS] at h1
   exact key σ u rfl rfl rfl rfl (aC5 (Or.inl hg) h1) h2
  ·rename_i j want hg
   split at h
   ·rename_i t ht
    split at h
    ·rename_i b hb
     have hr : ∀ b', b = b' → af8 (σ.put (some t) (.d .bool b')).slots = af8 σ.slots := fun b' e => by rw [aI3]; exact aP1 (by rw [hb, e])
     have hf : ∀ b', (σ.put (some t) (.d .bool b')).H = σ.H ∧ (σ.put (some t) (.d .bool b')).next = σ.next ∧ (σ.put (some t) (.d .bool b')).n = σ.n := fun b' => ⟨St.put_H _ _ _, St.put_next _ _ _, by unfold St.put; simp only; split <;> rfl⟩
     cases h with
     | t h =>
      cases want with
      | true =>
       obtain ⟨u, h1, h2⟩ := T.Leaf.bind h
       rw [atS, hr true rfl] at h1
       exact key _ u (hr true rfl) (hf true).1 (hf true).2.1 (hf true).2.2 (aC5 (Or.inr ⟨j, true, t, hg, ht, hb⟩) h1) h2
      | false => exact key _ .skip (hr true rfl) (hf true).1 (hf true).2.1 (hf true).2.2 ⟨j, false, t, hg, ht, Or.inl hb⟩ h
     | f h =>
      cases want with
      | true => exact key _ .skip (hr false rfl) (hf false).1 (hf false).2.1 (hf false).2.2 ⟨j, true, t, hg, ht, Or.inl hb⟩ h
      | false =>
       obtain ⟨u, h1, h2⟩ := T.Leaf.bind h
       rw [atS, hr false rfl] at h1
       exact key _ u (hr false rfl) (hf false).1 (hf false).2.1 (hf false).2.2 (aC5 (Or.inr ⟨j, false, t, hg, ht, hb⟩) h1) h2
    ·rename_i hb
     exact key σ .skip rfl rfl rfl rfl ⟨j, want, t, hg, ht, Or.inr hb⟩ h
    ·cases h
   ·cases h
theorem Tr.length {l : List Oper} {K : Nat} {N : Heap} {f f' : Nat → AV} {us : List Out} (h : Tr P Γ ops sk Hs H0 nt l K N f us f') : us.length = l.length := by
 induction h with
 | nil => rfl
 | cons _ _ ih => simp [ih]
theorem Tr.slot {l : List Oper} {K : Nat} {N : Heap} {f f' : Nat → AV} {us : List Out} (h : Tr P Γ ops sk Hs H0 nt l K N f us f') (t : Nat) :
  (∃ (j : Nat) (o : Oper) (u : Out), l[j]? = some o ∧ us[j]? = some u ∧ o.dst = some t ∧ t < nt ∧ f' t = u.av) ∨ ((∀ (j : Nat) (o : Oper), l[j]? = some o → o.dst = some t → ¬ t < nt) ∧ f' t = f t) := by
 induction h with
 | nil => exact Or.inr ⟨by simp, rfl⟩
 | @cons K N f f' o rest u us h _ ih =>
  rcases ih with ⟨j, o', u', h1, h2, h3, h4, h5⟩ | ⟨h1, h2⟩
  ·exact Or.inl ⟨j + 1, o', u', by simpa using h1, by simpa using h2, h3, h4, h5⟩
  ·by_cases hd : o.dst = some t ∧ t < nt
   ·refine Or.inl ⟨0, o, u, rfl, rfl, hd.1, hd.2, ?_⟩
    rw [h2]
    simp [upS, hd.1, hd.2]
   ·refine Or.inr ⟨fun j o' hj ho => ?_, ?_⟩
    ·cases j with
     | zero => simp at hj; subst hj; exact fun hlt => hd ⟨ho, hlt⟩
     | succ j => exact h1 j o' (by simpa using hj) ho
    ·rw [h2]
     unfold upS
     split
     ·rename_i d hd'
      rw [if_neg]
      rintro ⟨rfl, hlt⟩
      exact hd ⟨hd', hlt⟩
     ·rfl
theorem Tr.nth {l : List Oper} {K : Nat} {N : Heap} {f f' : Nat → AV} {us : List Out} (h : Tr P Γ ops sk Hs H0 nt l K N f us f') : ∀ {i : Nat} {o : Oper}, l[i]? = some o →
  ∃ u fi Ni, us[i]? = some u ∧ Tr P Γ ops sk Hs H0 nt (l.take i) K N f (us.take i) fi ∧ aRx P Γ ops sk Hs (H0 (K + i) Ni) (K + i) fi o u ∧ ∀ x ∈ Ni, x ∈ N ∨ ∃ (j : Nat) (v : Out), us[j]? = some v ∧ x ∈ v.new := by
 induction h with
 | nil => intro i o hi; simp at hi
 | @cons K N f f' o rest u us h _ ih =>
  intro i o' hi
  cases i with
  | zero => simp at hi; subst hi; exact ⟨u, f, N, rfl, .nil, h, fun x hx => Or.inl hx⟩
  | succ i =>
   obtain ⟨u', fi, Ni, h1, h2, h3, h4⟩ := ih (i := i) (by simpa using hi)
   refine ⟨u', fi, Ni, by simpa using h1, .cons h h2, ?_, fun x hx => ?_⟩
   ·rwa [show K + 1 + i = K + (i + 1) by omega] at h3
   ·rcases h4 x hx with hx | ⟨j, v, hj, hv⟩
    ·rcases zJ.1 hx with hx | hx
     ·exact Or.inr ⟨0, u, rfl, hx⟩
     ·exact Or.inl hx
    ·exact Or.inr ⟨j + 1, v, by simpa using hj, hv⟩
end
theorem amV {i : Nat} {o : Oper} {t : Nat} : ∀ {l : List Oper} {k : Nat}, ayW i o t l k = true → ∀ {j : Nat} {p : Oper}, l[j]? = some p → p.dst = some t → k + j < i ∧ afP o (k + j) = true ∨ i < k + j ∧ afP p i = true
 | [], _, _, j, p, hp, _ => by simp at hp
 | q :: r, k, h, j, p, hp, hd => by
  simp only [ayW, zw] at h
  cases j with
  | zero =>
   simp at hp
   subst hp
   rw [hd] at h
   simp only [Nat.beq_refl, zw, wX] at h
   rcases h.1 with ⟨h1, h2⟩ | ⟨h1, h2⟩
   ·exact Or.inl ⟨Nat.le_of_ble_eq_true h1, h2⟩
   ·exact Or.inr ⟨Nat.le_of_ble_eq_true h1, h2⟩
  | succ j =>
   have := amV h.2 (j := j) (by simpa using hp) hd
   rwa [show k + 1 + j = k + (j + 1) by omega] at this
theorem ayZ {i d : Nat} : ∀ {l : List Oper} {k : Nat}, aFD i d l k = true → ∀ {j : Nat} {p : Oper}, l[j]? = some p → p.dst = some d → i = k + j
 | [], _, _, j, p, hp, _ => by simp at hp
 | q :: r, k, h, j, p, hp, hd => by
  simp only [aFD, zw] at h
  cases j with
  | zero =>
   simp at hp
   subst hp
   rw [hd] at h
   simp only [Nat.beq_refl] at h
   exact aaK h.1
  | succ j =>
   have := ayZ h.2 (j := j) (by simpa using hp) hd
   omega
theorem ayX {ops : Array Oper} {pre : List Oper} : ∀ {l : List Oper} {k : Nat}, aBF ops pre l k = true → ∀ {i : Nat} {o : Oper}, l[i]? = some o →
  (∀ t ∈ al9 ops o, ayW (k + i) o t pre 0 = true) ∧ (∀ d, o.dst = some d → aFD (k + i) d pre 0 = true)
 | [], _, _, i, o, ho => by simp at ho
 | q :: r, k, h, i, o, ho => by
  simp only [aBF, zw, List.all_eq_true] at h
  cases i with
  | zero =>
   simp at ho
   subst ho
   refine ⟨fun t ht => h.1.1 t ht, fun d hd => ?_⟩
   rw [hd] at h
   exact h.1.2
  | succ i =>
   have := ayX h.2 (i := i) (by simpa using ho)
   rwa [show k + 1 + i = k + (i + 1) by omega] at this
theorem afR : ∀ {l : List Oper} {k : Nat}, alH l k = true → ∀ {i : Nat} {o : Oper}, l[i]? = some o → ∀ e ∈ o.after, agD e = true → e.on < k + i
 | [], _, _, i, o, ho => by simp at ho
 | q :: r, k, h, i, o, ho => by
  simp only [alH, zw, List.all_eq_true] at h
  cases i with
  | zero =>
   simp at ho
   subst ho
   intro e he hb
   have := h.1 e (by simpa using he)
   rw [hb] at this
   simp at this
   omega
  | succ i =>
   intro e he hb
   have := afR h.2 (i := i) (by simpa using ho) e he hb
   omega
theorem ag4 {o : Oper} {j : Nat} (h : afP o j = true) : ∃ e ∈ o.after, agD e = true ∧ e.on = j := by
 unfold afP at h
 rw [List.any_eq_true] at h
 obtain ⟨e, he, hb⟩ := h
 simp only [zw] at hb
 exact ⟨e, by simpa using he, hb.1, aaK hb.2⟩
theorem ag3 : ∀ (l : List Oper) (acc : List Nat), acc = (ad1 l acc).take acc.length ∧ (ad1 l acc).length = acc.length + l.length
 | [], acc => by simp [ad1]
 | o :: r, acc => by
  obtain ⟨h1, h2⟩ := ag3 r (acc ++ [adN acc o.after.toList])
  simp only [ad1]
  refine ⟨?_, by rw [h2]; simp; omega⟩
  have := congrArg (List.take acc.length) h1
  rw [xe] at this
  simp at this
  exact this
theorem aEY : ∀ (l : List Oper) (acc : List Nat) (j : Nat) (o : Oper), l[j]? = some o → (ad1 l acc)[acc.length + j]? = some (adN ((ad1 l acc).take (acc.length + j)) o.after.toList)
 | [], acc, j, o, h => by simp at h
 | p :: r, acc, j, o, h => by
  simp only [ad1]
  cases j with
  | zero =>
   simp at h
   subst h
   obtain ⟨h1, h2⟩ := ag3 r (acc ++ [adN acc p.after.toList])
   generalize ad1 r (acc ++ [adN acc p.after.toList]) = M at *
   have e1 : M.take acc.length = acc := by
    have := congrArg (List.take acc.length) h1
    rw [xe] at this
    simp at this
    exact this.symm
   have e2 : M[acc.length]? = some (adN acc p.after.toList) := by
    have := congrArg (fun l => l[acc.length]?) h1
    simp at this
    exact this.symm
   rw [Nat.add_zero, e1, e2]
  | succ j =>
   have := aEY r (acc ++ [adN acc p.after.toList]) j o (by simpa using h)
   rw [zH] at this
   simp only [zG, yP] at this
   rwa [show acc.length + (0 + 1) + j = acc.length + (j + 1) by omega] at this
theorem ak5 {acc : List Nat} {i : Nat} : ∀ {es : List Edge}, (adN acc es).testBit i = true → ∃ e ∈ es, agD e = true ∧ (i = e.on ∨ (acc.getD e.on 0).testBit i = true)
 | [], h => by simp [adN] at h
 | e :: r, h => by
  simp only [adN] at h
  cases hb : agD e with
  | true =>
   rw [hb] at h
   simp only [Nat.testBit_or, wX] at h
   rcases h with (h | h) | h
   ·rw [Nat.testBit_two_pow] at h
    simp at h
    exact ⟨e, by simp, hb, Or.inl h.symm⟩
   ·exact ⟨e, by simp, hb, Or.inr h⟩
   ·obtain ⟨e', h1, h2⟩ := ak5 h
    exact ⟨e', zN _ h1, h2⟩
  | false =>
   rw [hb] at h
   obtain ⟨e', h1, h2⟩ := ak5 h
   exact ⟨e', zN _ h1, h2⟩
def aJB (l : List Oper) (ls : Nat → Bool) : Prop := ∀ (j : Nat) (o : Oper), l[j]? = some o → ls j = true → ∀ e ∈ o.after, agD e = true → ls e.on = true
theorem ayU {l : List Oper} {ls : Nat → Bool} (hc : aJB l ls) (he : alH l 0 = true) : ∀ (j : Nat) (o : Oper), l[j]? = some o → (∀ e ∈ o.after, agD e = true → ls e.on = true) → ∀ x i, (ad1 l [])[j]? = some x → x.testBit i = true → ls i = true := by
 intro j
 induction j using Nat.strongRecOn with
 | _ j ih =>
  intro o ho hed x i hx hb
  have hm := aEY l [] j o ho
  simp only [yP, zu] at hm
  rw [hx] at hm
  injection hm with hm
  subst hm
  obtain ⟨e, he1, he2, he3⟩ := ak5 hb
  have he1' : e ∈ o.after := by simpa using he1
  have hlt := afR he ho e he1' he2
  rw [zu] at hlt
  rcases he3 with rfl | he3
  ·exact hed e he1' he2
  ·have hjl : j < l.length := (zP.1 ho).1
   have hel : e.on < l.length := zc
   obtain ⟨p, hp⟩ : ∃ p, l[e.on]? = some p := ⟨l[e.on], by simp [hel]⟩
   have hmx : e.on < (ad1 l []).length := by rw [(ag3 l []).2]; simpa using hel
   have hgx : (ad1 l [])[e.on]? = some (ad1 l [])[e.on] := by simp [hmx]
   have hgd : ((ad1 l []).take j).getD e.on 0 = (ad1 l [])[e.on] := by
    rw [yp, yw, if_pos hlt, hgx]; rfl
   rw [hgd] at he3
   exact ih e.on hlt p hp (hc e.on p hp (hed e he1' he2)) _ i hgx he3
theorem amU {m : Nat} : ∀ {l : List Nat} {k : Nat}, atW m l k = true → ∀ {j x : Nat}, l[j]? = some x → m ≤ k + j → x = 2 ^ (k + j) - 1
 | [], _, _, j, x, hx => by simp at hx
 | y :: r, k, h, j, x, hx => by
  simp only [atW, zw] at h
  intro hm
  cases j with
  | zero =>
   simp at hx
   subst hx
   rw [Nat.add_zero] at hm ⊢
   rw [vz hm] at h
   exact aaK h.1
  | succ j =>
   have := amU h.2 (j := j) (by simpa using hx) zc
   rwa [show k + 1 + j = k + (j + 1) by omega] at this
open Go Go.RowKit
def aTH (pre : List Oper) (us : List Out) (nt : Nat) (f0 : Nat → AV) (ls : Nat → Bool) (t : Nat) (x : AV) : Prop :=
 (∃ (j : Nat) (o : Oper) (u : Out), pre[j]? = some o ∧ us[j]? = some u ∧ o.dst = some t ∧ t < nt ∧ ls j = true ∧ x = u.av) ∨
 ((∀ (j : Nat) (o : Oper), pre[j]? = some o → o.dst = some t → t < nt → ls j = false) ∧ x = f0 t)
def SkInv (C : Ctx) (ρ : Nat → Nat) (Hd : Heap) (w : World) (Hs : Heap) (sk : List (Nat × Nat)) (base : Nat) (us : List Out) (ls : Nat → Bool) : Prop :=
  ∀ K k, (K, k) ∈ sk → base ≤ K ∧ ∃ e cells, Hs.find k = some (.vars e cells) ∧ (k ∈ Hd.keys → (k, Bk.any) ∈ Hd ∧
    ((∃ b, us[K - base]? = some (.st k b) ∧ ls (K - base) = true ∧ BkR C ρ Hd w (ρ k) b) ∨
     ((ls (K - base) = false ∨ us[K - base]? = some .skip) ∧ BkR C ρ Hd w (ρ k) (.vars e cells))))
def AInv (C : Ctx) (ρ0 : Nat → Nat) (ws : World) (σ0 : St) (Hs : Heap) (sk : List (Nat × Nat)) (base : Nat) (pre : List Oper) (us : List Out) (ls : Nat → Bool) (a : Act) (w : World) : Prop :=
 ∃ (ρ : Nat → Nat) (Hd : Heap), (∀ x, x ∈ Hd ↔ x ∈ σ0.H ∨ ∃ (j : Nat) (u : Out), us[j]? = some u ∧ ls j = true ∧ x ∈ u.new) ∧ MRel C ρ Hd σ0.next w ∧
  (∀ t x, aTH pre us σ0.n (af8 σ0.slots) ls t x → VR C ρ Hd w x (a.tmps.getD t undef)) ∧ a.tmps.size = σ0.n ∧ Dfs C ρ Hd w a.defers ∧ Ext C ρ0 σ0.H ws ρ Hd w ∧ SkInv C ρ Hd w Hs sk base us ls
def avE (ls : Nat → Bool) (i : Nat) : Nat → Bool := fun j => if j = i then true else ls j
section
variable {C : Ctx} {P : Program} {G : World → Prop} {Γ : Cons} {ops : Array Oper}
theorem aTS {H : Heap} {k : Nat} {b : Bk} (hn : H.keys.Nodup) (h : (k, b) ∈ H) : H.up k b = H := by
 induction H with
 | nil => rfl
 | cons x r ih =>
  obtain ⟨j, y⟩ := x
  have hn' := yH.1 hn
  simp only [Heap.up]
  cases hb : Nat.beq j k with
  | true =>
   have := aaK hb; subst this
   rcases zy.1 h with e | h
   ·injection e with _ e; rw [e]
   ·exact absurd (aaO h) hn'.1
  | false =>
   rcases zy.1 h with e | h
   ·injection e with e _; exact absurd e.symm (ac9 hb)
   ·simp only [ih hn'.2 h]
theorem aMy {ρ : Nat → Nat} {H : Heap} {next : Nat} {w : World} (hm : MRel C ρ H next w) {k off : Nat} {e : TypeId} {cells cs : List AV} {n : Nat} {t : TypeId} {y : AV} {vy : Value} (hk : (k, Bk.any) ∈ H)
  (hb : BkR C ρ H w (ρ k) (.vars e cells)) (hcs : cellsOf y = some cs) (hsz : ab5 P t = some n) (hlen : cs.length = n) (hle : off + n ≤ cells.length) (hy : VR C ρ H w y vy) :
  ∃ w', (Instr.storeAt t (.pointer (some ⟨ρ k, off, none⟩)) vy).run P w = .ok () w' ∧ MRel C ρ H next w' ∧ Ext C ρ H w ρ H w' ∧ BkR C ρ H w' (ρ k) (.vars e (over cells off cs)) ∧ (∀ j, j ≠ ρ k → w'.heap[j]? = w.heap[j]?) := by
 obtain ⟨c, h1, h2, h3⟩ := hb
 obtain ⟨hv, hv1⟩ := ahH hcs hy
 have hl1 := hv.length
 have hl2 := h2.length
 have hcl : c.toList.length = c.size := zi
 have hvs : vy.cells.toList.length = n := zc
 have hrun := al6 (P := P) (vs := vy.cells.toList) h1 (o := off) zc hv1
 have hovl : (over c.toList off vy.cells.toList).length = c.toList.length := acV _ _ _ zc
 obtain ⟨hm', hext⟩ := hm.write (nb := .any) (c' := ⟨over c.toList off vy.cells.toList⟩) hk h1 (by simp [hovl]) (fun e t l h => by cases h) (fun H' w' _ hw' => ⟨_, hw'⟩)
 rw [aTS hm.nodup hk] at hm' hext
 refine ⟨_, ?_, hm', hext, ⟨_, setRow_heap _ _ _ _ _ _ h1, (h2.imp (fun _ _ => hext.vr)).over (hv.imp (fun _ _ => hext.vr)) off, ?_⟩, fun j hj => setRow_other _ _ _ _ hj⟩
 ·simp only [Instr.storeAt, Instr.sureAddr, Sem.run_bind, Sem.run_pure, Result.andThen_ok, storeVar, aa8 hsz, Sem.run_ite]
  rw [if_neg (by simp at hl1; omega)]
  exact hrun
 ·intro v hv
  rcases aqH hv with h | h
  ·exact h3 v h
  ·exact hv1 v h
theorem aQ4 {a : Act} {dst : Option Nat} {v : Value} {t : Nat} : (a.put dst v).tmps.getD t undef = if dst = some t ∧ t < a.tmps.size then v else a.tmps.getD t undef := by
 cases dst with
 | none => simp [Act.put]
 | some d =>
  simp only [Act.put, zI]
  by_cases h : d = t
  ·subst h
   by_cases hlt : d < a.tmps.size
   ·simp [hlt]
   ·simp [hlt]
  ·rw [xz h]
   simp [h]
theorem aQt {a : Act} {dst : Option Nat} {v : Value} : (a.put dst v).tmps.size = a.tmps.size := by cases dst <;> simp [Act.put]
theorem aKo {a : Act} {dst : Option Nat} {v : Value} : (a.put dst v).defers = a.defers := by cases dst <;> rfl
theorem atB {t : Nat} : ∀ {l : List Operand}, .tmp t ∈ l → t ∈ ap7 l
 | [], h => by simp at h
 | x :: r, h => by
  rcases zy.1 h with e | h1
  ·subst e; simp [ap7]
  ·have := atB h1
   cases x <;> simp [ap7, this]
theorem auK {o : Oper} {t : Nat} (h : t ∈ ap7 o.op.operands.toList) : t ∈ al9 ops o := by
 unfold al9
 split
 ·exact h
 ·split
  ·exact zN _ h
  ·exact h
theorem apK {o : Oper} {j : Nat} {want : Bool} {t : Nat} (hg : o.guard = some (j, want)) (ht : ac6 ops j = some t) : t ∈ al9 ops o := by
 unfold al9
 rw [hg]
 simp only [ht]
 exact yc
theorem aOI {K : Nat} {H : Heap} {arg : Operand → AV} {o : Oper} {x : AV × List (Nat × Bk)} {t : TypeId} {p y : Operand} (ho : o.op = .store t p y) (h : (evM P Γ K H arg o).Leaf x) : False := by
 simp only [evM, evP, ho] at h
 obtain ⟨_, h1, _⟩ := T.Leaf.bind h
 cases h1
theorem aS7 {sk : List (Nat × Nat)} (hn : (sk.map (·.2)).Nodup) {K K' k : Nat} (h : (K, k) ∈ sk) (h' : (K', k) ∈ sk) : K = K' := by
 induction sk with
 | nil => cases h
 | cons x r ih =>
  have hn' := yH.1 hn
  rcases zy.1 h with e | h1 <;> rcases zy.1 h' with e' | h2
  ·rw [← e] at e'; injection e' with e' _; exact e'.symm
  ·subst e; exact absurd (zM.2 ⟨_, h2, rfl⟩) hn'.1
  ·subst e'; exact absurd (zM.2 ⟨_, h1, rfl⟩) hn'.1
  ·exact ih hn'.2 h1 h2
structure SkOk (sk : List (Nat × Nat)) (base : Nat) (pre : List Oper) : Prop where
 nodup : (sk.map (·.2)).Nodup
 get : ∀ K k, (K, k) ∈ sk → aCd sk K = some k
 op : ∀ K k, (K, k) ∈ sk → ∃ o t a x, pre[K - base]? = some o ∧ o.op = .store t a x
 laid : ∀ K k, (K, k) ∈ sk → base ≤ k → ∃ o, pre[K - base]? = some o ∧ afP o (k - base) = true
theorem avB {pre : List Oper} {base : Nat} : ∀ {sk : List (Nat × Nat)}, ayY pre base sk = true → ∀ K k, (K, k) ∈ sk → base ≤ k → ∃ o, pre[K - base]? = some o ∧ afP o (k - base) = true
 | [], _, _, _, hm, _ => by cases hm
 | (K', k') :: r, h, K, k, hm, hk => by
  simp only [ayY, zw, wX] at h
  rcases zy.1 hm with e | hm
  ·injection e with e1 e2
   subst e1; subst e2
   rcases h.1 with h1 | h1
   ·have := Nat.le_of_ble_eq_true h1; omega
   ·split at h1
    ·rename_i o ho; exact ⟨o, ho, h1⟩
    ·cases h1
  ·exact avB h.2 K k hm hk
theorem aDW {sk : List (Nat × Nat)} {K k : Nat} (h : aCd sk K = some k) : (K, k) ∈ sk := by
 induction sk with
 | nil => cases h
 | cons x r ih =>
  obtain ⟨K', k'⟩ := x
  simp only [aCd] at h
  cases hb : Nat.beq K' K with
  | true => rw [hb] at h; injection h with h; subst h; have := aaK hb; subst this; exact yc
  | false => rw [hb] at h; exact zN _ (ih h)
theorem skHas_iff {sk : List (Nat × Nat)} {k : Nat} : ao7 sk k = true ↔ ∃ K, (K, k) ∈ sk := by
 induction sk with
 | nil => simp [ao7]
 | cons x r ih =>
  obtain ⟨K', j⟩ := x
  simp only [ao7]
  cases hb : Nat.beq j k with
  | true => have := aaK hb; subst this; exact ⟨fun _ => ⟨K', yc⟩, fun _ => rfl⟩
  | false =>
   rw [ih]
   have hne := ac9 hb
   constructor
   ·rintro ⟨K, h⟩; exact ⟨K, zN _ h⟩
   ·rintro ⟨K, h⟩
    rcases zy.1 h with e | h
    ·injection e with _ e; exact absurd e.symm hne
    ·exact ⟨K, h⟩
theorem MRel.reveal {ρ : Nat → Nat} {H H' : Heap} {next : Nat} {w : World} (hm : MRel C ρ H next w) (hk : ∀ k, k ∈ H.keys ↔ k ∈ H'.keys) (hr : ∀ k e t l, (k, Bk.row e t l) ∈ H → (k, Bk.row e t l) ∈ H') (hn : H'.keys.Nodup)
  (hb : ∀ k b, (k, b) ∈ H' → BkR C ρ H w (ρ k) b) : MRel C ρ H' next w ∧ Ext C ρ H w ρ H' w := by
 have hext : Ext C ρ H w ρ H' w := ⟨fun b ⟨h1, h2, h3⟩ => ⟨⟨h1, h2, fun k hk' => h3 k ((hk k).2 hk')⟩, rfl⟩, fun k hk' => ⟨(hk k).1 hk', rfl⟩, fun k e t l hm => ⟨l, hr k e t l hm, zq _, fun c fr hc => ⟨c, fr, hc, rfl⟩⟩, zq _⟩
 exact ⟨⟨hm.below, hn, fun k hk' => hm.lt k ((hk k).2 hk'), fun k hk1 k' hk2 => hm.inj k ((hk k).2 hk1) k' ((hk k').2 hk2), fun k hk' => hm.low k ((hk k).2 hk'), fun k b hb' => (hb k b hb').ext hext rfl⟩, hext⟩
theorem aaX (H : Heap) : ∀ l : List (Nat × Bk), (aa5 H l).keys = H.keys
 | [] => rfl
 | (k, b) :: r => by simp only [aa5]; rw [Heap.keys_up, aaX H r]
theorem aeJ {H : Heap} (hn : H.keys.Nodup) : ∀ {l : List (Nat × Bk)} {k : Nat} {b : Bk}, (k, b) ∈ aa5 H l → (k, b) ∈ l ∨ (∀ b', (k, b') ∉ l) ∧ (k, b) ∈ H
 | [], k, b, h => Or.inr ⟨(by intro b' hb; cases hb), h⟩
 | (j, y) :: r, k, b, h => by
  simp only [aa5] at h
  by_cases hj : k = j
  ·subst hj
   rw [Heap.mem_up_eq (by rw [aaX]; exact hn) h]
   exact Or.inl yc
  ·rcases aeJ hn ((Heap.mem_up_ne hj).1 h) with h | ⟨h1, h2⟩
   ·exact Or.inl (zN _ h)
   ·refine Or.inr ⟨fun b' hb' => ?_, h2⟩
    rcases zy.1 hb' with e | hb'
    ·injection e with e _; exact hj e
    ·exact h1 b' hb'
theorem acC {H : Heap} : ∀ {l : List (Nat × Bk)} {k : Nat} {b : Bk}, (k, b) ∈ H → (∀ b', (k, b') ∉ l) → (k, b) ∈ aa5 H l
 | [], _, _, h, _ => h
 | (j, y) :: r, k, b, h, hl => by
  simp only [aa5]
  have hne : k ≠ j := fun e => hl y (by rw [e]; exact yc)
  exact (Heap.mem_up_ne hne).2 (acC h (fun b' hb' => hl b' (zN _ hb')))
theorem olds_mem {H : Heap} : ∀ {sk : List (Nat × Nat)} {k : Nat} {b : Bk}, (k, b) ∈ olds H sk ↔ (∃ K, (K, k) ∈ sk) ∧ H.find k = some b
 | [], k, b => by simp [olds]
 | (K', j) :: r, k, b => by
  simp only [olds]
  cases hf : H.find j with
  | none =>
   simp only [olds_mem, zy, Prod.mk.injEq]
   constructor
   ·rintro ⟨⟨K, h1⟩, h2⟩; exact ⟨⟨K, Or.inr h1⟩, h2⟩
   ·rintro ⟨⟨K, ⟨_, rfl⟩ | h1⟩, h2⟩
    ·rw [hf] at h2; cases h2
    ·exact ⟨⟨K, h1⟩, h2⟩
  | some y =>
   simp only [zy, olds_mem, Prod.mk.injEq]
   constructor
   ·rintro (⟨rfl, rfl⟩ | ⟨⟨K, h1⟩, h2⟩)
    ·exact ⟨⟨K', Or.inl ⟨rfl, rfl⟩⟩, hf⟩
    ·exact ⟨⟨K, Or.inr h1⟩, h2⟩
   ·rintro ⟨⟨K, ⟨_, rfl⟩ | h1⟩, h2⟩
    ·rw [hf] at h2; injection h2 with h2; exact Or.inl ⟨rfl, h2.symm⟩
    ·exact Or.inr ⟨⟨K, h1⟩, h2⟩
theorem aiU {H : Heap} : ∀ {l : List (Nat × Bk)} {k : Nat} {b : Bk}, k ∈ H.keys → (k, b) ∈ l → (∀ b', (k, b') ∈ l → b' = b) → (k, b) ∈ aa5 H l
 | [], _, _, _, h, _ => by cases h
 | (j, y) :: r, k, b, hk, h, hu => by
  simp only [aa5]
  by_cases hj : k = j
  ·subst hj
   rw [hu y yc]
   exact Heap.mem_up_same (by rw [aaX]; exact hk)
  ·refine (Heap.mem_up_ne hj).2 (aiU hk ?_ (fun b' hb' => hu b' (zN _ hb')))
   rcases zy.1 h with e | h
   ·injection e with e _; exact absurd e hj
   ·exact h
theorem ah4 {pre : List Oper} {base i : Nat} : ∀ {sk : List (Nat × Nat)} {K k : Nat}, (K, k) ∈ aeV pre base i sk → (K, k) ∈ sk ∧ ∃ o, pre[K - base]? = some o ∧ afP o i = true
 | [], _, _, h => by cases h
 | (K', k') :: r, K, k, h => by
  simp only [aeV] at h
  split at h
  ·rename_i o ho
   split at h
   ·rename_i he
    rcases zy.1 h with e | h
    ·injection e with e1 e2; subst e1; subst e2; exact ⟨yc, o, ho, he⟩
    ·obtain ⟨h1, h2⟩ := ah4 h; exact ⟨zN _ h1, h2⟩
   ·obtain ⟨h1, h2⟩ := ah4 h; exact ⟨zN _ h1, h2⟩
  ·obtain ⟨h1, h2⟩ := ah4 h; exact ⟨zN _ h1, h2⟩
theorem aQX (pre : List Oper) (base : Nat) (sk : List (Nat × Nat)) (Hs H : Heap) (K : Nat) (N : Heap) : aN9 pre base sk Hs H K N = aTd sk base N pre[K - base]? ++ aa5 H (olds Hs (aeV pre base (K - base) sk)) := by
 cases sk <;> rfl
theorem as0 {sk : List (Nat × Nat)} {o : Oper} {base : Nat} : ∀ {N : Heap} {x : Nat × Bk}, x ∈ aNf sk o base N → x ∈ N ∧ base ≤ x.1 ∧ afP o (x.1 - base) = true ∧ ao7 sk x.1 = false
 | [], _, h => by cases h
 | (k, b) :: r, x, h => by
  simp only [aNf] at h
  split at h
  ·rename_i hb
   split at h
   ·rename_i hc
    simp only [zw, zT] at hc
    rcases zy.1 h with rfl | h
    ·exact ⟨yc, Nat.le_of_ble_eq_true hb, hc⟩
    ·obtain ⟨h1, h2⟩ := as0 h; exact ⟨zN _ h1, h2⟩
   ·obtain ⟨h1, h2⟩ := as0 h; exact ⟨zN _ h1, h2⟩
  ·cases h
theorem SkInv.keep {ρ ρ' : Nat → Nat} {Hd new : Heap} {w w' : World} {Hs : Heap} {sk : List (Nat × Nat)} {base : Nat} {us : List Out} {ls : Nat → Bool} {i : Nat} (h : SkInv C ρ Hd w Hs sk base us ls) (he : Ext C ρ Hd w ρ' (new ++ Hd) w')
  (hb : ∀ k ∈ Hd.keys, w'.heap[ρ k]? = w.heap[ρ k]?) (hi : ∀ K k, (K, k) ∈ sk → K - base = i → us[i]? = some .skip)
  (hnew : ∀ K k e cells, (K, k) ∈ sk → Hs.find k = some (.vars e cells) → k ∈ Heap.keys new → (k, Bk.any) ∈ new ∧ ls (K - base) = false ∧ BkR C ρ' (new ++ Hd) w' (ρ' k) (.vars e cells)) : SkInv C ρ' (new ++ Hd) w' Hs sk base us (avE ls i) := by
 intro K k hk
 obtain ⟨h0, e, cells, h1, h2⟩ := h K k hk
 refine ⟨h0, e, cells, h1, fun hkk => ?_⟩
 have hcase : k ∈ Heap.keys new ∨ k ∈ Hd.keys := by
  simp only [Heap.keys, xT, zJ] at hkk
  exact hkk
 rcases hcase with hkk | hkk
 ·obtain ⟨g1, g2, g3⟩ := hnew K k e cells hk h1 hkk
  refine ⟨zJ.2 (Or.inl g1), Or.inr ⟨?_, g3⟩⟩
  by_cases hi' : K - base = i
  ·rw [hi']; exact Or.inr (hi K k hk hi')
  ·exact Or.inl (by unfold avE; rw [if_neg hi']; exact g2)
 ·obtain ⟨h2, h3⟩ := h2 hkk
  have hr := (he.keys k hkk).2
  refine ⟨zJ.2 (Or.inr h2), ?_⟩
  rw [hr]
  rcases h3 with ⟨b, g1, g2, g3⟩ | ⟨g1, g2⟩
  ·exact Or.inl ⟨b, g1, by unfold avE; split <;> first | rfl | exact g2, g3.ext he (hb k hkk)⟩
  ·refine Or.inr ⟨?_, g2.ext he (hb k hkk)⟩
   by_cases hi' : K - base = i
   ·rw [hi']; exact Or.inr (hi K k hk hi')
   ·rcases g1 with g1 | g1
    ·exact Or.inl (by unfold avE; rw [if_neg hi']; exact g1)
    ·exact Or.inr g1
theorem AInv.step (hG : ap3 G) (hC : G C.w0) (hΓ : Γ.ok P G) {ρ0 : Nat → Nat} {ws : World} {σ0 : St} {base : Nat} {l pre : List Oper} {us : List Out} {f' : Nat → AV} {ls : Nat → Bool} {a : Act} {w : World}
  {i : Nat} {o : Oper} {Q : Exit → Act → World → Prop} {nx : Act → World → Prop} (hops : ops.toList = l) (hpre : ∀ (j : Nat) (p : Oper), pre[j]? = some p → l[j]? = some p)
  {Hs : Heap} {sk : List (Nat × Nat)} (hsk : SkOk sk base pre) (htr : Tr P Γ ops sk Hs (aN9 pre base sk Hs σ0.H) σ0.n pre base σ0.H (af8 σ0.slots) us f') (hchk : aBF ops pre pre 0 = true) (hnd0 : σ0.H.keys.Nodup) (hbase : ∀ k ∈ σ0.H.keys, k < base) (hnext : base + pre.length ≤ σ0.next)
  (hinit : ∀ (i : Nat) (o : Oper) (e : TypeId) (zs : List AV), pre[i]? = some o → o.op = .alloc e → aeN P e = some zs → Hs.find (base + i) = some (.vars e zs)) (hcl : aJB l ls)
  (ho : pre[i]? = some o) (hls : ls i = false) (hedge : ∀ e ∈ o.after, agD e = true → ls e.on = true) (hinv : AInv C ρ0 ws σ0 Hs sk base pre us ls a w)
  (hnx : ∀ a' w', AInv C ρ0 ws σ0 Hs sk base pre us (avE ls i) a' w' → nx a' w') (rnd : Option Nat) : wpOpIn (afL rnd) 0 P ops Q i nx a w := by
 obtain ⟨ρ, Hd, hH, hm, hsl, hsz, hdf, hext, hski⟩ := hinv
 obtain ⟨u, fi, Ni, hu, htri, hst, hNi⟩ := htr.nth ho
 obtain ⟨hrd, hdst⟩ := ayX hchk ho
 rw [zu] at hrd hdst
 have hilt : i < pre.length := (zP.1 ho).1
 -- what the operation aTc
 have hread : ∀ t ∈ al9 ops o, VR C ρ Hd w (fi t) (a.tmps.getD t undef) := by
  intro t ht
  have hc := hrd t ht
  apply hsl t
  rcases htri.slot t with ⟨j, p, v, h1, h2, h3, h4, h5⟩ | ⟨h1, h2⟩
  ·have hji : j < i := by
    have := (zP.1 h1).1
    simp at this; omega
   rw [yw, if_pos hji] at h1 h2
   have h7 : afP o j = true := by
    have h7 := amV hc h1 h3
    rw [zu] at h7
    rcases h7 with h7 | h7
    ·exact h7.2
    ·omega
   obtain ⟨e, he1, he2, he3⟩ := ag4 h7
   exact Or.inl ⟨j, p, v, h1, h2, h3, h4, by rw [← he3]; exact hedge e he1 he2, h5⟩
  ·refine Or.inr ⟨fun j p hp hd hlt => ?_, h2⟩
   have h6 := amV hc hp hd
   rw [zu] at h6
   rcases h6 with ⟨h6, _⟩ | ⟨_, h6⟩
   ·exact absurd hlt (h1 j p (by rw [yw, if_pos h6]; exact hp) hd)
   ·obtain ⟨ed, d1, d2, d3⟩ := ag4 h6
    cases hb : ls j with
    | false => rfl
    | true =>
     have := hcl _ _ (hpre _ _ hp) hb ed d1 d2
     rw [d3, hls] at this
     cases this
 -- the keys of the new blocks
 have hnewk : ∀ (j : Nat) (v : Out), us[j]? = some v → ∀ x ∈ v.new, x.1 = base + j := by
  intro j v hj x hx
  have hjl : j < pre.length := by have := (zP.1 hj).1; rw [htr.length] at this; exact this
  obtain ⟨v', fj, _, h1, _, h3, _⟩ := htr.nth (i := j) (o := pre[j]) (by simp [hjl])
  rw [hj] at h1
  injection h1 with h1
  subst h1
  cases v with
  | ran r new =>
   rcases h3.2 with ⟨_, h3⟩ | ⟨_, _, _, _, _, rfl⟩
   ·exact aq6 h3 x hx
   ·simp only [Out.new, zZ] at hx; subst hx; rfl
  | skip => cases hx
  | st k b => cases hx
 have hKn : base + i ∉ Hd.keys := by
  intro hk
  obtain ⟨x, hx, e⟩ := zM.1 hk
  rcases (hH x).1 hx with h | ⟨j, v, h1, h2, h3⟩
  ·have := hbase x.1 (zM.2 ⟨x, h, rfl⟩); omega
  ·have := hnewk j v h1 x h3
   have : j = i := zc
   subst this
   rw [hls] at h2; cases h2
 -- what holds behind it
 have done : ∀ (v : Value) (ρ' : Nat → Nat) (w' : World), MRel C ρ' (u.new ++ Hd) σ0.next w' → Ext C ρ Hd w ρ' (u.new ++ Hd) w' → VR C ρ' (u.new ++ Hd) w' u.av v → SkInv C ρ' (u.new ++ Hd) w' Hs sk base us (avE ls i) → AInv C ρ0 ws σ0 Hs sk base pre us (avE ls i) (a.put o.dst v) w' := by
  intro v ρ' w' hm' he hv hsk'
  refine ⟨ρ', u.new ++ Hd, fun x => ?_, hm', fun t x hx => ?_, by rw [aQt]; exact hsz, by rw [aKo]; exact hdf.mono he.data he.size, hext.trans he, hsk'⟩
  ·rw [zJ, hH]
   constructor
   ·rintro (h | h | ⟨j, v, h1, h2, h3⟩)
    ·exact Or.inr ⟨i, u, hu, by simp [avE], h⟩
    ·exact Or.inl h
    ·exact Or.inr ⟨j, v, h1, by unfold avE; split <;> first | rfl | exact h2, h3⟩
   ·rintro (h | ⟨j, v, h1, h2, h3⟩)
    ·exact Or.inr (Or.inl h)
    ·by_cases hj : j = i
     ·subst hj; rw [hu] at h1; injection h1 with h1; subst h1; exact Or.inl h3
     ·exact Or.inr (Or.inr ⟨j, v, h1, by unfold avE at h2; rwa [if_neg hj] at h2, h3⟩)
  ·rw [aQ4]
   rcases hx with ⟨j, p, v', h1, h2, h3, h4, h5, h6⟩ | ⟨h1, h2⟩
   ·by_cases hj : j = i
    ·subst hj
     rw [ho] at h1; injection h1 with h1; subst h1
     rw [hu] at h2; injection h2 with h2; subst h2
     rw [if_pos ⟨h3, by rw [hsz]; exact h4⟩, h6]
     exact hv
    ·rw [if_neg]
     ·exact he.vr (hsl t x (Or.inl ⟨j, p, v', h1, h2, h3, h4, by unfold avE at h5; rwa [if_neg hj] at h5, h6⟩))
     ·rintro ⟨hd, _⟩
      have := ayZ (hdst t hd) h1 h3
      omega
   ·rw [if_neg]
    ·exact he.vr (hsl t x (Or.inr ⟨fun j p hp hd hlt => by
      have := h1 j p hp hd hlt
      unfold avE at this
      split at this
      ·cases this
      ·exact this, h2⟩))
    ·rintro ⟨hd, hlt⟩
     have := h1 i o ho hd (by rw [← hsz]; exact hlt)
     simp [avE] at this
 have hoi : ops[i]? = some o := by
  have := hpre i o ho
  rw [← hops, yV] at this
  exact this
 unfold wpOpIn
 rw [hoi]
 simp only
 have hyield : ∀ (j t : Nat) (b : Bool), ac6 ops j = some t → fi t = .d .bool b → t ∈ al9 ops o → yielded ops a.tmps j = some b := by
  intro j t b ht hf hr
  have := hread t hr
  rw [hf] at this
  have e := agC this
  rw [zI] at e
  unfold yielded
  unfold ac6 at ht
  rw [ht]
  cases hg : a.tmps[t]? with
  | none => rw [hg] at e; cases e
  | some v => rw [hg] at e; simp at e; subst e; simp [hg]
 cases u with
 | skip =>
  obtain ⟨j, want, t, hg, ht, hor⟩ := hst
  have hr := apK hg ht
  rw [if_neg]
  ·exact ⟨fun _ _ => trivial, hnx _ _ (done undef ρ w hm (Ext.refl _ _ _ _) .und (hski.keep (new := []) (Ext.refl _ _ _ _) (fun _ _ => rfl) (fun _ _ _ _ => hu) (fun _ _ _ _ _ _ h => by cases h)))⟩
  ·rcases hor with hf | hf
   ·rw [show Region.wanted o (yielded ops a.tmps) = false by simp [Region.wanted, hg, hyield j t _ ht hf hr]]
    simp
   ·have := hread t hr
    rw [hf] at this
    have e : a.tmps.getD t undef = undef := by generalize a.tmps.getD t undef = v at this; cases this; rfl
    rw [zI] at e
    have hy : yielded ops a.tmps j = none := by
     unfold yielded
     unfold ac6 at ht
     rw [ht]
     simp only [zO]
     cases hg : a.tmps[t]? with
     | none => rfl
     | some v => rw [hg] at e; simp at e; rw [e]; rfl
    rw [show Region.wanted o (yielded ops a.tmps) = false by simp [Region.wanted, hg, hy]]
    simp
 | st k b =>
  obtain ⟨hw, hsg, t, pa, px, hop, hl⟩ := hst
  rw [if_pos]
  ·have hval : ∀ x ∈ o.op.operands, VR C ρ Hd w (aC3 fi x) (a.eval x) := by
    intro x hx
    cases x with
    | tmp t => exact hread t (auK (atB (by simpa using hx)))
    | const v => exact alG v
    | func f => exact .fn .nil .nil
    | global g => exact .no
   have hva := hval pa (by rw [hop]; simp [Op.operands])
   have hvx := hval px (by rw [hop]; simp [Op.operands])
   have hmem := aDW hsg
   obtain ⟨_, e0, cells0, hf0, hcond⟩ := hski _ _ hmem
   have hidx : base + i - base = i := zc
   rw [hidx] at hcond
   unfold stB at hl
   split at hl
   ·rename_i k' off hpa
    split at hl
    ·rename_i hbq
     have hbq := aaK hbq
     subst hbq
     split at hl
     ·rename_i e cells cs n hf hcs hsz'
      rw [hf0] at hf
      injection hf with hf
      injection hf with hf1 hf2
      subst hf1; subst hf2
      split at hl
      ·rename_i hc
       cases hl
       simp only [zw] at hc
       rw [hpa] at hva
       generalize hvp : a.eval pa = vp at hva
       cases hva with
       | ptr hkk =>
        obtain ⟨hany, hor⟩ := hcond hkk
        have hold : BkR C ρ Hd w (ρ k') (.vars e0 cells0) := by
         rcases hor with ⟨b', _, g, _⟩ | ⟨_, g⟩
         ·rw [hls] at g; cases g
         ·exact g
        obtain ⟨w', hrun, hm', hext', hnew, hoth⟩ := aMy (P := P) hm hany hold hcs hsz' (aaK hc.1) (Nat.le_of_ble_eq_true hc.2) hvx
        refine abP (fun c e => by rw [hop] at e; cases e) ?_
        unfold Oper.wp
        rw [show (execOp a.eval o).run P w = .ok .skip w' by simp [execOp, hop, hvp, hrun]]
        refine hnx _ _ (done undef ρ w' hm' hext' .und ?_)
        intro K' k2 hk2
        obtain ⟨g0, e1, cells1, g1, g23⟩ := hski K' k2 hk2
        refine ⟨g0, e1, cells1, g1, fun hin => ?_⟩
        obtain ⟨g2, g3⟩ := g23 hin
        refine ⟨g2, ?_⟩
        by_cases hKi : K' - base = i
        ·have hKe : K' = base + i := zc
         subst hKe
         have := hsk.get _ _ hk2
         rw [hsg] at this
         injection this with this
         subst this
         rw [hidx]
         exact Or.inl ⟨_, hu, by simp [avE], hnew⟩
        ·have hne : k2 ≠ k' := by
          intro e
          subst e
          exact hKi (by rw [aS7 hsk.nodup hk2 hmem]; exact hidx)
         have hheap : w'.heap[ρ k2]? = w.heap[ρ k2]? := hoth _ (fun e => hne (hm.inj _ (aaO g2) _ hkk e))
         rcases g3 with ⟨b, c1, c2, c3⟩ | ⟨c1, c2⟩
         ·exact Or.inl ⟨b, c1, by unfold avE; rw [if_neg hKi]; exact c2, c3.ext hext' hheap⟩
         ·exact Or.inr ⟨by unfold avE; rw [if_neg hKi]; exact c1, c2.ext hext' hheap⟩
      ·cases hl
     ·cases hl
    ·cases hl
   ·cases hl
  ·rcases hw with hg | ⟨j, want, t, hg, ht, hf⟩
   ·simp [Region.wanted, hg]
   ·simp [Region.wanted, hg, hyield j t _ ht hf (apK hg ht)]
 | ran r new =>
  obtain ⟨hw, hl⟩ := hst
  have hnst : ∀ K k, (K, k) ∈ sk → K - base = i → us[i]? = some .skip := by
   intro K k hk hKi
   exfalso
   obtain ⟨o', t', a', x', g1, g2⟩ := hsk.op K k hk
   rw [hKi, ho] at g1
   injection g1 with g1
   subst g1
   rcases hl with ⟨_, hl⟩ | ⟨e, zs, ho', _⟩
   ·exact aOI g2 hl
   ·rw [ho'] at g2; cases g2
  rw [if_pos]
  ·rcases hl with ⟨hskf, hl⟩ | ⟨e, zs, hoe, hz, rfl, rfl⟩
   ·classical
    generalize hH0 : aN9 pre base sk Hs σ0.H (base + i) Ni = H0 at hl
    rw [aQX, yY, ho] at hH0
    have hlate : ∀ k b, (k, b) ∈ olds Hs (aeV pre base i sk) → k ∈ Hd.keys → (k, Bk.any) ∈ Hd ∧ (∃ e cells, b = .vars e cells) ∧ BkR C ρ Hd w (ρ k) b := by
     intro k b hb hkk
     obtain ⟨⟨K, hK⟩, hf⟩ := olds_mem.1 hb
     obtain ⟨hKs, o2, c1, c2⟩ := ah4 hK
     obtain ⟨_, e, cells, hf', g⟩ := hski K k hKs
     rw [hf] at hf'
     injection hf' with hf'
     obtain ⟨g1, g2⟩ := g hkk
     refine ⟨g1, ⟨e, cells, hf'⟩, ?_⟩
     obtain ⟨ed, d1, d2, d3⟩ := ag4 c2
     rcases g2 with ⟨b', _, g4, _⟩ | ⟨_, g3⟩
     ·have := hcl _ _ (hpre _ _ c1) g4 ed d1 d2
      rw [d3, hls] at this
      cases this
     ·rw [hf']; exact g3
    have hkeq : ∀ k, k ∈ Hd.keys ↔ k ∈ (aa5 Hd (olds Hs (aeV pre base i sk))).keys := fun k => by rw [aaX]
    obtain ⟨hm1, hx1⟩ := hm.reveal (H' := aa5 Hd (olds Hs (aeV pre base i sk))) hkeq (fun k e t l hk => acC hk (fun b' hb' => by
      have := Heap.mem_unique hm.nodup hk (hlate k b' hb' (aaO hk)).1
      cases this)) (by rw [aaX]; exact hm.nodup) (fun k b hb => by
      rcases aeJ hm.nodup hb with h | ⟨_, h⟩
      ·exact (hlate k b h ((hkeq k).2 (aaO hb))).2.2
      ·exact hm.mem k b h)
    have hsub : ∀ x ∈ H0, x ∈ aa5 Hd (olds Hs (aeV pre base i sk)) := by
     rintro ⟨k, b⟩ hx
     rw [← hH0] at hx
     rcases zJ.1 hx with hx | hx
     ·obtain ⟨p1, p2, p3, p4⟩ := as0 hx
      have p5 : (k, b) ∈ Hd := by
       rcases hNi _ p1 with h | ⟨j, v, h1, h2⟩
       ·exact (hH _).2 (Or.inl h)
       ·refine (hH _).2 (Or.inr ⟨j, v, h1, ?_, h2⟩)
        have hkj : k = base + j := hnewk j v h1 _ h2
        obtain ⟨ed, d1, d2, d3⟩ := ag4 p3
        have := hedge ed d1 d2
        rw [d3] at this
        rw [show k - base = j by omega] at this
        exact this
      refine acC p5 (fun b' hb' => ?_)
      obtain ⟨⟨K, hK⟩, _⟩ := olds_mem.1 hb'
      have p4 : ao7 sk k = false := p4
      rw [skHas_iff.2 ⟨K, (ah4 hK).1⟩] at p4
      cases p4
     have hkk : k ∈ σ0.H.keys := by have := aaO hx; rwa [aaX] at this
     have hkd : k ∈ Hd.keys := by
      obtain ⟨y, hy, e⟩ := zM.1 hkk
      exact zM.2 ⟨y, (hH y).2 (Or.inl hy), e⟩
     by_cases hin : ∃ b', (k, b') ∈ olds Hs (aeV pre base i sk)
     ·obtain ⟨b', hb'⟩ := hin
      have hu : ∀ b'', (k, b'') ∈ olds Hs (aeV pre base i sk) → b'' = b' := fun b'' hb'' => by
       have h1 := (olds_mem.1 hb').2
       rw [(olds_mem.1 hb'').2] at h1
       injection h1
      have h1 : (k, b') ∈ aa5 σ0.H (olds Hs (aeV pre base i sk)) := aiU hkk hb' hu
      have hnd0 : (aa5 σ0.H (olds Hs (aeV pre base i sk))).keys.Nodup := by rw [aaX]; exact hnd0
      rw [Heap.mem_unique hnd0 hx h1]
      exact aiU hkd hb' hu
     ·have hno : ∀ b', (k, b') ∉ olds Hs (aeV pre base i sk) := fun b' hb' => hin ⟨b', hb'⟩
      rcases aeJ hnd0 hx with h | ⟨_, h⟩
      ·exact absurd h (hno _)
      ·exact acC ((hH _).2 (Or.inl h)) hno
    have hcong : evM P Γ (base + i) H0 (aC3 fi) o = evM P Γ (base + i) H0 (fun x => if x ∈ o.op.operands then aC3 fi x else .no) o := aOK (fun x hx => by rw [if_pos hx])
    rw [hcong] at hl
    refine abP (aOJ hl) ?_
    refine aRR (H := aa5 Hd (olds Hs (aeV pre base i sk))) hsub hm1 (fun h => hKn ((hkeq _).2 h)) zc hΓ (hG _ _ hm.below hC) (fun x => ?_) hl (fun v ρ' w' hm' he hv hbl => ?_)
    ·refine hx1.vr ?_
     show VR C ρ Hd w (if x ∈ o.op.operands then aC3 fi x else .no) (a.eval x)
     split
     ·rename_i hx
      cases x with
      | tmp t => exact hread t (auK (atB (by simpa using hx)))
      | const v => exact alG v
      | func f => exact .fn .nil .nil
      | global g => exact .no
     ·exact .no
    ·have hmk : ∀ k, k ∈ Heap.keys (new ++ aa5 Hd (olds Hs (aeV pre base i sk))) ↔ k ∈ Heap.keys (new ++ Hd) := fun k => by
      have := hkeq k
      simp only [Heap.keys, xT, zJ] at this ⊢
      rw [this]
     have hndn : Heap.keys (new ++ Hd) = Heap.keys (new ++ aa5 Hd (olds Hs (aeV pre base i sk))) := by
      have := aaX Hd (olds Hs (aeV pre base i sk))
      simp only [Heap.keys, xT] at this ⊢
      rw [this]
     obtain ⟨hm2, hx2⟩ := hm'.reveal (H' := new ++ Hd) hmk (fun k e t l hk => by
       rcases zJ.1 hk with h | h
       ·exact zJ.2 (Or.inl h)
       ·rcases aeJ hm.nodup h with h1 | ⟨_, h1⟩
        ·obtain ⟨_, ⟨e', cells, hb⟩, _⟩ := hlate k _ h1 ((hkeq k).2 (aaO h)); cases hb
        ·exact zJ.2 (Or.inr h1)) (by rw [hndn]; exact hm'.nodup) (fun k b hb => by
       rcases zJ.1 hb with h | h
       ·exact hm'.mem k b (zJ.2 (Or.inl h))
       ·by_cases hin : ∃ b', (k, b') ∈ olds Hs (aeV pre base i sk)
        ·obtain ⟨b', hb'⟩ := hin
         obtain ⟨g1, ⟨e', cells, rfl⟩, _⟩ := hlate k _ hb' (aaO h)
         rw [Heap.mem_unique hm.nodup h g1]
         exact (hm'.mem k _ (zJ.2 (Or.inr (aiU (aaO h) hb' (fun b'' hb'' => by
          have h1 := (olds_mem.1 hb').2
          rw [(olds_mem.1 hb'').2] at h1
          injection h1))))).block
        ·exact hm'.mem k b (zJ.2 (Or.inr (acC h (fun b' hb' => hin ⟨b', hb'⟩)))))
     have he2 : Ext C ρ Hd w ρ' (new ++ Hd) w' := hx1.trans (he.trans hx2)
     exact hnx _ _ (done v ρ' w' hm2 he2 (hx2.vr hv) (hski.keep he2 (fun k hk => hbl.block _ (hm.key_lt hk)) hnst (fun K k e cells hk _ hkn => by
      exfalso
      obtain ⟨x, hx, e⟩ := zM.1 hkn
      have := aq6 hl x hx
      rw [e] at this
      rw [skHas_iff.2 ⟨K, this ▸ hk⟩] at hskf
      cases hskf)))
   ·refine abP (fun c e0 => by rw [hoe] at e0; cases e0) ?_
    obtain ⟨z, hz1, hz2, hz3⟩ := afM (C := C) (ρ := ρ) (H := Hd) (w := w) (P := P) hz
    obtain ⟨hm', hext'⟩ := hm.alloc (K := base + i) (c := z.cells) (e := e) (blk := .any) hKn zc (fun ρ' H' w' _ hw' => ⟨_, hw'⟩)
    unfold Oper.wp
    rw [show (execOp a.eval o).run P w = .ok (.value (.pointer (some ⟨w.heap.size, 0, none⟩))) (w.alloc (.cells z.cells e)) by
     simp [execOp, hoe, Instr.alloc, hz1, newVar]; rfl]
    refine hnx _ _ (done _ _ _ hm' hext' ?_ (hski.keep hext' (fun k hk => Below.heap_alloc _ _ _ (hm.key_lt hk)) hnst (fun K k e' cells hk hfk hkn => ?_)))
    ·have : VR C (upd ρ (base + i) w.heap.size) ((base + i, .any) :: Hd) (w.alloc (.cells z.cells e)) (.ptr (base + i) 0) (.pointer (some ⟨upd ρ (base + i) w.heap.size (base + i), 0, none⟩)) := .ptr yc
     rw [abG] at this
     exact this
    ·have hke : k = base + i := by simpa [Heap.keys, Out.new] using hkn
     subst hke
     obtain ⟨g0, _⟩ := hski K _ hk
     obtain ⟨o', t', a', x', g1, g2⟩ := hsk.op K _ hk
     refine ⟨zZ.2 rfl, ?_, ?_⟩
     ·obtain ⟨o2, c1, c2⟩ := hsk.laid K _ hk (xg _ _)
      obtain ⟨ed, d1, d2, d3⟩ := ag4 c2
      cases hb : ls (K - base) with
      | false => rfl
      | true =>
       have := hcl _ _ (hpre _ _ c1) hb ed d1 d2
       rw [d3, yY, hls] at this
       cases this
     ·rw [abG]
      have hfi := hinit i o e zs ho hoe hz
      rw [hfi] at hfk
      injection hfk with hfk
      injection hfk with hf1 hf2
      subst hf1; subst hf2
      exact ⟨z.cells, by show (w.heap.push _)[w.heap.size]? = _; simp, hz2.imp (fun _ _ => hext'.vr), hz3⟩
  ·rcases hw with hg | ⟨j, want, t, hg, ht, hf⟩
   ·simp [Region.wanted, hg]
   ·simp [Region.wanted, hg, hyield j t _ ht hf (apK hg ht)]
theorem aIo (hG : ap3 G) (hC : G C.w0) (hΓ : Γ.ok P G) {call : al2} (hcall : CallSat P G call) {Q : Exit → Act → World → Prop} {K : St → Prop} {l : List Oper} {m : Nat} (hops : ops.toList = l)
  (hed : alH l 0 = true) (htail : atW m (ad1 l []) 0 = true) : ∀ (rest : List Oper) (j fuel : Nat) (listed : Array Bool) {ρ : Nat → Nat} {σ : St} {a : Act} {w : World}, l.drop j = rest → m ≤ j → rest.length ≤ fuel → listed.size = ops.size →
   (∀ i, i < ops.size → listed.getD i false = decide (i < j)) → SRel C ρ σ a w → aeP P Γ call ops rest σ K → (∀ a' w', Reach C σ ρ w K a' w' → Q .normal a' w') → ∀ rnd : Option Nat, wpAnyIn (afL rnd) 0 P .any ops Q fuel listed a w
 | rest, j, fuel, listed, ρ, σ, a, w, hd, hm, hf, hsz, hlist, hs, h, hQ, rnd => by
  have hlen : l.length = ops.size := by rw [← hops]; simp
  have hlt : ∀ i, i < ops.size → listed.getD i true = decide (i < j) := by
   intro i hi
   have := hlist i hi
   rw [zI] at this ⊢
   rw [xy zc] at this ⊢
   simpa using this
  have hcl : aJB l (fun i => listed.getD i false) := by
   intro i o ho hi e he hb
   have hio : i < ops.size := by rw [← hlen]; exact (zP.1 ho).1
   have hi' : listed.getD i false = true := hi
   rw [hlist i hio] at hi'
   have hlt' := afR hed ho e he hb
   rw [zu] at hlt'
   show listed.getD e.on false = true
   rw [hlist _ zc]
   simp at hi' ⊢
   omega
  have hready : ∀ i ∈ Region.ready .any ops listed, i = j ∧ i < ops.size := by
   intro i hi
   unfold Region.ready at hi
   rw [wz] at hi
   obtain ⟨h1, h2⟩ := hi
   have hi' : i < ops.size := by simpa using h1
   simp only [zw, zT] at h2
   rw [hlt i hi'] at h2
   simp at h2
   obtain ⟨h3, h4⟩ := h2
   refine ⟨?_, hi'⟩
   rcases zr j i with hji | hji
   ·exfalso
    rw [xy hi'] at h4
    simp only [wy, vv, xv] at h4
    have ho : l[i]? = some ops[i] := by rw [← hops]; simp [hi']
    obtain ⟨x, hx⟩ : ∃ x, (ad1 l [])[i]? = some x := ⟨_, zR (by rw [(ag3 l []).2]; simp; omega)⟩
    have hxe := amU htail hx zc
    rw [zu] at hxe
    have := ayU hcl hed i _ ho (fun e he hb => by
     have := h4 e he
     unfold agD at hb
     rw [hb] at this
     simpa using this) x j hx (by rw [hxe, Nat.testBit_two_pow_sub_one]; simpa using hji)
    have hjo : j < ops.size := zc
    have this' : listed.getD j false = true := this
    rw [hlist j hjo] at this'
    simp at this'
   ·omega
  cases rest with
  | nil =>
   have hj : ops.size ≤ j := by
    rw [← hlen]
    exact List.drop_eq_nil_iff.1 hd
   have hnil : Region.ready .any ops listed = [] := by
    apply List.eq_nil_iff_forall_not_mem.2
    intro i hi
    have := hready i hi
    omega
   have hend := hQ a w ⟨ρ, σ, h, hs, Fr.refl _ _ _ _ _, zq _⟩
   cases fuel with
   | zero => exact ⟨hnil, hend⟩
   | succ fuel => exact ⟨fun _ => hend, fun i hi => by rw [hnil] at hi; cases hi⟩
  | cons o rest =>
   obtain ⟨fuel, rfl⟩ : ∃ f, fuel = f + 1 := ⟨fuel - 1, by simp at hf; omega⟩
   have hjl : j < l.length := by
    rcases zr j l.length with h | h
    ·exact h
    ·rw [List.drop_eq_nil_iff.2 h] at hd; cases hd
   have hlj : l[j]? = some o := by
    have := congrArg (fun x => x[0]?) hd
    simpa using this
   have hoj : ops[j]? = some o := by rw [← hops, yV] at hlj; exact hlj
   have hdr : l.drop (j + 1) = rest := by
    rw [yu hjl] at hd
    injection hd
   refine ⟨fun hnil => ?_, fun i hi => ?_⟩
   ·exfalso
    have hjin : j ∈ Region.ready .any ops listed := by
     unfold Region.ready
     rw [wz]
     refine ⟨by simp; omega, ?_⟩
     rw [hlt j zc, hoj]
     simp only [wy, vv, zw]
     refine ⟨by simp, ?_⟩
     rw [xv]
     intro e he
     cases hb : Region.binds .any e with
     | false => rfl
     | true =>
      have := afR hed hlj e he hb
      rw [zu] at this
      simp [hlist e.on zc, this]
    rw [hnil] at hjin
    cases hjin
   ·obtain ⟨rfl, _⟩ := hready i hi
    unfold wpOpIn
    rw [hoj]
    simp only
    refine au7 hG hC hΓ hcall hs h ?_ rnd
    rintro a' w' ⟨ρ', σ', h2, h3, h4, h5⟩
    refine aIo hG hC hΓ hcall hops hed htail rest (i + 1) _ _ hdr zc (by simp at hf; omega) (by simp [hsz]) (fun k hk => ?_) h3 h2 (fun a'' w'' hr => hQ a'' w'' (hr.trans h4 h5)) rnd
    rw [zI]
    by_cases hki : k = i
    ·subst hki
     rw [wR zc]
     simp
    ·rw [xz (Ne.symm hki), ← zI, hlist k hk]
     congr 1
     apply propext
     omega
 termination_by rest => rest.length
theorem aSP {K : Nat} {H : Heap} {arg : Operand → AV} {o : Oper} {r : AV} {new : List (Nat × Bk)} (h : (evM P Γ K H arg o).Leaf (r, new)) : new.length ≤ 1 := by
 unfold evM at h
 split at h
 ·obtain ⟨_, _, h⟩ := T.Leaf.bind h; cases h; exact yg _
 ·split at h <;> cases h; exact zq _
 ·split at h <;> cases h; exact zq _
 ·split at h <;> first | (cases h; done) | skip
  split at h <;> first | (cases h; done) | skip
  split at h <;> first | (cases h; done) | skip
  split at h <;> first | (cases h; done) | skip
  split at h <;> first | (cases h; done) | skip
  split at h
  ·cases h; exact zq _
  ·cases h; exact yg _
 ·split at h
  ·unfold ap9 at h
   split at h <;> first | (cases h; done) | skip
   split at h <;> first | (cases h; done) | skip
   cases h; exact yg _
  ·obtain ⟨_, _, h⟩ := T.Leaf.bind h; cases h; exact yg _
 ·split at h <;> first | (cases h; done) | skip
  split at h <;> first | (cases h; done) | skip
  unfold aN6 at h
  split at h <;> first | (cases h; done) | skip
  split at h <;> first | (cases h; done) | skip
  ·unfold aN5 at h
   split at h <;> first | (cases h; done) | skip
   split at h <;> first | (cases h; done) | skip
   cases h with
   | need _ h =>
    cases h; exact zq _
  split at h <;> first | (cases h; done) | skip
  split at h <;> first | (cases h; done) | skip
  cases h with
  | need _ h => cases h; exact zq _
 ·split at h <;> first | (cases h; done) | skip
  split at h <;> first | (cases h; done) | skip
  split at h <;> first | (cases h; done) | skip
  split at h <;> first | (cases h; done) | skip
  cases h with
  | need _ h => rw [show new = [] from aBC h]; exact yg _
 ·obtain ⟨_, _, h⟩ := T.Leaf.bind h; cases h; exact yg _
theorem MRel.perm {ρ : Nat → Nat} {H H' : Heap} {next : Nat} {w : World} (hm : MRel C ρ H next w) (h : ∀ x, x ∈ H ↔ x ∈ H') (hn : H'.keys.Nodup) : MRel C ρ H' next w ∧ Ext C ρ H w ρ H' w := by
 have hk : ∀ k, k ∈ H.keys ↔ k ∈ H'.keys := by
  intro k
  simp only [Heap.keys, zM, h]
 have hext : Ext C ρ H w ρ H' w := ⟨fun b ⟨h1, h2, h3⟩ => ⟨⟨h1, h2, fun k hk' => h3 k ((hk k).2 hk')⟩, rfl⟩, fun k hk' => ⟨(hk k).1 hk', rfl⟩, fun k e t l hm => ⟨l, (h _).1 hm, zq _, fun c fr hc => ⟨c, fr, hc, rfl⟩⟩, zq _⟩
 exact ⟨⟨hm.below, hn, fun k hk' => hm.lt k ((hk k).2 hk'), fun k hk1 k' hk2 => hm.inj k ((hk k).2 hk1) k' ((hk k').2 hk2), fun k hk' => hm.low k ((hk k).2 hk'), fun k b hb => (hm.mem k b ((h _).2 hb)).ext hext rfl⟩, hext⟩
theorem aA2 {sk : List (Nat × Nat)} {Hs : Heap} : ∀ (l : List Oper) (K : Nat) (H0 : Nat → Heap → Heap) (σ : St) (s : List (Nat × Bk)) (z : St × List (Nat × Bk)), (aF8 P Γ ops sk Hs H0 l K σ s).Leaf z → σ.H.keys.Nodup → (∀ k ∈ σ.H.keys, k < K) → z.1.H.keys.Nodup
 | [], K, H0, σ, s, z, h, hn, _ => by cases h; exact hn
 | o :: rest, K, H0, σ, s, z, h, hn, hk => by
  have key : ∀ (σ1 : St) (u : Out) (s' : List (Nat × Bk)), σ1.H = σ.H → (∀ x ∈ u.new, x.1 = K) → u.new.length ≤ 1 → (aF8 P Γ ops sk Hs H0 rest (K + 1) (σ1.step o u) s').Leaf z → z.1.H.keys.Nodup := by
   intro σ1 u s' e1 hu hl hlf
   have hH : (σ1.step o u).H = u.new ++ σ.H := by unfold St.step; rw [St.put_H]; simp only [e1]
   refine aA2 rest (K + 1) H0 _ _ z hlf ?_ ?_
   ·rw [hH]
    match hun : u.new, hl with
    | [], _ => exact hn
    | [x], _ =>
     refine yH.2 ⟨fun hm => ?_, hn⟩
     have h1 : x.1 < K := hk _ hm
     have := hu x (by rw [hun]; simp)
     omega
   ·rw [hH]
    intro k hkm
    obtain ⟨x, hx, e⟩ := zM.1 hkm
    subst e
    rcases zJ.1 hx with hx | hx
    ·have := hu x hx; omega
    ·have := hk x.1 (zM.2 ⟨x, hx, rfl⟩); omega
  have run : ∀ (σ1 : St) (u : Out) (s' : List (Nat × Bk)), σ1.H = σ.H → (evS P Γ sk Hs K (H0 K σ.H) σ1.eval o).Leaf u → (aF8 P Γ ops sk Hs H0 rest (K + 1) (σ1.step o u) s').Leaf z → z.1.H.keys.Nodup := by
   intro σ1 u s' e h1 h2
   unfold evS at h1
   split at h1
   ·split at h1
    ·obtain ⟨b, _, h4⟩ := T.Leaf.bind h1
     cases h4
     exact key σ1 _ s' e (by intro x hx; cases hx) (yg _) h2
    ·cases h1
   ·split at h1
    ·obtain ⟨y, h3, h4⟩ := T.Leaf.bind h1
     cases h4
     exact key σ1 (.ran y.1 y.2) s' e (aq6 h3) (aSP h3) h2
    ·split at h1
     ·split at h1
      ·cases h1
       exact key σ1 _ s' e (by intro x hx; simp only [Out.new, zZ] at hx; subst hx; rfl) (zq _) h2
      ·cases h1
     ·cases h1
  have skp : ∀ (σ1 : St) (s' : List (Nat × Bk)), σ1.H = σ.H → (aF8 P Γ ops sk Hs H0 rest (K + 1) (σ1.step o .skip) s').Leaf z → z.1.H.keys.Nodup :=
   fun σ1 s' e h2 => key σ1 .skip s' e (by intro x hx; cases hx) (yg _) h2
  simp only [aF8] at h
  split at h
  ·obtain ⟨y, h1, h2⟩ := T.Leaf.bind h
   exact run σ y _ rfl h1 h2
  ·rename_i j want hg
   split at h
   ·rename_i t ht
    split at h
    ·cases h with
     | t h =>
      cases want with
      | true => obtain ⟨y, h1, h2⟩ := T.Leaf.bind h; exact run _ y _ (St.put_H _ _ _) h1 h2
      | false => exact skp _ _ (St.put_H _ _ _) h
     | f h =>
      cases want with
      | true => exact skp _ _ (St.put_H _ _ _) h
      | false => obtain ⟨y, h1, h2⟩ := T.Leaf.bind h; exact run _ y _ (St.put_H _ _ _) h1 h2
    ·exact skp _ _ rfl h
    ·cases h
   ·cases h
theorem auV {l : List Nat} (h : axW l = true) : l.Nodup := by
 induction l with
 | nil => exact List.nodup_nil
 | cons k r ih =>
  simp only [axW, zw, zT] at h
  exact yH.2 ⟨by have := h.1; simpa using this, ih h.2⟩
theorem veil_mem {sk : List (Nat × Nat)} {H : Heap} {k : Nat} {b : Bk} : (k, b) ∈ veil sk H ↔ ∃ b', (k, b') ∈ H ∧ b = (match ao7 sk k with | true => b'.veil | false => b') := by
 induction H with
 | nil => simp [veil]
 | cons x r ih =>
  obtain ⟨j, y⟩ := x
  simp only [veil, zy, ih]
  constructor
  ·rintro (e | ⟨b', h1, h2⟩)
   ·injection e with e1 e2; subst e1; exact ⟨y, Or.inl rfl, e2⟩
   ·exact ⟨b', Or.inr h1, h2⟩
  ·rintro ⟨b', h1 | h1, h2⟩
   ·injection h1 with e1 e2; subst e1; subst e2; exact Or.inl (by rw [h2] <;> cases ao7 sk k <;> rfl)
   ·exact Or.inr ⟨b', h1, h2⟩
theorem agW (sk : List (Nat × Nat)) (H : Heap) : (veil sk H).keys = H.keys := by
 induction H with
 | nil => rfl
 | cons x r ih => obtain ⟨j, y⟩ := x; simp only [veil, Heap.keys, vt] at ih ⊢; rw [ih]
theorem aPZ (H : Heap) : veil [] H = H := by
 induction H with
 | nil => rfl
 | cons x r ih => obtain ⟨j, y⟩ := x; simp only [veil, ao7, ih]
theorem aP0 (sk : List (Nat × Nat)) (H : Heap) : aR1 sk H = veil sk H := by
 cases sk with
 | nil => exact (aPZ H).symm
 | cons x r => rfl
theorem aDV {σ : St} {pre : List Oper} {base : Nat} {Hx : Heap} : ∀ {l : List Oper} {K : Nat} {sk : List (Nat × Nat)}, aS8 σ pre base Hx l K = some sk → (∀ K' k, (K', k) ∈ sk → K ≤ K' ∧ ∃ o t a x, l[K' - K]? = some o ∧ o.op = .store t a x ∧ ∃ e cells, Hx.find k = some (.vars e cells)) ∧ (∀ K' k, (K', k) ∈ sk → aCd sk K' = some k)
 | [], K, sk, h => by
  injection h with h
  subst h
  exact ⟨(by intro _ _ h; cases h), (by intro _ _ h; cases h)⟩
 | o :: r, K, sk, h => by
  simp only [aS8] at h
  split at h
  ·rename_i l hl
   obtain ⟨h1, h2⟩ := aDV hl
   have shift : ∀ K' k, (K', k) ∈ l → K ≤ K' ∧ ∃ o' t a x, (o :: r)[K' - K]? = some o' ∧ o'.op = .store t a x ∧ ∃ e cells, Hx.find k = some (.vars e cells) := by
    intro K' k hm
    obtain ⟨g0, o', t, a, x, g1, g2⟩ := h1 K' k hm
    refine ⟨by omega, o', t, a, x, ?_, g2⟩
    rw [show K' - K = (K' - (K + 1)) + 1 by omega]
    simpa using g1
   split at h
   ·rename_i t a x ho
    split at h
    ·rename_i k hk
     split at h
     ·rename_i e cells hfk
      injection h with h
      subst h
      refine ⟨fun K' k' hm => ?_, fun K' k' hm => ?_⟩
      ·rcases zy.1 hm with e | hm
       ·injection e with e1 e2; subst e1; subst e2
        exact ⟨zq _, o, t, a, x, by simp, ho, _, _, hfk⟩
       ·exact shift K' k' hm
      ·rcases zy.1 hm with e | hm
       ·injection e with e1 e2; subst e1; subst e2
        simp [aCd]
       ·have := (h1 K' k' hm).1
        simp only [aCd, aBe (show K ≠ K' by omega)]
        exact h2 K' k' hm
     ·cases h
    ·cases h
   ·injection h with h
    subst h
    exact ⟨shift, h2⟩
  ·cases h
theorem alM : ∀ {l : List Oper} {K k : Nat}, k ∈ (afU P l K).keys → K ≤ k
 | [], _, _, h => by cases h
 | o :: r, K, k, h => by
  simp only [afU] at h
  split at h
  ·split at h
   ·rcases zy.1 h with e | h
    ·rw [e]; exact zq _
    ·have := alM h; omega
   ·have := alM h; omega
  ·have := alM h; omega
theorem atO {H H' : Heap} {k : Nat} (h : k ∉ H.keys) : Heap.find (H ++ H') k = H'.find k := by
 induction H with
 | nil => rfl
 | cons x r ih =>
  obtain ⟨j, b⟩ := x
  simp only [Heap.keys, vt, zy, not_or] at h
  simp only [vw, Heap.find, aBe (Ne.symm h.1)]
  exact ih h.2
theorem azK {H : Heap} {e : TypeId} {zs : List AV} {o : Oper} : ∀ {l : List Oper} {K i : Nat}, l[i]? = some o → o.op = .alloc e → aeN P e = some zs → Heap.find (afU P l K ++ H) (K + i) = some (.vars e zs)
 | [], _, _, h, _, _ => by cases h
 | p :: r, K, 0, h, ho, hz => by
  injection h with h
  subst h
  simp [afU, ho, hz, Heap.find]
 | p :: r, K, i + 1, h, ho, hz => by
  have ih := azK (H := H) (K := K + 1) (i := i) (l := r) (by simpa using h) ho hz
  rw [show K + (i + 1) = K + 1 + i by omega]
  simp only [afU]
  split
  ·split
   ·simp only [vw, Heap.find, aBe (show K ≠ K + 1 + i by omega)]
    exact ih
   ·exact ih
  ·exact ih
end
open Go Go.RowKit
def aH0 (ls : Nat → Bool) : Nat → Nat
 | 0 => 0
 | k + 1 => aH0 ls k + (if ls k then 1 else 0)
theorem aO8 (ls : Nat → Bool) : ∀ n, aH0 ls n ≤ n
 | 0 => zq _
 | n + 1 => by have := aO8 ls n; simp only [aH0]; split <;> omega
theorem aO7 {ls : Nat → Bool} {i : Nat} (hi : ls i = false) : ∀ {n}, i < n → aH0 ls n < n
 | 0, h => by omega
 | n + 1, h => by
  simp only [aH0]
  by_cases hn : i = n
  ·subst hn
   have := aO8 ls i
   rw [hi]; simp; omega
  ·have := aO7 hi (n := n) zc
   split <;> omega
theorem ayT {ls : Nat → Bool} {i : Nat} : ∀ {n}, n ≤ i → aH0 (avE ls i) n = aH0 ls n
 | 0, _ => rfl
 | n + 1, h => by
  simp only [aH0]
  rw [ayT (n := n) zc]
  simp [avE, show ¬ n = i by omega]
theorem aJi {ls : Nat → Bool} {i : Nat} (hi : ls i = false) : ∀ {n}, i < n → aH0 (avE ls i) n = aH0 ls n + 1
 | 0, h => by omega
 | n + 1, h => by
  simp only [aH0]
  by_cases hn : i = n
  ·subst hn
   rw [ayT (zq _), hi]
   simp [avE]
  ·rw [aJi hi (n := n) zc]
   simp [avE, show ¬ n = i by omega]
   omega
theorem atV {ls : Nat → Bool} {m : Nat} (h1 : ∀ i, i < m → ls i = true) (h2 : ∀ i, m ≤ i → ls i = false) : ∀ {n}, aH0 ls n = min n m
 | 0 => by simp [aH0]
 | n + 1 => by
  simp only [aH0]
  rw [atV h1 h2 (n := n)]
  by_cases hn : n < m
  ·rw [h1 n hn]; simp; omega
  ·rw [h2 n zc]; simp; omega
section
variable {C : Ctx} {P : Program} {G : World → Prop} {Γ : Cons} {ops : Array Oper}
theorem aE0 {ls : Nat → Bool} : ∀ {m : Nat}, (∃ i, i < m ∧ ls i = false) → ∃ i, i < m ∧ ls i = false ∧ ∀ j, j < i → ls j = true
 | 0, ⟨i, h, _⟩ => by omega
 | m + 1, ⟨i, h, hi⟩ => by
  by_cases hex : ∃ i, i < m ∧ ls i = false
  ·obtain ⟨k, h1, h2, h3⟩ := aE0 hex
   exact ⟨k, by omega, h2, h3⟩
  ·refine ⟨i, h, hi, fun j hj => ?_⟩
   cases hb : ls j with
   | true => rfl
   | false => exact absurd ⟨j, by omega, hb⟩ hex
theorem aOU (hG : ap3 G) (hC : G C.w0) (hΓ : Γ.ok P G) {call : al2} (hcall : CallSat P G call) {Q : Exit → Act → World → Prop} {K : St → Prop} {ρ : Nat → Nat} {σ : St} {a : Act} {w : World}
  (hs : SRel C ρ σ a w) {sk : List (Nat × Nat)} (hskof : aS8 σ (ops.toList.take (ad2 (ad1 ops.toList []))) σ.next (afU P (ops.toList.take (ad2 (ad1 ops.toList []))) σ.next ++ σ.H) (ops.toList.take (ad2 (ad1 ops.toList []))) σ.next = some sk) (hpre : aBF ops (ops.toList.take (ad2 (ad1 ops.toList []))) (ops.toList.take (ad2 (ad1 ops.toList []))) 0 = true)
  (hed : alH ops.toList 0 = true) (htail : atW (ad2 (ad1 ops.toList [])) (ad1 ops.toList []) 0 = true) (hml : ad2 (ad1 ops.toList []) ≤ ops.toList.length) (hsnd : axW (sk.map (·.2)) = true) (hlaid : ayY (ops.toList.take (ad2 (ad1 ops.toList []))) σ.next sk = true) {z : St × List (Nat × Bk)}
  (hleaf : (aF8 P Γ ops sk (afU P (ops.toList.take (ad2 (ad1 ops.toList []))) σ.next ++ σ.H) (aN9 (ops.toList.take (ad2 (ad1 ops.toList []))) σ.next sk (afU P (ops.toList.take (ad2 (ad1 ops.toList []))) σ.next ++ σ.H) (veil sk σ.H)) (ops.toList.take (ad2 (ad1 ops.toList []))) σ.next { σ with H := veil sk σ.H, next := σ.next + ad2 (ad1 ops.toList []) } []).Leaf z)
  (hex : aeP P Γ call ops (ops.toList.drop (ad2 (ad1 ops.toList []))) (aoV (afU P (ops.toList.take (ad2 (ad1 ops.toList []))) σ.next ++ σ.H) sk z) K) (hQ : ∀ a' w', Reach C σ ρ w K a' w' → Q .normal a' w') (rnd : Option Nat) :
  wpAnyIn (afL rnd) 0 P .any ops Q ops.size (Array.replicate ops.size false) a { w with drawn := w.drawn + 1 } := by
 generalize hlg : ops.toList = l at *
 generalize hmg : ad2 (ad1 l []) = m at *
 have hxlt : ∀ k, k < σ.next → Heap.find (afU P (l.take m) σ.next ++ σ.H) k = σ.H.find k := fun k hk => atO (fun hm => by have := alM hm; omega)
 have hxnew : ∀ (i : Nat) (o : Oper) (e : TypeId) (zs : List AV), (l.take m)[i]? = some o → o.op = .alloc e → aeN P e = some zs → Heap.find (afU P (l.take m) σ.next ++ σ.H) (σ.next + i) = some (.vars e zs) := fun i o e zs h1 h2 h3 => azK h1 h2 h3
 generalize afU P (l.take m) σ.next ++ σ.H = Hs at *
 have hlen : l.length = ops.size := by rw [← hlg]; simp
 have hplen : (l.take m).length = m := zh
 obtain ⟨us, htr, hH1, hn1, hn2, hsts⟩ := aA1 _ _ _ _ _ hleaf
 have hulen : us.length = m := by rw [htr.length, hplen]
 have hnd : z.1.H.keys.Nodup := aA2 _ _ _ _ _ _ hleaf (by show (veil sk σ.H).keys.Nodup; rw [agW]; exact hs.m.nodup) (by show ∀ k ∈ (veil sk σ.H).keys, k < σ.next; rw [agW]; exact hs.m.lt)
 obtain ⟨hsp1, hsp2⟩ := aDV hskof
 have hskok : SkOk sk σ.next (l.take m) := ⟨auV hsnd, hsp2, fun K' k hk => by obtain ⟨_, o, t, a, x, g1, g2, _⟩ := hsp1 K' k hk; exact ⟨o, t, a, x, g1, g2⟩, avB hlaid⟩
 -- the beginning
 obtain ⟨hmv, hextv⟩ := hs.m.reveal (H' := veil sk σ.H) (fun k => by rw [agW]) (fun k e t l hk => veil_mem.2 ⟨_, hk, by cases ao7 sk k <;> rfl⟩) (by rw [agW]; exact hs.m.nodup) (fun k b hb => by
  obtain ⟨b', h1, h2⟩ := veil_mem.1 hb
  have hbr := hs.m.mem k b' h1
  subst h2
  cases ao7 sk k with
  | false => exact hbr
  | true =>
   cases b' with
   | vars e cells => exact hbr.block
   | _ => exact hbr)
 obtain ⟨hmd, hextd⟩ := hmv.grow (w' := w.drew) ((Below.refl _ _).drew)
 have hstk : ∀ (j : Nat) (k : Nat) (b : Bk), us[j]? = some (.st k b) → (σ.next + j, k) ∈ sk := by
  intro j k b hj
  have hjl : j < (l.take m).length := by have := (zP.1 hj).1; omega
  obtain ⟨v', fj, _, h1, _, h3, _⟩ := htr.nth (i := j) (o := (l.take m)[j]) (by rw [zR hjl])
  rw [hj] at h1
  injection h1 with h1
  subst h1
  exact aDW h3.2.1
 have huv : (aoV Hs sk z).H = aa5 (aa5 z.1.H (olds Hs sk)) z.2 ∧ (aoV Hs sk z).slots = z.1.slots ∧ (aoV Hs sk z).next = z.1.next ∧ (aoV Hs sk z).n = z.1.n := by
  cases hsk0 : sk with
  | nil =>
   have : z.2 = [] := by
    apply List.eq_nil_iff_forall_not_mem.2
    intro x hx
    rcases (hsts x).1 hx with hx | ⟨j, u, h1, h2⟩
    ·cases hx
    ·cases u with
     | st k b => have := hstk j k b h1; rw [hsk0] at this; cases this
     | _ => cases h2
   simp only [aoV, olds, this, aa5, and_self]
  | cons y r => exact ⟨rfl, rfl, rfl, rfl⟩
 have hnewk : ∀ (j : Nat) (v : Out), us[j]? = some v → ∀ x ∈ v.new, x.1 = σ.next + j := by
  intro j v hj x hx
  have hjl : j < (l.take m).length := by have := (zP.1 hj).1; omega
  obtain ⟨v', fj, _, h1, _, h3, _⟩ := htr.nth (i := j) (o := (l.take m)[j]) (by rw [zR hjl])
  rw [hj] at h1
  injection h1 with h1
  subst h1
  cases v with
  | ran r new =>
   rcases h3.2 with ⟨_, h3⟩ | ⟨_, _, _, _, _, rfl⟩
   ·exact aq6 h3 x hx
   ·simp only [Out.new, zZ] at hx; subst hx; rfl
  | skip => cases hx
  | st k b => cases hx
 have fin : ∀ (fuel : Nat) (listed : Array Bool) (a : Act) (w' : World), listed.size = ops.size → (∀ i, i < m → listed.getD i false = true) → (∀ j, m ≤ j → listed.getD j false = false) →
   AInv C ρ w.drew { σ with H := veil sk σ.H, next := σ.next + m } Hs sk σ.next (l.take m) us (fun i => listed.getD i false) a w' → ops.size - m ≤ fuel → wpAnyIn (afL rnd) 0 P .any ops Q fuel listed a w' := by
  intro fuel listed a w' hsz hall hsuf hinv hfuel
  obtain ⟨ρ', Hd, hH, hm', hsl, hsz', hdf, hext, hski⟩ := hinv
  have hmem : ∀ x, x ∈ Hd ↔ x ∈ z.1.H := by
   intro x
   rw [hH, hH1]
   constructor
   ·rintro (hx | ⟨j, u, h1, _, h3⟩)
    ·exact Or.inl hx
    ·exact Or.inr ⟨j, u, h1, h3⟩
   ·rintro (hx | ⟨j, u, h1, h3⟩)
    ·exact Or.inl hx
    ·exact Or.inr ⟨j, u, h1, hall j (by have := (zP.1 h1).1; omega), h3⟩
  obtain ⟨hm1, hext1⟩ := hm'.perm hmem hnd
  have hkeys : ∀ k, k ∈ z.1.H.keys → k ∈ Hd.keys := fun k hk => by
   obtain ⟨x, hx, e⟩ := zM.1 hk
   exact zM.2 ⟨x, (hmem x).2 hx, e⟩
  have hanyk : ∀ K k, (K, k) ∈ sk → k ∈ z.1.H.keys → (k, Bk.any) ∈ z.1.H := fun K k hk hkk => by
   obtain ⟨_, e, cells, _, g⟩ := hski K k hk
   exact (hmem _).1 (g (hkeys k hkk)).1
  have hstsk : ∀ k b, (k, b) ∈ z.2 → ∃ j, us[j]? = some (.st k b) ∧ (σ.next + j, k) ∈ sk := by
   intro k b hkb
   rcases (hsts (k, b)).1 hkb with hx | ⟨j, u, h1, h2⟩
   ·cases hx
   ·cases u with
    | st k' b' =>
     have h2' : (k, b) ∈ [(k', b')] := h2
     simp only [zZ] at h2'
     injection h2' with e1 e2
     subst e1; subst e2
     exact ⟨j, h1, hstk j _ _ h1⟩
    | ran r new => cases h2
    | skip => cases h2
  have hnd2 : (aa5 (aa5 z.1.H (olds Hs sk)) z.2).keys.Nodup := by rw [aaX, aaX]; exact hnd
  obtain ⟨hm2, hext2⟩ := hm1.reveal (H' := (aoV Hs sk z).H) (fun k => by rw [huv.1, aaX, aaX]) (fun k e t l hk => by
    rw [huv.1]
    have no : ∀ K, (K, k) ∉ sk := fun K hK => by have := Heap.mem_unique hnd hk (hanyk K k hK (aaO hk)); cases this
    refine acC (acC hk (fun b' hb' => ?_)) (fun b' hb' => ?_)
    ·obtain ⟨⟨K, hK⟩, _⟩ := olds_mem.1 hb'; exact no K hK
    ·obtain ⟨j, _, hK⟩ := hstsk k b' hb'; exact no _ hK) (by rw [huv.1]; exact hnd2) (fun k b hb => by
    have hkk : k ∈ Hd.keys := by
     have := aaO hb
     rw [huv.1, aaX, aaX] at this
     exact hkeys k this
    rw [huv.1] at hb
    rcases aeJ (by rw [aaX]; exact hnd) hb with hb | ⟨hb1, hb2⟩
    ·obtain ⟨j, h1, h2⟩ := hstsk k b hb
     obtain ⟨_, e, cells, _, g⟩ := hski _ _ h2
     have g := (g hkk).2
     rw [show σ.next + j - σ.next = j by omega] at g
     rcases g with ⟨b', g1, g2, g3⟩ | ⟨g1, g2⟩
     ·rw [h1] at g1; injection g1 with g1; injection g1 with _ g1; subst g1
      exact g3.ext hext1 rfl
     ·exfalso
      rcases g1 with g1 | g1
      ·have := hall j (by have := (zP.1 h1).1; omega)
       have g1' : listed.getD j false = false := g1
       rw [this] at g1'; cases g1'
      ·rw [h1] at g1; cases g1
    ·rcases aeJ hnd hb2 with hb2 | ⟨hb3, hb4⟩
     ·obtain ⟨⟨K, hK⟩, hf⟩ := olds_mem.1 hb2
      obtain ⟨h0, e, cells, hf', g⟩ := hski _ _ hK
      have g := (g hkk).2
      rw [hf] at hf'
      injection hf' with hf'
      subst hf'
      rcases g with ⟨b', g1, _, _⟩ | ⟨_, g2⟩
      ·exact absurd ((hsts (k, b')).2 (Or.inr ⟨_, _, g1, zZ.2 rfl⟩)) (hb1 b')
      ·exact g2.ext hext1 rfl
     ·exact hm1.mem k b hb4)
  have hs1 : SRel C ρ' (aoV Hs sk z) a w' := by
   refine ⟨by rw [huv.2.2.1, hn1]; exact hm2, fun t => ?_, by rw [huv.2.2.2, hn2]; exact hsz', (hdf.mono hext1.data hext1.size).mono hext2.data hext2.size⟩
   rw [huv.2.1]
   refine hext2.vr (hext1.vr (hsl t _ ?_))
   rcases htr.slot t with ⟨j, o, u, h1, h2, h3, h4, h5⟩ | ⟨h1, h2⟩
   ·exact Or.inl ⟨j, o, u, h1, h2, h3, h4, hall j (by have := (zP.1 h2).1; omega), h5⟩
   ·exact Or.inr ⟨fun j o hj hd hlt => absurd hlt (h1 j o hj hd), h2⟩
  have hfr : Fr C σ.next ρ σ.H w ρ' (aoV Hs sk z).H w' := (hextv.trans (hextd.trans (hext.trans (hext1.trans hext2)))).fr (fun k hk hkm => by
   rw [huv.1, aaX, aaX] at hkm
   obtain ⟨x, hx, e⟩ := zM.1 hkm
   rcases (hH1 x).1 hx with hx | ⟨j, u, h1, h3⟩
   ·have : x.1 ∈ (veil sk σ.H).keys := zM.2 ⟨x, hx, rfl⟩
    rw [agW] at this
    exact e ▸ this
   ·have := hnewk j u h1 x h3
    omega)
  refine aIo hG hC hΓ hcall hlg hed htail (l.drop m) m fuel listed rfl (zq _) zh hsz (fun i hi => ?_) hs1 hex (fun a'' w'' hr => hQ a'' w'' (hr.trans hfr (by rw [huv.2.2.1, hn1]; exact xg _ _))) rnd
  by_cases him : i < m
  ·rw [hall i him]; simp [him]
  ·rw [hsuf i zc]; simp [him]
 have key : ∀ (fuel : Nat) (listed : Array Bool) (a : Act) (w' : World), listed.size = ops.size → aJB l (fun i => listed.getD i false) → (∀ j, m ≤ j → listed.getD j false = false) →
   AInv C ρ w.drew { σ with H := veil sk σ.H, next := σ.next + m } Hs sk σ.next (l.take m) us (fun i => listed.getD i false) a w' → ops.size ≤ fuel + aH0 (fun i => listed.getD i false) ops.size → wpAnyIn (afL rnd) 0 P .any ops Q fuel listed a w' := by
  intro fuel
  induction fuel with
  | zero =>
   intro listed a w' hsz hcl hsuf hinv hcnt
   by_cases hall : ∃ i, i < m ∧ listed.getD i false = false
   ·obtain ⟨i, hi, hi'⟩ := hall
    have := aO7 (ls := fun i => listed.getD i false) hi' (n := ops.size) zc
    omega
   ·have hall' : ∀ i, i < m → listed.getD i false = true := fun i hi => by
     cases hb : listed.getD i false with
     | true => rfl
     | false => exact absurd ⟨i, hi, hb⟩ hall
    have hc := atV (ls := fun i => listed.getD i false) hall' hsuf (n := ops.size)
    exact fin 0 listed a w' hsz hall' hsuf hinv zc
  | succ fuel ih =>
   intro listed a w' hsz hcl hsuf hinv hcnt
   by_cases hall : ∃ i, i < m ∧ listed.getD i false = false
   ·have hlt : ∀ i, i < ops.size → listed.getD i true = listed.getD i false := by
     intro i hi
     rw [zI, zI, xy zc]
     rfl
    refine ⟨fun hnil => ?_, fun i hi => ?_⟩
    ·exfalso
     obtain ⟨i, hi1, hi2, hi3⟩ := aE0 (ls := fun i => listed.getD i false) hall
     have hio : i < ops.size := zc
     have hil : l[i]? = some ops[i] := by rw [← hlg]; simp [hio]
     have : i ∈ Region.ready .any ops listed := by
      unfold Region.ready
      rw [wz]
      refine ⟨by simpa using hio, ?_⟩
      rw [hlt i hio, show listed.getD i false = false from hi2, xy hio]
      simp only [wy, vv, wG, Bool.true_and]
      rw [xv]
      intro e he
      cases hb : Region.binds .any e with
      | false => rfl
      | true =>
       have := afR hed hil e he hb
       rw [zu] at this
       have h3 : listed.getD e.on false = true := hi3 e.on this
       simp [h3]
     rw [hnil] at this
     cases this
    ·unfold Region.ready at hi
     rw [wz] at hi
     obtain ⟨h1, h2⟩ := hi
     have hio : i < ops.size := by simpa using h1
     have hil : l[i]? = some ops[i] := by rw [← hlg]; simp [hio]
     rw [hlt i hio, xy hio] at h2
     simp only [zw, zT, wy, vv, xv] at h2
     obtain ⟨h3, h4⟩ := h2
     have hedge : ∀ e ∈ ops[i].after, agD e = true → listed.getD e.on false = true := by
      intro e he hb
      have := h4 e he
      unfold agD at hb
      rw [hb] at this
      simpa using this
     by_cases him : i < m
     ·have hpi : (l.take m)[i]? = some ops[i] := by rw [yw, if_pos him]; exact hil
      refine AInv.step hG hC hΓ (l := l) (σ0 := { σ with H := veil sk σ.H, next := σ.next + m }) (base := σ.next) hlg (fun j p hp => by
       have hjm : j < m := by have := (zP.1 hp).1; omega
       rw [yw, if_pos hjm] at hp; exact hp) hskok htr hpre (by show (veil sk σ.H).keys.Nodup; rw [agW]; exact hs.m.nodup) (by show ∀ k ∈ (veil sk σ.H).keys, k < σ.next; rw [agW]; exact hs.m.lt) (by rw [hplen]; exact zq _) hxnew hcl hpi h3 hedge hinv (fun a'' w'' hinv'' => ?_) rnd
      have hfun : (fun j => (listed.setIfInBounds i true).getD j false) = avE (fun j => listed.getD j false) i := by
       funext j
       unfold avE
       by_cases hj : j = i
       ·subst hj
        rw [if_pos rfl, zI, wR zc]
        rfl
       ·rw [if_neg hj, zI, xz (Ne.symm hj), ← zI]
      refine ih _ a'' w'' (by simp [hsz]) ?_ ?_ (by rw [hfun]; exact hinv'') ?_
      ·rw [hfun]
       intro j o hj hlj e he hb
       unfold avE at hlj ⊢
       split
       ·rfl
       ·split at hlj
        ·rename_i hji
         subst hji
         rw [hil] at hj
         injection hj with hj
         subst hj
         exact hedge e he hb
        ·exact hcl j o hj hlj e he hb
      ·intro j hj
       have : (listed.setIfInBounds i true).getD j false = avE (fun j => listed.getD j false) i j := congrFun hfun j
       rw [this]
       unfold avE
       rw [if_neg zc]
       exact hsuf j hj
      ·rw [hfun, aJi h3 hio]
       omega
     ·exfalso
      obtain ⟨k, hk1, hk2⟩ := hall
      obtain ⟨x, hx⟩ : ∃ x, (ad1 l [])[i]? = some x := ⟨_, zR (by rw [(ag3 l []).2]; simp; omega)⟩
      have hxe := amU htail hx zc
      rw [zu] at hxe
      have := ayU hcl hed i _ hil hedge x k hx (by rw [hxe, Nat.testBit_two_pow_sub_one]; simp; omega)
      have this' : listed.getD k false = true := this
      rw [hk2] at this'
      cases this'
   ·have hall' : ∀ i, i < m → listed.getD i false = true := fun i hi => by
     cases hb : listed.getD i false with
     | true => rfl
     | false => exact absurd ⟨i, hi, hb⟩ hall
    have hc := atV (ls := fun i => listed.getD i false) hall' hsuf (n := ops.size)
    exact fin (fuel + 1) listed a w' hsz hall' hsuf hinv zc
 refine key _ _ _ _ zi ?_ ?_ ?_ zc
 ·intro j o _ hj
  exfalso
  have hj' : (Array.replicate ops.size false).getD j false = true := hj
  rw [zI] at hj'
  by_cases hjs : j < ops.size
  ·simp [hjs] at hj'
  ·simp [hjs] at hj'
 ·intro j _
  rw [zI]
  by_cases hjs : j < ops.size
  ·simp [hjs]
  ·simp [hjs]
 ·refine ⟨ρ, veil sk σ.H, fun x => ?_, hmd.mono (xg _ _), fun t x hx => ?_, hs.size, (hs.defers.mono hextv.data hextv.size).mono hextd.data hextd.size, Ext.refl _ _ _ _, ?_⟩
  ·constructor
   ·exact Or.inl
   ·rintro (hx | ⟨j, u, _, hj, _⟩)
    ·exact hx
    ·exfalso
     have hj' : (Array.replicate ops.size false).getD j false = true := hj
     rw [zI] at hj'
     by_cases hjs : j < ops.size
     ·simp [hjs] at hj'
     ·simp [hjs] at hj'
  ·rcases hx with ⟨j, o, u, _, _, _, _, hj, _⟩ | ⟨_, hx⟩
   ·exfalso
    have hj' : (Array.replicate ops.size false).getD j false = true := hj
    rw [zI] at hj'
    by_cases hjs : j < ops.size
    ·simp [hjs] at hj'
    ·simp [hjs] at hj'
   ·rw [hx]; exact hextd.vr (hextv.vr (hs.slots t))
  ·intro K' k hk
   obtain ⟨h0, o, t, a', x, g1, g2, e, cells, hf⟩ := hsp1 K' k hk
   refine ⟨h0, e, cells, hf, fun hkk => ?_⟩
   rw [agW] at hkk
   rw [hxlt k (hs.m.lt k hkk)] at hf
   refine ⟨veil_mem.2 ⟨_, Heap.find_mem hf, by rw [skHas_iff.2 ⟨K', hk⟩]; rfl⟩, Or.inr ⟨Or.inl ?_, ?_⟩⟩
   ·show (Array.replicate ops.size false).getD (K' - σ.next) false = false
    rw [zI]
    by_cases hjs : K' - σ.next < ops.size
    ·simp [hjs]
    ·simp [hjs]
   ·exact ((hs.m.mem k _ (Heap.find_mem hf)).ext hextv rfl).ext hextd rfl
theorem aAr (hG : ap3 G) (hC : G C.w0) (hΓ : Γ.ok P G) {call : al2} (hcall : CallSat P G call) {Q : Exit → Act → World → Prop} {K : St → Prop} {ρ : Nat → Nat} {σ : St} {a : Act} {w : World}
  (hs : SRel C ρ σ a w) (h : aC2 P Γ call ops σ K) (hQ : ∀ a' w', Reach C σ ρ w K a' w' → Q .normal a' w') (rnd : Option Nat) :
  wpAnyIn (afL rnd) 0 P .any ops Q ops.size (Array.replicate ops.size false) a { w with drawn := w.drawn + 1 } := by
 unfold aC2 at h
 simp only at h
 split at h
 ·rename_i sk hskof
  split at h
  ·rename_i hchk
   simp only [zw] at hchk
   obtain ⟨⟨⟨⟨⟨hpre, hed⟩, htail⟩, hml⟩, hsnd⟩, hlaid⟩ := hchk
   have hml := Nat.le_of_ble_eq_true hml
   obtain ⟨z, hleaf, hex⟩ := T.leaf h
   rw [aP0] at hleaf
   exact aOU hG hC hΓ hcall hs hskof hpre hed htail hml hsnd hlaid hleaf hex hQ rnd
  ·exact h.elim
 ·exact h.elim
end
end Go.Vg
