/-
  An evaluator of Go code over plain data, proved sound against the model. Own work; no condition.
-/
import Derived.Test.YtakjojajnblpoaaGreatDoorClE2
import Derived.RangeFuncNested
import Derived.OrdersIn
import Derived.TacticsIn
import Derived.Laws.Externs
import Derived.Tactics
set_option linter.unusedVariables false
set_option linter.unusedSimpArgs false
namespace Go.Vg
open Go Go.RowKit
def arM (G : World → Prop) : Prop := ∀ w w', Below w.heap.size w w' → G w → G w'
inductive Tgt where
 | fn (f : FuncId)
 | yld (l : Nat)
def af4 (r : Option Nat) : Fence := { Fence.wide with round := r }
theorem callsIn_wideR {r : Option Nat} {n : Nat} {P : Program} {f : FuncId} {args : Array Value} {w : World} {R : Ending → World → Prop} : CallsIn (af4 r) n P f args w R ↔ Calls P f args w R :=
 callsIn_wide (n := n)
theorem abV {r : Option Nat} {P : Program} {o : Oper} {a : Act} {w : World} {nx : Act → World → Prop} {Q : Exit → Act → World → Prop} (hd : ∀ c, o.op ≠ .defer c) (h : o.wp P a w nx Q) : o.wpIn (af4 r) 0 P a w nx Q := by
 refine ⟨fun _ _ => trivial, ?_⟩
 rw [Oper.semAt_eq _ _ _ hd]
 unfold Oper.wp at h
 generalize (execOp a.eval o).run P w = x at h
 have hdep : (af4 r).depth.isSome = true → 1 ≤ 0 := fun h => by cases h
 cases x with
 | ok y w' =>
  cases y with
  | value v => exact h
  | skip => exact h
  | defer d => exact h
  | enter f args => exact ⟨hdep, callsIn_wideR.2 h⟩
  | row row args => exact ⟨hdep, fun c cs _ => let ⟨v, w', r, s⟩ := h c cs; ⟨v, w', r, stepsIn_wide.2 s⟩⟩
  | _ => exact h.elim
 | halt x w' => cases x <;> exact h
abbrev anA := Tgt → List AV → Heap → Nat → (AV → Heap → Nat → Prop) → Prop
def aiR (H : Heap) (k : Nat) : Bool :=
 match H.find k with
 | some _ => true
 | none => false
mutual
def aPt : AV → List Nat
 | .own k _ _ => [k]
 | .fn _ a b => afJ a ++ afJ b
 | .ag l => afJ l
 | .tup l => afJ l
 | _ => []
def afJ : List AV → List Nat
 | [] => []
 | a :: as => aPt a ++ afJ as
end
def St.thaw (σ : St) (k : Nat) : St :=
 match σ.H.find k with
 | some (.row _ t l) => { σ with slots := ad7 (neK k) (afY t l) σ.slots, H := σ.H.keep (neK k) (afY t l) }
 | _ => σ
def St.thaws (σ : St) : List Nat → St
 | [] => σ
 | k :: ks => (σ.thaw k).thaws ks
def aU2 : AV → Bool
 | .ag l => match afJ l with | [] => false | _ :: _ => true
 | _ => false
def aRA : List AV → Bool
 | [] => false
 | a :: as => aU2 a || aRA as
def St.grow (σ : St) (dst : Option Nat) (r : AV) (new : Heap) : St := ({ σ with H := new ++ σ.H, next := σ.next + 1 } : St).put dst r
def at9 (P : Program) (σ : St) (dst : Option Nat) (pt : TypeId) (p : AV) (m : Int) : T St :=
 match p with
 | .eptr k 0 => match σ.H.find k with
  | some (.row e (.int .u8) l) => match P.underlying pt with
   | some (.pointer e') => match Nat.beq e' e && Nat.beq (P.cellsOf e) 1 with
    | true => .need (1 ≤ m ∧ m ≤ ((l : List Int).length : Int)) (.ok ((σ.thaw k).put dst (.d .str (ap5 ((l : List Int).take m.toNat)))))
    | false => .bad
   | _ => .bad
  | _ => .bad
 | .nilp => .need (m = 0) (.ok (σ.put dst (.d .str [])))
 | _ => .bad
def ayB (P : Program) (σ : St) (dst : Option Nat) (pt : TypeId) (p n : AV) : T St :=
 match n with
 | .d (.int .i64) m => at9 P σ dst pt p m
 | _ => .bad
def aUE (P : Program) (g : FuncId) : Bool :=
 match P.funcs[g]? with
 | some fn => fn.body.isNone && fn.name == "internal/abi.NoEscape" && (fn.origin == "internal/abi.NoEscape" || fn.origin == "")
 | none => false
def St.freed (σ : St) (x : AV) : St :=
 match aPt x with
 | [] => σ
 | k :: ks => σ.thaws (k :: ks)
def aOD (P : Program) (σ : St) (t : TypeId) (a x : Operand) : T St :=
 match σ.eval a with
 | .eptr _ _ => ayG P (σ.freed (σ.eval x)) t ((σ.freed (σ.eval x)).eval a) ((σ.freed (σ.eval x)).eval x)
 | _ => ayG P σ t (σ.eval a) (σ.eval x)
def aHy (P : Program) (σ : St) (dst : Option Nat) (b : Builtin) (args : List Operand) (ts : List TypeId) : Option (T St) :=
 match b with
 | .append => match args, ts with
  | [s, x], [t, u] => match Nat.beq t u with
   | true => some (aE3 P σ dst t (σ.eval s) (σ.eval x))
   | false => some (aAY P σ dst t u (σ.eval s) (σ.eval x))
  | _, _ => some .bad
 | .copy => match args, ts with
  | [d, x], [t, u] => match Nat.beq t u with
   | true => some (aQ9 P σ dst t (σ.eval d) (σ.eval x))
   | false => some .bad
  | _, _ => some .bad
 | .unsafeString => match args, ts with
  | [p, n], [pt, _] => some (ayB P σ dst pt (σ.eval p) (σ.eval n))
  | _, _ => some .bad
 | _ => none
def opS (P : Program) (Γ : Cons) (call : anA) (o : Oper) (σ : St) (K : St → Prop) : Prop :=
 match o.op with
 | .store t a x => (aOD P σ t a x).holds fun σ' => K (σ'.put o.dst .und)
 | .buildSlice _ _ ps => (evM P Γ (σ.freed (.ag (ps.toList.map fun x => σ.eval x.2))).next (σ.freed (.ag (ps.toList.map fun x => σ.eval x.2))).H (σ.freed (.ag (ps.toList.map fun x => σ.eval x.2))).eval o).holds
   fun x => K ((σ.freed (.ag (ps.toList.map fun x => σ.eval x.2))).grow o.dst x.1 x.2)
 | .call { callee := .builtin b, args, argTypes } => match aHy P σ o.dst b args.toList argTypes.toList with
  | some r => r.holds K
  | none => (evM P Γ σ.next σ.H σ.eval o).holds fun x => K (σ.grow o.dst x.1 x.2)
 | .call { callee := .value f, args, .. } => match σ.eval f with
  | .fn g first caps => match Γ.find g with
   | some c => match !(noSl c.res) || aRA (args.toList.map σ.eval) with
    | true => (evM P Γ σ.next (σ.thaws (afJ (args.toList.map σ.eval))).H (σ.thaws (afJ (args.toList.map σ.eval))).eval o).holds fun x => K ((σ.thaws (afJ (args.toList.map σ.eval))).grow o.dst x.1 x.2)
    | false => (evM P Γ σ.next σ.H σ.eval o).holds fun x => K (σ.grow o.dst x.1 x.2)
   | none => match aUE P g with
    | true => match args.toList, first, caps with
     | [x], [], [] => K (σ.put o.dst (σ.eval x))
     | _, _, _ => False
    | false => call (.fn g) (first ++ args.toList.map σ.eval ++ caps) σ.H σ.next fun r H' n' => K (({ slots := ad7 (aiR H') aEL σ.slots, H := H', next := n', n := σ.n } : St).put o.dst r)
  | .yld l => call (.yld l) (args.toList.map σ.eval) σ.H σ.next fun r H' n' => K (({ slots := ad7 (aiR H') aEL σ.slots, H := H', next := n', n := σ.n } : St).put o.dst r)
  | _ => False
 | _ => (evM P Γ σ.next σ.H σ.eval o).holds fun x => K (σ.grow o.dst x.1 x.2)
def adB (ops : Array Oper) (j : Nat) : Option Nat := (ops[j]?).bind (·.dst)
def ae6 (P : Program) (Γ : Cons) (call : anA) (ops : Array Oper) : List Oper → St → (St → Prop) → Prop
 | [], σ, K => K σ
 | o :: rest, σ, K => match o.guard with
  | none => opS P Γ call o σ fun σ' => ae6 P Γ call ops rest σ' K
  | some (j, want) => match adB ops j with
   | some t => match agT σ.slots t with
    | .d .bool x => aNR x
      (match want with
       | true => opS P Γ call o (σ.put (some t) (.d .bool true)) fun σ' => ae6 P Γ call ops rest σ' K
       | false => ae6 P Γ call ops rest ((σ.put (some t) (.d .bool true)).put o.dst .und) K)
      (match want with
       | true => ae6 P Γ call ops rest ((σ.put (some t) (.d .bool false)).put o.dst .und) K
       | false => opS P Γ call o (σ.put (some t) (.d .bool false)) fun σ' => ae6 P Γ call ops rest σ' K)
    | .und => ae6 P Γ call ops rest (σ.put o.dst .und) K
    | _ => False
   | none => False
section
variable {C : Ctx} {P : Program} {G : World → Prop}
def Reach (C : Ctx) (σ : St) (ρ : Nat → Nat) (w : World) (K : St → Prop) (a' : Act) (w' : World) : Prop :=
 ∃ ρ' σ', K σ' ∧ SRel C ρ' σ' a' w' ∧ Fr C σ.next ρ σ.H w ρ' σ'.H w' ∧ σ.next ≤ σ'.next
theorem Reach.trans {σ σ1 : St} {ρ ρ1 : Nat → Nat} {w w1 : World} {K : St → Prop} {a' : Act} {w' : World} (hf : Fr C σ.next ρ σ.H w ρ1 σ1.H w1) (hn : σ.next ≤ σ1.next) (h : Reach C σ1 ρ1 w1 K a' w') : Reach C σ ρ w K a' w' := by
 obtain ⟨ρ', σ', h1, h2, h3, h4⟩ := h
 exact ⟨ρ', σ', h1, h2, hf.trans hn h3, zz hn h4⟩
def aFh (C : Ctx) (ρ : Nat → Nat) (H : Heap) (next : Nat) (w : World) (K : AV → Heap → Nat → Prop) (e : Ending) (w' : World) : Prop :=
 ∃ v ρ' r H' n', e = .returned v ∧ K r H' n' ∧ MRel C ρ' H' n' w' ∧ VR C ρ' H' w' r v ∧ Fr C next ρ H w ρ' H' w' ∧ next ≤ n'
structure CallSat (P : Program) (G : World → Prop) (call : anA) : Prop where
 fn : ∀ f args H next K, call (.fn f) args H next K → ∀ (C : Ctx) (ρ : Nat → Nat) (w : World) (vs : List Value), G C.w0 → MRel C ρ H next w → VRs C ρ H w args vs →
  am3 P f = true ∧ Calls P f ⟨vs⟩ w (aFh C ρ H next w K)
 yld : ∀ l args H next K, call (.yld l) args H next K → ∀ (C : Ctx) (ρ : Nat → Nat) (w : World) (vs : List Value), G C.w0 → MRel C ρ H next w → VRs C ρ H w args vs →
  ∃ fn tmps assign body, (Instr.yield (ρ l) ⟨vs⟩).run P w = .ok (.round (ρ l) fn tmps assign body) w ∧ RoundIn Fence.wide 0 P (ρ l) fn tmps assign body w (aFh C ρ H next w K)
theorem SRel.g {ρ : Nat → Nat} {σ : St} {a : Act} {w : World} (hG : arM G) (hC : G C.w0) (h : SRel C ρ σ a w) : G w := hG _ _ h.m.below hC
theorem hasKey_iff {H : Heap} {k : Nat} : aiR H k = true ↔ k ∈ H.keys := by
 unfold aiR
 constructor
 ·intro h
  split at h
  ·rename_i b hb; exact aaO (Heap.find_mem hb)
  ·cases h
 ·intro h
  split
  ·rfl
  ·rename_i hn
   exfalso
   induction H with
   | nil => simp [Heap.keys] at h
   | cons x r ih =>
    obtain ⟨j, b⟩ := x
    simp only [Heap.find] at hn
    cases hb : Nat.beq j k with
    | true => rw [hb] at hn; cases hn
    | false =>
     rw [hb] at hn
     rcases zx.1 h with e | h
     ·exact adE hb e.symm
     ·exact ih h hn
theorem St.thaw_sound {ρ : Nat → Nat} {σ : St} {a : Act} {w : World} (h : SRel C ρ σ a w) (k : Nat) : SRel C ρ (σ.thaw k) a w ∧ Fr C σ.next ρ σ.H w ρ (σ.thaw k).H w ∧ (σ.thaw k).next = σ.next := by
 unfold St.thaw
 split
 ·rename_i e t l hf
  obtain ⟨h1, h2, h3⟩ := h.m.thaw (Heap.find_mem hf)
  exact ⟨h.keepTo h1 h2 (h3 0).data (zq _), h3 _, rfl⟩
 ·exact ⟨h, Fr.refl _ _ _ _ _, rfl⟩
theorem St.thaws_sound {ρ : Nat → Nat} {a : Act} {w : World} : ∀ (ks : List Nat) {σ : St}, SRel C ρ σ a w → SRel C ρ (σ.thaws ks) a w ∧ Fr C σ.next ρ σ.H w ρ (σ.thaws ks).H w ∧ (σ.thaws ks).next = σ.next
 | [], σ, h => ⟨h, Fr.refl _ _ _ _ _, rfl⟩
 | k :: ks, σ, h => by
  obtain ⟨h1, h2, h3⟩ := St.thaw_sound h k
  obtain ⟨h4, h5, h6⟩ := St.thaws_sound ks h1
  refine ⟨h4, h2.trans (n' := (σ.thaw k).next) zc h5, by rw [St.thaws, h6, h3]⟩
theorem St.freed_sound {ρ : Nat → Nat} {σ : St} {a : Act} {w : World} (h : SRel C ρ σ a w) (x : AV) : SRel C ρ (σ.freed x) a w ∧ Fr C σ.next ρ σ.H w ρ (σ.freed x).H w ∧ (σ.freed x).next = σ.next := by
 unfold St.freed
 split
 ·exact ⟨h, Fr.refl _ _ _ _ _, rfl⟩
 ·exact St.thaws_sound _ h
theorem aP2 {g : FuncId} (h : aUE P g = true) (x : Value) (w : World) : (callFunc g #[x]).run P w = .ok (.value x) w := by
 unfold aUE at h
 split at h
 ·rename_i fn hf
  simp only [zw, vk, yA] at h
  obtain ⟨⟨hb, hn⟩, ho⟩ := h
  have e1 : Extern.findNext fn = none := by
   have h1 : Extern.allNextRows.lookup "internal/abi.NoEscape" = none := by kernel_rfl
   have h2 : Extern.allNextRows.lookup "" = none := by kernel_rfl
   unfold Extern.findNext
   rcases ho with ho | ho <;> simp [hn, ho, h1, h2]
  have e2 : Extern.find fn = some Extern.AbiNoEscape.same := by
   have h1 : Extern.allGenericRows.lookup "internal/abi.NoEscape" = none := by kernel_rfl
   have h2 : Extern.allTypedRows.lookup "internal/abi.NoEscape" = none := by kernel_rfl
   have h3 : Extern.allRows.lookup "internal/abi.NoEscape" = some Extern.AbiNoEscape.same := by kernel_rfl
   unfold Extern.find
   simp [hn, h1, h2, h3]
  rw [run_callFunc_extern hf (by rw [hn]; decide) hb e1 e2]
  rfl
 ·cases h
theorem SRel.frozen {ρ : Nat → Nat} {σ : St} {a : Act} {w w' : World} (hs : SRel C ρ σ a w) {k : Nat} {e : TypeId} {t : Ty} {l : List t.T} (hf : σ.H.find k = some (.row e t l)) {fr : Nat × Nat} {c : Array Value} (hc : w.heap[ρ k]? = some (.cells c e (0, 0))) (hc' : w'.heap[ρ k]? = some (.cells c e fr))
  (hoth : ∀ j, j ≠ ρ k → w'.heap[j]? = w.heap[j]?) (hsz : w'.heap.size = w.heap.size) (hbel : Below C.w0.heap.size C.w0 w') : SRel C ρ (σ.thaw k) a w' ∧ Fr C σ.next ρ σ.H w ρ (σ.thaw k).H w' ∧ (σ.thaw k).next = σ.next := by
 have hk := Heap.find_mem hf
 have hkk := aaO hk
 have hm := hs.m
 have eT : σ.thaw k = { σ with slots := ad7 (neK k) (afY t l) σ.slots, H := σ.H.keep (neK k) (afY t l) } := by unfold St.thaw; rw [hf]
 rw [eT]
 have hd : ∀ b, Ok C ρ σ.H w b → Ok C ρ (σ.H.keep (neK k) (afY t l)) w' b ∧ w'.heap[b]? = w.heap[b]? := fun b hb =>
  ⟨⟨hb.1, by rw [hsz]; exact hb.2.1, fun j hj => hb.2.2 j (Heap.keys_keep.1 hj).2⟩, hoth b (fun e => hb.2.2 k hkk e.symm)⟩
 have hokk : Ok C ρ (σ.H.keep (neK k) (afY t l)) w' (ρ k) :=
  ⟨Or.inr (hm.low k hkk), by rw [hsz]; exact hm.key_lt hkk, fun j hj e => by
   obtain ⟨h1, h2⟩ := Heap.keys_keep.1 hj
   exact ajI h1 (hm.inj j h2 k hkk e)⟩
 have hblk : ∀ j ∈ σ.H.keys, neK k j = true → w'.heap[ρ j]? = w.heap[ρ j]? := fun j hj hp => hoth _ (fun e => ajI hp (hm.inj j hj k hkk e))
 have hrows : ∀ j e' t' l', (j, Bk.row e' t' l') ∈ σ.H → neK k j = true → (j, Bk.row e' t' l') ∈ σ.H.keep (neK k) (afY t l) :=
  fun j e' t' l' hj hp => Heap.mem_keep.2 ⟨hp, _, hj, rfl⟩
 have hrow' : ∀ j e' t' l', (j, Bk.row e' t' l') ∈ σ.H → neK k j = true → ∃ l'', (j, Bk.row e' t' l'') ∈ σ.H.keep (neK k) (afY t l) ∧ l'.length ≤ l''.length ∧
   ∀ c fr, w.heap[ρ j]? = some (.cells c e' fr) → ∃ c' fr', w'.heap[ρ j]? = some (.cells c' e' fr') ∧ c.size = c'.size :=
  fun j e' t' l' hj hp => ⟨l', hrows j e' t' l' hj hp, zq _, fun c fr h => ⟨c, fr, by rw [hblk j (aaO hj) hp]; exact h, rfl⟩⟩
 have hv : ∀ x v, VR C ρ σ.H w x v → VR C ρ (σ.H.keep (neK k) (afY t l)) w' (x.map (neK k) (afY t l)) v := by
  intro x v hx
  refine VR.map hd (fun j hj hp => ⟨Heap.keys_keep.2 ⟨hp, hj⟩, rfl⟩) hrow' ?_ hx
  intro j off len v hp hov
  have := aGI hp
  subst this
  cases hov with
  | own h hl hcp hmx hb hs' ha =>
   have hu := Heap.mem_unique hm.nodup hk h
   injection hu with hu1 hu2 hu3
   subst hu1; subst hu2
   have hu3 := eq_of_heq hu3
   subst hu3
   obtain ⟨c1, h1, h2, h3, h4, h5⟩ := hm.ownCells hk hl
   rw [hc] at h1
   injection h1 with h1
   injection h1 with h1 _ _
   subst h1
   refine .d ⟨_, ⟨_, _, by rw [h3], by rw [h3]; exact hcp, by rw [h3]; exact h4, ?_⟩, rfl⟩
   by_cases hnil : (l.drop off).take len = []
   ·exact Or.inl hnil
   ·have hpos : 0 < len := by
     rw [← h3]; exact yb.2 hnil
    have ha' := ha.resolve_right (fun h => by omega)
    exact Or.inr ⟨ρ j, off * t.size, c, e, fr, ha', hokk, hc', h2, RdL.mono (fun x cs => Rd.mono hd t x cs) _ _ h5⟩
 have hm' : MRel C ρ (σ.H.keep (neK k) (afY t l)) σ.next w' := by
  refine ⟨hbel, Heap.nodup_keep hm.nodup, fun j hj => hm.lt j (Heap.keys_keep.1 hj).2, fun j hj j' hj' => hm.inj j (Heap.keys_keep.1 hj).2 j' (Heap.keys_keep.1 hj').2,
   fun j hj => hm.low j (Heap.keys_keep.1 hj).2, fun j b hj => ?_⟩
  obtain ⟨hp, b', hb', e'⟩ := Heap.mem_keep.1 hj
  subst e'
  exact (hm.mem j b' hb').map hd hv (hblk j (aaO hb') hp)
 refine ⟨hs.keepTo hm' hv hd (by rw [hsz]; exact zq _), ⟨hd, fun j _ hj => ⟨(Heap.keys_keep.1 hj).2, rfl⟩, fun j e' t' l' _ hj hj' => hrow' j e' t' l' hj (Heap.keys_keep.1 hj').1, by rw [hsz]; exact zq _⟩, rfl⟩
theorem aFD {ok : Nat → Prop} {w : World} : ∀ (l : List Int) (cs : List Value), RdL (Rd ok w (.int .u8)) l cs → ∀ x ∈ l, 0 ≤ x ∧ x ≤ 255
 | [], _, _, x, hx => by cases hx
 | y :: l, cs, ⟨c1, c2, _, ⟨_, h1, h2⟩, h3⟩, x, hx => by
  rcases zx.1 hx with rfl | hx
  ·exact ⟨h1, h2⟩
  ·exact aFD l c2 h3 x hx
theorem aJv (w : World) (p : Addr) (n : Nat) : (w.freeze p n).heap.size = w.heap.size := by
 unfold World.freeze
 split <;> simp
theorem aGY {w : World} {b j : Nat} (h : j ≠ b) (n : Nat) : (w.freeze ⟨b, 0, none⟩ n).heap[j]? = w.heap[j]? := by
 unfold World.freeze
 split
 ·rfl
 ·simp [Array.getElem?_modify, Ne.symm h]
theorem aJw {w : World} {b : Nat} {c : Array Value} {e : TypeId} {fr : Nat × Nat} (h : w.heap[b]? = some (.cells c e fr)) (n : Nat) : ∃ fr', (w.freeze ⟨b, 0, none⟩ n).heap[b]? = some (.cells c e fr') := by
 unfold World.freeze
 split
 ·exact ⟨fr, h⟩
 ·simp [Array.getElem?_modify, h]
theorem aOu {ρ : Nat → Nat} {σ : St} {a : Act} {w : World} {dst : Option Nat} {pt it ty e : TypeId} {k : Nat} {l : List Int} {m : Int} {c : Array Value} (hs : SRel C ρ σ a w) (hf : σ.H.find k = some (.row e (.int .u8) l)) (hc : w.heap[ρ k]? = some (.cells c e (0, 0)))
  (hlc : l.length * 1 ≤ c.size) (hr : RdL (Rd (Ok C ρ σ.H w) w (.int .u8)) l (c.toList.take (l.length * 1))) (hu : P.underlying pt = some (.pointer e)) (hcl : P.cellsOf e = 1) (h1 : 1 ≤ m) (h2 : m ≤ (l.length : Int)) :
  ∃ v w', (Builtin.unsafeString_ #[pt, it] ty #[.pointer (some ⟨ρ k, 0, none⟩), .int .i64 m]).run P w = .ok v w' ∧ SRel C ρ ((σ.thaw k).put dst (.d .str (ap5 (l.take m.toNat)))) (a.put dst v) w' ∧
   Fr C σ.next ρ σ.H w ρ ((σ.thaw k).put dst (.d .str (ap5 (l.take m.toNat)))).H w' ∧ ((σ.thaw k).put dst (.d .str (ap5 (l.take m.toNat)))).next = σ.next := by
 obtain ⟨n, rfl⟩ : ∃ n : Nat, m = (n : Int) := ⟨m.toNat, by omega⟩
 have hn : n ≤ l.length := zc
 have hcs := aOR _ _ hr
 rw [xE] at hcs hlc
 have hrng := aFD _ _ hr
 have hlim : l.length ≤ lim := by
  obtain ⟨_, _, _, h3, _, _⟩ := hs.m.mem k _ (Heap.find_mem hf)
  exact h3
 have hsl : (ap5 (l.take n)).length = n := by simp [ap5]; omega
 have hcells : ∀ j x, (ap5 (l.take n))[j]? = some x → w.cell? ((⟨ρ k, 0, none⟩ : Addr).add j) = some (.int .u8 (x.toNat : Int)) := by
  intro j x hj
  have hjn : j < n := by have := (zR.1 hj).1; omega
  have hjl : j < l.length := zc
  unfold ap5 at hj
  rw [List.getElem?_map, yw, if_pos hjn, zS hjl] at hj
  injection hj with hj
  subst hj
  have hcj : c[j]? = some (.int .u8 l[j]) := by
   have : (c.toList.take l.length)[j]? = some (.int .u8 l[j]) := by rw [hcs]; simp [hjl]
   rw [yw, if_pos hjl, yX] at this
   exact this
  have hrj := hrng l[j] (ym hjl)
  have hto : ((UInt8.ofNat (l[j]).toNat).toNat : Int) = l[j] := by
   rw [UInt8.toNat_ofNat']
   have : (l[j]).toNat < 256 := zc
   rw [yG (by simpa using this)]
   omega
  rw [aoJ, zv, hto]
  simp [World.cell?, hc, hcj]
 have hsh : w.shape? (ρ k) = some (e, c.size) := by simp [World.shape?, hc]
 have hrun := Lib.run_unsafeString_row (P := P) w pt it ty e hu hcl (ρ k) c.size hsh (ap5 (l.take n)) (by intro e0; rw [e0] at hsl; simp at hsl; omega) zc (by rw [hsl]; unfold lim at hlim; omega) hcells
 rw [hsl] at hrun
 obtain ⟨fr, hfr⟩ : ∃ fr, (w.freeze ⟨ρ k, 0, none⟩ n).heap[ρ k]? = some (.cells c e fr) := aJw hc n
 have hoth : ∀ j, j ≠ ρ k → (w.freeze ⟨ρ k, 0, none⟩ n).heap[j]? = w.heap[j]? := fun j hj => aGY hj n
 obtain ⟨g1, g2, g3⟩ := hs.frozen (t := .int .u8) (l := l) hf hc hfr hoth (aJv _ _ _) (Lib.below_freeze hs.m.below (by show C.w0.heap.size ≤ ρ k; exact hs.m.low k (aaO (Heap.find_mem hf))) n)
 exact ⟨_, _, hrun, g1.put (aBU (by rw [zp]; rw [hsl]; omega)), by rw [St.put_H]; exact g2, by rw [St.put_next]; exact g3⟩
theorem aDy {ρ : Nat → Nat} {σ σ' : St} {a : Act} {w : World} {dst : Option Nat} {pt it ty : TypeId} {p : AV} {m : Int} {vp : Value} (h : (at9 P σ dst pt p m).Leaf σ') (hs : SRel C ρ σ a w) (hvp : VR C ρ σ.H w p vp) :
  ∃ v w', (Builtin.unsafeString_ #[pt, it] ty #[vp, .int .i64 m]).run P w = .ok v w' ∧ SRel C ρ σ' (a.put dst v) w' ∧ Fr C σ.next ρ σ.H w ρ σ'.H w' ∧ σ'.next = σ.next := by
 unfold at9 at h
 split at h
 ·rename_i k
  split at h
  ·rename_i e l hf
   split at h
   ·rename_i e' hu
    split at h
    ·rename_i hb
     simp only [zw] at hb
     have he := aaM hb.1
     subst he
     have hcl := aaM hb.2
     cases h with
     | need hp h =>
      cases h
      cases hvp with
      | eptr hk hi =>
       obtain ⟨c, d1, d2, d3, d4, d5⟩ := hs.m.mem k _ (Heap.find_mem hf)
       rw [vL]
       exact aOu hs hf d1 d2 d4 hu hcl hp.1 hp.2
    ·cases h
   ·cases h
  ·cases h
 ·cases h with
  | need hp h =>
   cases h
   cases hvp
   refine ⟨_, w, by rw [hp]; exact Lib.run_unsafeString_none w pt it ty none, hs.put (aBU (ye _)), by rw [St.put_H]; exact Fr.refl _ _ _ _ _, by rw [St.put_next]⟩
 ·cases h
theorem ayA {ρ : Nat → Nat} {σ σ' : St} {a : Act} {w : World} {dst : Option Nat} {pt it ty : TypeId} {p n : AV} {vp vn : Value} (h : (ayB P σ dst pt p n).Leaf σ') (hs : SRel C ρ σ a w) (hvp : VR C ρ σ.H w p vp) (hvn : VR C ρ σ.H w n vn) :
  ∃ v w', (Builtin.unsafeString_ #[pt, it] ty #[vp, vn]).run P w = .ok v w' ∧ SRel C ρ σ' (a.put dst v) w' ∧ Fr C σ.next ρ σ.H w ρ σ'.H w' ∧ σ'.next = σ.next := by
 unfold ayB at h
 split at h
 ·rename_i m
  obtain ⟨e1, _⟩ := ac9 hvn
  subst e1
  exact aDy h hs hvp
 ·cases h
theorem asR {Γ : Cons} {K : Nat} {H : Heap} {arg : Operand → AV} {o : Oper} {r : AV} {new : List (Nat × Bk)} (h : (evM P Γ K H arg o).Leaf (r, new)) : ∀ x ∈ new, x.1 = K := by
 unfold evM at h
 split at h
 ·obtain ⟨_, _, h⟩ := T.Leaf.bind h; cases h; intro x hx; cases hx
 ·split at h <;> cases h; intro x hx; simp at hx; subst hx; rfl
 ·split at h <;> cases h; intro x hx; simp at hx; subst hx; rfl
 ·split at h <;> first | (cases h; done) | skip
  split at h <;> first | (cases h; done) | skip
  split at h <;> first | (cases h; done) | skip
  split at h <;> first | (cases h; done) | skip
  split at h <;> first | (cases h; done) | skip
  split at h
  ·cases h
   intro x hx; simp at hx; subst hx; rfl
  ·cases h; intro x hx; cases hx
 ·split at h
  ·unfold arS at h
   split at h <;> first | (cases h; done) | skip
   split at h <;> first | (cases h; done) | skip
   cases h; intro x hx; cases hx
  ·obtain ⟨_, _, h⟩ := T.Leaf.bind h; cases h; intro x hx; cases hx
 ·split at h <;> first | (cases h; done) | skip
  split at h <;> first | (cases h; done) | skip
  unfold aQc at h
  split at h <;> first | (cases h; done) | skip
  split at h <;> first | (cases h; done) | skip
  ·unfold aQb at h
   split at h <;> first | (cases h; done) | skip
   split at h <;> first | (cases h; done) | skip
   cases h with
   | need _ h =>
    cases h
    intro x hx; simp at hx; subst hx; rfl
  split at h <;> first | (cases h; done) | skip
  split at h <;> first | (cases h; done) | skip
  cases h with
  | need _ h =>
   cases h
   intro x hx; simp at hx; subst hx; rfl
 ·split at h <;> first | (cases h; done) | skip
  split at h <;> first | (cases h; done) | skip
  split at h <;> first | (cases h; done) | skip
  split at h <;> first | (cases h; done) | skip
  cases h with
  | need _ h =>
   intro x hx
   rw [show new = [] from aC3 h] at hx
   cases hx
 ·obtain ⟨_, _, h⟩ := T.Leaf.bind h; cases h; intro x hx; cases hx
theorem an7 (hG : arM G) (hC : G C.w0) {Γ : Cons} (hΓ : Γ.ok P G) {ρ : Nat → Nat} {σ : St} {a : Act} {w : World} {o : Oper} {K : St → Prop} {nx : Act → World → Prop} {Q : Exit → Act → World → Prop}
  (hs : SRel C ρ σ a w) (h : (evM P Γ σ.next σ.H σ.eval o).holds fun x => K (σ.grow o.dst x.1 x.2)) (hnx : ∀ a' w', Reach C σ ρ w K a' w' → nx a' w') : o.wp P a w nx Q := by
 obtain ⟨⟨r, new⟩, h1, h2⟩ := T.leaf h
 have hK : σ.next ∉ σ.H.keys := fun h => absurd (hs.m.lt _ h) (wU _)
 refine aTY (fun _ h => h) (hs.m.mono (xQ σ.next)) hK (xO _) hΓ (hs.g hG hC) (fun x => hs.eval x) h1 (fun v ρ' w' hm' hext hv hb => hnx _ _ ?_)
 have hkeys : ∀ k, k < σ.next → k ∈ Heap.keys (new ++ σ.H) → k ∈ σ.H.keys := by
  intro k hk hm
  simp only [Heap.keys, xH, zJ] at hm
  rcases hm with hm | hm
  ·exfalso
   have hnew := asR h1
   obtain ⟨x, hx, e⟩ := zN.1 hm
   have := hnew x hx
   omega
  ·exact hm
 have hfr := hext.fr (n := σ.next) hkeys
 have hsr := (hs.frame (next' := σ.next + 1) hm' hfr (fun k hk => (hext.keys k hk).1)).put (dst := o.dst) hv
 exact ⟨ρ', σ.grow o.dst r new, h2, hsr, by unfold St.grow; rw [St.put_H]; exact hfr, by unfold St.grow; rw [St.put_next]; exact xQ _⟩
end
open Go Go.RowKit
section
variable {C : Ctx} {P : Program} {G : World → Prop}
theorem aQP {Γ : Cons} {K : Nat} {H : Heap} {arg : Operand → AV} {o : Oper} {x : AV × List (Nat × Bk)} (h : (evM P Γ K H arg o).Leaf x) : ∀ c, o.op ≠ .defer c := by
 intro c e
 simp only [evM, evP, e] at h
 obtain ⟨_, h1, _⟩ := T.Leaf.bind h
 cases h1
theorem aPy {Γ : Cons} {call : anA} {o : Oper} {σ : St} {K : St → Prop} (h : opS P Γ call o σ K) : ∀ c, o.op ≠ .defer c := by
 intro c e
 simp only [opS, evM, evP, e] at h
 exact h
theorem aPx (hG : arM G) (hC : G C.w0) {Γ : Cons} (hΓ : Γ.ok P G) {call : anA} (hcall : CallSat P G call) {ρ : Nat → Nat} {σ : St} {a : Act} {w : World} {o : Oper} {K : St → Prop} {nx : Act → World → Prop} {Q : Exit → Act → World → Prop}
  (hs : SRel C ρ σ a w) (h : opS P Γ call o σ K) (hnx : ∀ a' w', Reach C σ ρ w K a' w' → nx a' w') (rnd : Option Nat) : o.wpIn (af4 rnd) 0 P a w nx Q := by
 have hnd := aPy h
 unfold opS at h
 split at h
 ·rename_i t x y ho
  obtain ⟨σ', h1, h2⟩ := T.leaf h
  unfold aOD at h1
  have fin : ∀ (σ1 : St), SRel C ρ σ1 a w → Fr C σ.next ρ σ.H w ρ σ1.H w → σ1.next = σ.next → (ayG P σ1 t (σ1.eval x) (σ1.eval y)).Leaf σ' → o.wpIn (af4 rnd) 0 P a w nx Q := by
   intro σ1 hs1 hf1 hn1 h1
   obtain ⟨w', h3, h4, h5, h6⟩ := aDC h1 hs1 (hs1.eval x) (hs1.eval y)
   refine abV hnd ?_
   unfold Oper.wp
   rw [show (execOp a.eval o).run P w = .ok .skip w' by simp [execOp, ho, h3]]
   exact hnx _ _ ⟨ρ, _, h2, h4.put .und, by rw [St.put_H]; exact hf1.trans (by rw [hn1]; exact zq _) h5, by rw [St.put_next, h6, hn1]; exact zq _⟩
  split at h1
  ·obtain ⟨g1, g2, g3⟩ := St.freed_sound hs (σ.eval y)
   exact fin _ g1 g2 g3 h1
  ·exact fin σ hs (Fr.refl _ _ _ _ _) rfl h1
 ·rename_i t n ps ho
  obtain ⟨h1, h2, h3⟩ := St.freed_sound hs (.ag (ps.toList.map fun x => σ.eval x.2))
  exact abV hnd <| an7 hG hC hΓ h1 h (fun a' w' hr => hnx a' w' (hr.trans h2 (by rw [h3]; exact zq _)))
 ·rename_i bt args ts ho
  split at h
  ·rename_i r hr
   obtain ⟨σ', h1, h2⟩ := T.leaf h
   unfold aHy at hr
   split at hr
   ·split at hr
    ·rename_i s x t u hargs hts
     have e1 : args.map a.eval = #[a.eval s, a.eval x] := by apply Array.ext'; simp [hargs]
     have e2 : ts = #[t, u] := by apply Array.ext'; simp [hts]
     split at hr
     ·rename_i hb
      have hb := aaM hb
      subst hb
      injection hr with hr
      subst hr
      obtain ⟨v, w', ρ', h3, h4, h5, h6⟩ := aBN (ty := o.type) h1 hs (hs.eval s) (hs.eval x)
      refine abV hnd ?_
      unfold Oper.wp
      rw [show (execOp a.eval o).run P w = .ok (.value v) w' by subst e2; simp [execOp, ho, resolve, invoke, builtin, e1, h3]]
      exact hnx _ _ ⟨ρ', _, h2, h4, h5, h6⟩
     ·injection hr with hr
      subst hr
      obtain ⟨v, w', ρ', h3, h4, h5, h6⟩ := aAX (ty := o.type) h1 hs (hs.eval s) (hs.eval x)
      refine abV hnd ?_
      unfold Oper.wp
      rw [show (execOp a.eval o).run P w = .ok (.value v) w' by subst e2; simp [execOp, ho, resolve, invoke, builtin, e1, h3]]
      exact hnx _ _ ⟨ρ', _, h2, h4, h5, h6⟩
    ·injection hr with hr; subst hr; cases h1
   ·split at hr
    ·rename_i d x t u hargs hts
     have e1 : args.map a.eval = #[a.eval d, a.eval x] := by apply Array.ext'; simp [hargs]
     have e2 : ts = #[t, u] := by apply Array.ext'; simp [hts]
     split at hr
     ·injection hr with hr
      subst hr
      obtain ⟨v, w', h3, h4, h5, h6⟩ := aHo (t2 := u) (ty := o.type) h1 hs (hs.eval d) (hs.eval x)
      refine abV hnd ?_
      unfold Oper.wp
      rw [show (execOp a.eval o).run P w = .ok (.value v) w' by subst e2; simp [execOp, ho, resolve, invoke, builtin, e1, h3]]
      exact hnx _ _ ⟨ρ, _, h2, h4, h5, by rw [h6]; exact zq _⟩
     ·injection hr with hr; subst hr; cases h1
    ·injection hr with hr; subst hr; cases h1
   ·split at hr
    ·rename_i p n pt it hargs hts
     have e1 : args.map a.eval = #[a.eval p, a.eval n] := by apply Array.ext'; simp [hargs]
     have e2 : ts = #[pt, it] := by apply Array.ext'; simp [hts]
     injection hr with hr
     subst hr
     obtain ⟨v, w', h3, h4, h5, h6⟩ := ayA (it := it) (ty := o.type) h1 hs (hs.eval p) (hs.eval n)
     refine abV hnd ?_
     unfold Oper.wp
     rw [show (execOp a.eval o).run P w = .ok (.value v) w' by subst e2; simp [execOp, ho, resolve, invoke, builtin, e1, h3]]
     exact hnx _ _ ⟨ρ, _, h2, h4, h5, by rw [h6]; exact zq _⟩
    ·injection hr with hr; subst hr; cases h1
   ·cases hr
  ·exact abV hnd <| an7 hG hC hΓ hs h hnx
 ·rename_i f args ts ho
  split at h
  ·rename_i g first caps hf
   split at h
   ·rename_i c hc
    split at h
    ·obtain ⟨h1, h2, h3⟩ := St.thaws_sound (afJ (args.toList.map σ.eval)) hs
     rw [← h3] at h
     exact abV hnd <| an7 hG hC hΓ h1 h (fun a' w' hr => hnx a' w' (hr.trans h2 (by rw [h3]; exact zq _)))
    ·exact abV hnd <| an7 hG hC hΓ hs h hnx
   ·split at h
    ·rename_i hne
     split at h
     ·rename_i x hargs
      have hfv := hs.eval f
      rw [hf] at hfv
      generalize hvf : a.eval f = vf at hfv
      cases hfv with
      | fn h1 h2 =>
       cases h1
       cases h2
       refine abV hnd ?_
       unfold Oper.wp
       have e1 : args.map a.eval = #[a.eval x] := by apply Array.ext'; simp [hargs]
       rw [show (execOp a.eval o).run P w = .ok (.value (a.eval x)) w by
        simp only [execOp, ho, resolve, Deferred.ofValue, hvf, Sem.run_bind, Sem.run_pure, Result.andThen_ok, invoke]
        rw [e1]
        exact aP2 hne _ w]
       exact hnx _ _ ⟨ρ, _, h, hs.put (hs.eval x), by rw [St.put_H]; exact Fr.refl _ _ _ _ _, by rw [St.put_next]; exact zq _⟩
     ·exact h.elim
    ·have hfv := hs.eval f
     rw [hf] at hfv
     generalize hvf : a.eval f = vf at hfv
     cases hfv with
     | fn h1 h2 =>
      obtain ⟨he, hcl⟩ := hcall.fn _ _ _ _ _ h C ρ w _ hC hs.m ((h1.append (VRs.ofMap (fun x => hs.eval x) args.toList)).append h2)
      refine abV hnd ?_
      unfold Oper.wp
      rw [aLm ho hvf he]
      show Calls P g _ w _
      refine hcl.mono ?_
      rintro e w' ⟨v, ρ', r, H', n', rfl, hK, hm', hv, hfr, hn⟩
      refine hnx _ _ ⟨ρ', _, hK, (hs.keepTo hm' ?_ hfr.data hfr.size).put hv, by rw [St.put_H]; exact hfr, by rw [St.put_next]; exact hn⟩
      intro x v hx
      refine VR.map hfr.data (fun k hk hp => ⟨hasKey_iff.1 hp, (hfr.keys k (hs.m.lt k hk) (hasKey_iff.1 hp)).2⟩) (fun k e t l hk hp => ?_) (fun _ _ _ _ _ _ => .no) hx
      exact hfr.rows k e t l (hs.m.lt k (aaO hk)) hk (hasKey_iff.1 hp)
  ·rename_i l hf
   have hfv := hs.eval f
   rw [hf] at hfv
   generalize hvf : a.eval f = vf at hfv
   cases hfv with
   | yld hl =>
    obtain ⟨fn, tmps, assign, body, hy, hr⟩ := hcall.yld _ _ _ _ _ h C ρ w _ hC hs.m (VRs.ofMap (fun x => hs.eval x) args.toList)
    refine ⟨fun _ _ => trivial, ?_⟩
    rw [Oper.semAt_eq _ _ _ hnd]
    rw [show (execOp a.eval o).run P w = .ok (.round (ρ l) fn tmps assign body) w by
     simp only [execOp, ho, resolve, Deferred.ofValue, hvf, Sem.run_bind, Sem.run_pure, Result.andThen_ok, invoke]
     have e1 : #[] ++ args.map a.eval ++ #[] = ⟨args.toList.map a.eval⟩ := by apply Array.ext'; simp
     simp only [Array.empty_append, Array.append_empty] at e1 ⊢
     rw [e1]; exact hy]
    refine ⟨fun h => (by cases h), ?_⟩
    refine RoundIn.mono hr ?_
    rintro e w' ⟨v, ρ', r, H', n', rfl, hK, hm', hv, hfr, hn⟩
    refine hnx _ _ ⟨ρ', _, hK, (hs.keepTo hm' ?_ hfr.data hfr.size).put hv, by rw [St.put_H]; exact hfr, by rw [St.put_next]; exact hn⟩
    intro x v hx
    refine VR.map hfr.data (fun k hk hp => ⟨hasKey_iff.1 hp, (hfr.keys k (hs.m.lt k hk) (hasKey_iff.1 hp)).2⟩) (fun k e t l hk hp => ?_) (fun _ _ _ _ _ _ => .no) hx
    exact hfr.rows k e t l (hs.m.lt k (aaO hk)) hk (hasKey_iff.1 hp)
  ·exact h.elim
 ·exact abV hnd <| an7 hG hC hΓ hs h hnx
theorem aSa {ρ : Nat → Nat} {σ : St} {a : Act} {w : World} (hs : SRel C ρ σ a w) {t : Nat} {b : Bool} (h : agT σ.slots t = .d .bool b) : a.tmps[t]? = some (.bool b) := by
 have := hs.slots t
 rw [h] at this
 have e := agX this
 rw [zI] at e
 cases hg : a.tmps[t]? with
 | none => rw [hg] at e; cases e
 | some v => rw [hg] at e; simp at e; rw [e]
theorem awA {ρ : Nat → Nat} {σ : St} {a : Act} {w : World} (hs : SRel C ρ σ a w) {ops : Array Oper} {j t : Nat} (ht : adB ops j = some t) {b : Bool} (h : agT σ.slots t = .d .bool b) : yielded ops a.tmps j = some b := by
 unfold yielded
 unfold adB at ht
 rw [ht]
 simp [aSa hs h]
theorem aH4 {ρ : Nat → Nat} {σ : St} {a : Act} {w : World} (hs : SRel C ρ σ a w) {ops : Array Oper} {j t : Nat} (ht : adB ops j = some t) (h : agT σ.slots t = .und) : yielded ops a.tmps j = none := by
 unfold yielded
 unfold adB at ht
 rw [ht]
 have := hs.slots t
 rw [h] at this
 have e : a.tmps.getD t undef = undef := by generalize a.tmps.getD t undef = v at this; cases this; rfl
 rw [zI] at e
 simp only [zP]
 cases hg : a.tmps[t]? with
 | none => rfl
 | some v => rw [hg] at e; simp at e; rw [e]; rfl
theorem SRel.refine {ρ : Nat → Nat} {σ : St} {a : Act} {w : World} (hs : SRel C ρ σ a w) {t : Nat} {x : AV} (h : agT σ.slots t = x) : SRel C ρ (σ.put (some t) x) a w := by
 refine ⟨by rw [St.put_H, St.put_next]; exact hs.m, fun u => ?_, ?_, by rw [St.put_H]; exact hs.defers⟩
 ·rw [St.put_H]
  simp only [St.put]
  split
  ·simp only [agT]
   cases hu : Nat.beq t u with
   | true => have := aaM hu; subst this; simp only; rw [← h]; exact hs.slots t
   | false => simp only; rw [aq0 (adE hu)]; exact hs.slots u
  ·exact hs.slots u
 ·simp only [St.put]; split <;> exact hs.size
theorem aw0 (hG : arM G) (hC : G C.w0) {Γ : Cons} (hΓ : Γ.ok P G) {call : anA} (hcall : CallSat P G call) {ops : Array Oper} {Q : Exit → Act → World → Prop} {K : St → Prop} {o : Oper} {rest : List Oper}
  {ρ : Nat → Nat} {σ : St} {a : Act} {w : World} {nx : Act → World → Prop} (hs : SRel C ρ σ a w) (h : ae6 P Γ call ops (o :: rest) σ K)
  (hnx : ∀ a' w', Reach C σ ρ w (fun σ' => ae6 P Γ call ops rest σ' K) a' w' → nx a' w') (rnd : Option Nat) :
  if Region.wanted o (yielded ops a.tmps) then o.wpIn (af4 rnd) 0 P a w nx Q else (∀ f, o.about P w a.eval = some f → (af4 rnd).fn f) ∧ nx (a.put o.dst undef) w := by
 have run : ∀ {ρ1 : Nat → Nat} {σ1 : St}, SRel C ρ1 σ1 a w → Fr C σ.next ρ σ.H w ρ1 σ1.H w → σ.next ≤ σ1.next → (opS P Γ call o σ1 fun σ' => ae6 P Γ call ops rest σ' K) → o.wpIn (af4 rnd) 0 P a w nx Q := by
  intro ρ1 σ1 hs1 hf1 hn1 h1
  exact aPx hG hC hΓ hcall hs1 h1 (fun a' w' hr => hnx a' w' (hr.trans hf1 hn1)) rnd
 have skip : ∀ {ρ1 : Nat → Nat} {σ1 : St}, SRel C ρ1 σ1 a w → Fr C σ.next ρ σ.H w ρ1 σ1.H w → σ.next ≤ σ1.next → ae6 P Γ call ops rest (σ1.put o.dst .und) K → (∀ f, o.about P w a.eval = some f → (af4 rnd).fn f) ∧ nx (a.put o.dst undef) w := by
  intro ρ1 σ1 hs1 hf1 hn1 h1
  exact ⟨fun _ _ => trivial, hnx _ _ ⟨ρ1, _, h1, hs1.put .und, by rw [St.put_H]; exact hf1, by rw [St.put_next]; exact hn1⟩⟩
 have hput : ∀ (t : Nat) (x : AV), (σ.put (some t) x).H = σ.H ∧ (σ.put (some t) x).next = σ.next := fun t x => ⟨St.put_H _ _ _, St.put_next _ _ _⟩
 simp only [ae6] at h
 split at h
 ·rename_i hg
  rw [if_pos (by simp [Region.wanted, hg])]
  exact (run hs (Fr.refl _ _ _ _ _) (zq _) h)
 ·rename_i j want hg
  split at h
  ·rename_i t ht
   split at h
   ·rename_i x hx
    cases x with
    | true =>
     have hy := awA hs ht hx
     have hs' := hs.refine hx
     have hf' : Fr C σ.next ρ σ.H w ρ (σ.put (some t) (.d .bool true)).H w := by rw [(hput t _).1]; exact Fr.refl _ _ _ _ _
     have hn' : σ.next ≤ (σ.put (some t) (.d .bool true)).next := by rw [(hput t _).2]; exact zq _
     cases want with
     | true =>
      rw [if_pos (by simp [Region.wanted, hg, hy])]
      exact (run hs' hf' hn' h)
     | false =>
      rw [if_neg (by simp [Region.wanted, hg, hy])]
      exact skip hs' hf' hn' h
    | false =>
     have hy := awA hs ht hx
     have hs' := hs.refine hx
     have hf' : Fr C σ.next ρ σ.H w ρ (σ.put (some t) (.d .bool false)).H w := by rw [(hput t _).1]; exact Fr.refl _ _ _ _ _
     have hn' : σ.next ≤ (σ.put (some t) (.d .bool false)).next := by rw [(hput t _).2]; exact zq _
     cases want with
     | true =>
      rw [if_neg (by simp [Region.wanted, hg, hy])]
      exact skip hs' hf' hn' h
     | false =>
      rw [if_pos (by simp [Region.wanted, hg, hy])]
      exact (run hs' hf' hn' h)
   ·rename_i hx
    have hy := aH4 hs ht hx
    rw [if_neg (by simp [Region.wanted, hg, hy])]
    exact skip hs (Fr.refl _ _ _ _ _) (zq _) h
   ·exact h.elim
  ·exact h.elim
theorem asP (hG : arM G) (hC : G C.w0) {Γ : Cons} (hΓ : Γ.ok P G) {call : anA} (hcall : CallSat P G call) {ops : Array Oper} {Q : Exit → Act → World → Prop} {K : St → Prop} :
  ∀ (l : List Oper) {ρ : Nat → Nat} {σ : St} {a : Act} {w : World}, SRel C ρ σ a w → ae6 P Γ call ops l σ K → (∀ a' w', Reach C σ ρ w K a' w' → Q .normal a' w') → ∀ rnd : Option Nat, wpListIn (af4 rnd) 0 P ops Q l a w
 | [], ρ, σ, a, w, hs, h, hQ, rnd => wpListIn_nil (hQ a w ⟨ρ, σ, h, hs, Fr.refl _ _ _ _ _, zq _⟩)
 | o :: rest, ρ, σ, a, w, hs, h, hQ, rnd => by
  unfold wpListIn
  refine aw0 hG hC hΓ hcall hs h ?_ rnd
  rintro a' w' ⟨ρ', σ', h2, h3, h4, h5⟩
  exact asP hG hC hΓ hcall rest h3 h2 (fun a'' w'' hr => hQ a'' w'' (hr.trans h4 h5)) rnd
end
open Go Go.RowKit
def agY (e : Edge) : Bool := Region.binds .any e
def arQ : List Operand → List Nat
 | [] => []
 | .tmp t :: r => t :: arQ r
 | _ :: r => arQ r
def anJ (ops : Array Oper) (o : Oper) : List Nat :=
 match o.guard with
 | none => arQ o.op.operands.toList
 | some (j, _) => match adB ops j with
  | some t => t :: arQ o.op.operands.toList
  | none => arQ o.op.operands.toList
def agA (o : Oper) (j : Nat) : Bool := o.after.toList.any fun e => agY e && Nat.beq e.on j
def aAz (i : Nat) (o : Oper) (t : Nat) : List Oper → Nat → Bool
 | [], _ => true
 | p :: r, j => (match p.dst with
  | some d => match Nat.beq d t with
   | true => (Nat.blt j i && agA o j) || (Nat.blt i j && agA p i)
   | false => true
  | none => true) && aAz i o t r (j + 1)
def aHs (i : Nat) (d : Nat) : List Oper → Nat → Bool
 | [], _ => true
 | p :: r, j => (match p.dst with
  | some d' => match Nat.beq d d' with
   | true => Nat.beq i j
   | false => true
  | none => true) && aHs i d r (j + 1)
def aC6 (ops : Array Oper) (pre : List Oper) : List Oper → Nat → Bool
 | [], _ => true
 | o :: r, i => (anJ ops o).all (fun t => aAz i o t pre 0) && (match o.dst with | some d => aHs i d pre 0 | none => true) && aC6 ops pre r (i + 1)
def amM : List Oper → Nat → Bool
 | [], _ => true
 | o :: r, i => o.after.toList.all (fun e => !agY e || Nat.blt e.on i) && amM r (i + 1)
def adR (acc : List Nat) : List Edge → Nat
 | [] => 0
 | e :: r => match agY e with
  | true => ((2 ^ e.on) ||| acc.getD e.on 0) ||| adR acc r
  | false => adR acc r
def aeC : List Oper → List Nat → List Nat
 | [], acc => acc
 | o :: r, acc => aeC r (acc ++ [adR acc o.after.toList])
def avM (m : Nat) : List Nat → Nat → Bool
 | [], _ => true
 | x :: r, j => (match Nat.ble m j with | true => Nat.beq x (2 ^ j - 1) | false => true) && avM m r (j + 1)
def aeD (l : List Nat) : Nat :=
 go l.reverse l.length
where go : List Nat → Nat → Nat
 | x :: r, n + 1 => match Nat.beq x (2 ^ n - 1) with | true => go r n | false => n + 1
 | _, n => n
inductive Out where
 | ran (r : AV) (new : List (Nat × Bk))
 | skip
 /-- a store: block k becomes b -/
 | st (k : Nat) (b : Bk)
def Out.av : Out → AV
 | .ran r _ => r
 | .skip => .und
 | .st _ _ => .und
def Out.new : Out → List (Nat × Bk)
 | .ran _ n => n
 | .skip => []
 | .st _ _ => []
def Out.sts : Out → List (Nat × Bk)
 | .st k b => [(k, b)]
 | _ => []
def St.step (σ : St) (o : Oper) (u : Out) : St := ({ σ with H := u.new ++ σ.H } : St).put o.dst u.av
def aDJ : List (Nat × Nat) → Nat → Option Nat
 | [], _ => none
 | (K, k) :: r, K' => match Nat.beq K K' with | true => some k | false => aDJ r K'
def agG (P : Program) : List Oper → Nat → Heap
 | [], _ => []
 | o :: r, K => match o.op with
  | .alloc e => match ae4 P e with
   | some zs => (K, .vars e zs) :: agG P r (K + 1)
   | none => agG P r (K + 1)
  | _ => agG P r (K + 1)
def aLa (t : Nat) : List Oper → Nat → Option Nat
 | [], _ => none
 | o :: r, K => match o.op with
  | .alloc _ => match o.dst with
   | some d => match Nat.beq d t with
    | true => some K
    | false => aLa t r (K + 1)
   | none => aLa t r (K + 1)
  | _ => aLa t r (K + 1)
def aVw (a : Operand) (l : List Oper) (K : Nat) : Option Nat :=
 match a with
 | .tmp t => aLa t l K
 | _ => none
def aFz : List Oper → Operand → Operand
 | [], a => a
 | o :: r, a => match a with
  | .tmp t => match o.dst with
   | some d => match Nat.beq d t with
    | true => match o.op with
     | .fieldAddr _ x _ => aFz r x
     | _ => a
    | false => aFz r a
   | none => aFz r a
  | _ => a
def aV5 (σ : St) (pre : List Oper) (base : Nat) (a : Operand) : Option Nat :=
 match aVw (aFz pre.reverse a) pre base with
 | some k => some k
 | none => match σ.eval (aFz pre.reverse a) with
  | .ptr k _ => some k
  | _ => none
def aVh (σ : St) (pre : List Oper) (base : Nat) (Hx : Heap) : List Oper → Nat → Option (List (Nat × Nat))
 | [], _ => some []
 | o :: r, K => match aVh σ pre base Hx r (K + 1) with
  | some l => match o.op with
   | .store _ a _ => match aV5 σ pre base a with
    | some k => match Hx.find k with
     | some (.vars _ _) => some ((K, k) :: l)
     | _ => none
    | none => none
   | _ => some l
  | none => none
def aqK : List (Nat × Nat) → Nat → Bool
 | [], _ => false
 | (_, j) :: r, k => match Nat.beq j k with | true => true | false => aqK r k
def Bk.veil : Bk → Bk
 | .vars _ _ => .any
 | b => b
def veil (sk : List (Nat × Nat)) : Heap → Heap
 | [] => []
 | (k, b) :: r => (k, match aqK sk k with | true => b.veil | false => b) :: veil sk r
def aT8 (sk : List (Nat × Nat)) (H : Heap) : Heap :=
 match sk with
 | [] => H
 | x :: r => veil (x :: r) H
def aa6 (H : Heap) : List (Nat × Bk) → Heap
 | [] => H
 | (k, b) :: r => (aa6 H r).up k b
def olds (H : Heap) : List (Nat × Nat) → List (Nat × Bk)
 | [] => []
 | (_, k) :: r => match H.find k with
  | some b => (k, b) :: olds H r
  | none => olds H r
def ap7 (H : Heap) (sk : List (Nat × Nat)) (x : St × List (Nat × Bk)) : St :=
 match sk with
 | [] => x.1
 | y :: r => { x.1 with H := aa6 (aa6 x.1.H (olds H (y :: r))) x.2 }
def stB (P : Program) (Hs : Heap) (k : Nat) (t : TypeId) (a x : AV) : T Bk :=
 match a with
 | .ptr k' off => match Nat.beq k' k with
  | true => match Hs.find k, cellsOf x, ab9 P t with
   | some (.vars e cells), some cs, some n => match Nat.beq cs.length n && Nat.ble (off + n) cells.length with
    | true => .ok (.vars e (over cells off cs))
    | false => .bad
   | _, _, _ => .bad
  | false => .bad
 | _ => .bad
def evS (P : Program) (Γ : Cons) (sk : List (Nat × Nat)) (Hs : Heap) (K : Nat) (H0 : Heap) (arg : Operand → AV) (o : Oper) : T Out :=
 match o.op with
 | .store t a x => match aDJ sk K with
  | some k => (stB P Hs k t (arg a) (arg x)).bind fun b => .ok (.st k b)
  | none => .bad
 | _ => match aqK sk K with
  | false => (evM P Γ K H0 arg o).bind fun x => .ok (.ran x.1 x.2)
  | true => match o.op with
   | .alloc e => match ae4 P e with
    | some _ => .ok (.ran (.ptr K 0) [(K, .any)])
    | none => .bad
   | _ => .bad
def aH1 (P : Program) (Γ : Cons) (ops : Array Oper) (sk : List (Nat × Nat)) (Hs : Heap) (H0 : Nat → Heap → Heap) : List Oper → Nat → St → List (Nat × Bk) → T (St × List (Nat × Bk))
 | [], _, σ, s => .ok (σ, s)
 | o :: rest, K, σ, s => match o.guard with
  | none => (evS P Γ sk Hs K (H0 K σ.H) σ.eval o).bind fun u => aH1 P Γ ops sk Hs H0 rest (K + 1) (σ.step o u) (u.sts ++ s)
  | some (j, want) => match adB ops j with
   | some t => match agT σ.slots t with
    | .d .bool x => .ite x
      (match want with
       | true => (evS P Γ sk Hs K (H0 K σ.H) (σ.put (some t) (.d .bool true)).eval o).bind fun u => aH1 P Γ ops sk Hs H0 rest (K + 1) ((σ.put (some t) (.d .bool true)).step o u) (u.sts ++ s)
       | false => aH1 P Γ ops sk Hs H0 rest (K + 1) ((σ.put (some t) (.d .bool true)).step o .skip) s)
      (match want with
       | true => aH1 P Γ ops sk Hs H0 rest (K + 1) ((σ.put (some t) (.d .bool false)).step o .skip) s
       | false => (evS P Γ sk Hs K (H0 K σ.H) (σ.put (some t) (.d .bool false)).eval o).bind fun u => aH1 P Γ ops sk Hs H0 rest (K + 1) ((σ.put (some t) (.d .bool false)).step o u) (u.sts ++ s))
    | .und => aH1 P Γ ops sk Hs H0 rest (K + 1) (σ.step o .skip) s
    | _ => .bad
   | none => .bad
def afC (pre : List Oper) (base i : Nat) : List (Nat × Nat) → List (Nat × Nat)
 | [] => []
 | (K, k) :: r => match pre[K - base]? with
  | some o => match agA o i with
   | true => (K, k) :: afC pre base i r
   | false => afC pre base i r
  | none => afC pre base i r
def aPp (sk : List (Nat × Nat)) (o : Oper) (base : Nat) : Heap → Heap
 | [] => []
 | (k, b) :: r => match Nat.ble base k with
  | true => match agA o (k - base) && !(aqK sk k) with
   | true => (k, b) :: aPp sk o base r
   | false => aPp sk o base r
  | false => []
def aVm (sk : List (Nat × Nat)) (base : Nat) (N : Heap) : Option Oper → Heap
 | some o => aPp sk o base N
 | none => []
def aQf (pre : List Oper) (base : Nat) (sk : List (Nat × Nat)) (Hs H : Heap) (K : Nat) (N : Heap) : Heap :=
 aVm sk base N pre[K - base]? ++ match sk with
 | [] => H
 | y :: r => aa6 H (olds Hs (afC pre base (K - base) (y :: r)))
def az0 : List Nat → Bool
 | [] => true
 | k :: r => !(r.contains k) && az0 r
def aAB (pre : List Oper) (base : Nat) : List (Nat × Nat) → Bool
 | [] => true
 | (K, k) :: r => (Nat.blt k base || (match pre[K - base]? with | some o => agA o (k - base) | none => false)) && aAB pre base r
def aDE (σ : St) (t : Nat) : List Oper → AV
 | [] => agT σ.slots t
 | o :: r => match o.dst with
  | some d => match Nat.beq d t with
   | true => match o.op with
    | .move x => σ.eval x
    | .load _ x => match σ.eval x with
     | .ptr k _ => match σ.H.find k with
      | some (.vars _ cells) => .ag cells
      | _ => .no
     | _ => .no
    | _ => .no
   | false => aDE σ t r
  | none => aDE σ t r
def aFt (σ : St) (l : List Oper) (x : Operand) : AV :=
 match x with
 | .tmp t => aDE σ t l
 | _ => .no
def apO (ret : Nat → Bool) (σ : St) (l : List Oper) : List Oper → List Nat
 | [] => []
 | o :: r => match o.op with
  | .call { callee := .value (.func g), args, .. } => match ret g with
   | true => afJ (args.toList.map (aFt σ l)) ++ apO ret σ l r
   | false => apO ret σ l r
  | .buildSlice _ _ ps => afJ (ps.toList.map fun x => aFt σ l x.2) ++ apO ret σ l r
  | _ => apO ret σ l r
def aVk (Γ : Cons) (g : Nat) : Bool :=
 match Γ.find g with
 | some c => !(noSl c.res)
 | none => false
def St.forDraw (σ : St) (ret : Nat → Bool) (l : List Oper) : St := σ.thaws (apO ret σ l l)
def aEE (P : Program) (Γ : Cons) (call : anA) (ops : Array Oper) (σ : St) (K : St → Prop) : Prop :=
 let l := ops.toList
 let ms := aeC l []
 let m := aeD ms
 match aVh σ (l.take m) σ.next (agG P (l.take m) σ.next ++ σ.H) (l.take m) σ.next with
 | some sk => match aC6 ops (l.take m) (l.take m) 0 && amM l 0 && avM m ms 0 && Nat.ble m l.length && az0 (sk.map (·.2)) && aAB (l.take m) σ.next sk with
  | true => (aH1 P Γ ops sk (agG P (l.take m) σ.next ++ σ.H) (aQf (l.take m) σ.next sk (agG P (l.take m) σ.next ++ σ.H) (aT8 sk σ.H)) (l.take m) σ.next { σ with H := aT8 sk σ.H, next := σ.next + m } []).holds fun x => ae6 P Γ call ops (l.drop m) (ap7 (agG P (l.take m) σ.next ++ σ.H) sk x) K
  | false => False
 | none => False
theorem aQQ {P : Program} {Γ : Cons} {K : Nat} {H : Heap} {arg arg' : Operand → AV} {o : Oper} (h : ∀ x ∈ o.op.operands, arg x = arg' x) : evM P Γ K H arg o = evM P Γ K H arg' o := by
 have hmap : ∀ l : List Operand, (∀ x ∈ l, arg x = arg' x) → l.map arg = l.map arg' := fun l hl => List.map_congr_left hl
 have hmap2 : ∀ l : List (Nat × Operand), (∀ x ∈ l, arg x.2 = arg' x.2) → (l.map fun x => (x.1, arg x.2)) = l.map fun x => (x.1, arg' x.2) := fun l hl => List.map_congr_left (fun x hx => by rw [hl x hx])
 have hopt : ∀ x : Option Operand, (∀ y ∈ x, arg y = arg' y) → x.map arg = x.map arg' := fun x hx => by
  cases x with
  | none => rfl
  | some y => simp [hx y rfl]
 unfold evM evP
 cases ho : o.op with
 | call c =>
  rw [ho] at h
  obtain ⟨callee, args, ts⟩ := c
  have ha : args.toList.map arg = args.toList.map arg' := hmap _ (fun x hx => h x (by simp only [Op.operands, Call.operands]; exact Array.mem_append.2 (Or.inr (by simpa using hx))))
  cases callee with
  | value f =>
   have hf : arg f = arg' f := h f (by simp [Op.operands, Call.operands])
   simp only [hf, ha]
  | invoke r n => rfl
  | builtin b =>
   cases b <;> first | rfl | simp only [ha] | skip
   all_goals
    congr 1
    split
    ·rename_i x hx
     have : arg x = arg' x := by rw [hx] at ha; simpa using ha
     rw [this]
    ·rfl
 | build t ps =>
  rw [ho] at h
  simp only
  rw [hmap2 ps.toList (fun x hx => h x.2 (by simp only [Op.operands]; simp; exact ⟨x.1, by simpa using hx⟩))]
 | buildSlice t n ps =>
  rw [ho] at h
  simp only
  rw [hmap2 ps.toList (fun x hx => h x.2 (by simp only [Op.operands]; simp; exact ⟨x.1, by simpa using hx⟩))]
 | makeFunc f first caps =>
  rw [ho] at h
  have h1 : first.toList.map arg = first.toList.map arg' := hmap _ (fun x hx => h x (by simp only [Op.operands]; exact Array.mem_append.2 (Or.inl (by simpa using hx))))
  have h2 : caps.toList.map arg = caps.toList.map arg' := hmap _ (fun x hx => h x (by simp only [Op.operands]; exact Array.mem_append.2 (Or.inr (by simpa using hx))))
  cases f <;> simp only [h1, h2]
 | slice t x lo hi mx =>
  rw [ho] at h
  have h0 : arg x = arg' x := h x (by simp [Op.operands])
  have h1 := hopt lo (fun y hy => h y (by cases hy; simp [Op.operands]))
  have h2 := hopt hi (fun y hy => h y (by cases hy; simp [Op.operands]))
  have h3 := hopt mx (fun y hy => h y (by cases hy; simp [Op.operands]))
  simp only [h0, h1, h2, h3]
 | _ => (rw [ho] at h; try (first | rfl | (simp [Op.operands] at h; simp [h])))
open Go Go.RowKit
def upS (nt : Nat) (f : Nat → AV) (dst : Option Nat) (x : AV) : Nat → AV := fun t =>
 match dst with
 | some d => if d = t ∧ d < nt then x else f t
 | none => f t
theorem aK8 (σ : St) (dst : Option Nat) (x : AV) : agT (σ.put dst x).slots = upS σ.n (agT σ.slots) dst x := by
 funext t
 unfold St.put upS
 cases dst with
 | none => rfl
 | some d =>
  simp only
  cases hb : Nat.blt d σ.n with
  | true =>
   have hlt : d < σ.n := Nat.le_of_ble_eq_true hb
   simp only [agT]
   cases hu : Nat.beq d t with
   | true => have := aaM hu; subst this; simp [hlt]
   | false => have hne := adE hu; simp only; rw [aq0 hne, if_neg (fun h => hne h.1)]
  | false =>
   have hge : ¬ d < σ.n := fun hlt => by simp [Nat.blt, vI hlt] at hb
   simp only
   rw [if_neg (fun h => hge h.2)]
theorem aR4 {nt : Nat} {f : Nat → AV} {t : Nat} {x : AV} (h : f t = x) : upS nt f (some t) x = f := by
 funext u
 simp only [upS]
 split
 ·rename_i hc; rw [← hc.1]; exact h.symm
 ·rfl
def aEF (f : Nat → AV) : Operand → AV
 | .tmp t => f t
 | .const v => aEP v
 | .func f => .fn f [] []
 | .global _ => .no
theorem avI (σ : St) : σ.eval = aEF (agT σ.slots) := by funext x; cases x <;> rfl
def aRE (ops : Array Oper) (f : Nat → AV) (o : Oper) : Prop :=
 o.guard = none ∨ ∃ j want t, o.guard = some (j, want) ∧ adB ops j = some t ∧ f t = .d .bool want
def aTD (ops : Array Oper) (f : Nat → AV) (o : Oper) : Prop :=
 ∃ j want t, o.guard = some (j, want) ∧ adB ops j = some t ∧ (f t = .d .bool (!want) ∨ f t = .und)
def aTE (P : Program) (Γ : Cons) (ops : Array Oper) (sk : List (Nat × Nat)) (Hs Hx : Heap) (K : Nat) (f : Nat → AV) (o : Oper) : Out → Prop
 | .ran r new => aRE ops f o ∧ (aqK sk K = false ∧ (evM P Γ K Hx (aEF f) o).Leaf (r, new) ∨ ∃ e zs, o.op = .alloc e ∧ ae4 P e = some zs ∧ r = .ptr K 0 ∧ new = [(K, .any)])
 | .skip => aTD ops f o
 | .st k b => aRE ops f o ∧ aDJ sk K = some k ∧ ∃ t a x, o.op = .store t a x ∧ (stB P Hs k t (aEF f a) (aEF f x)).Leaf b
theorem aEG {P : Program} {Γ : Cons} {ops : Array Oper} {sk : List (Nat × Nat)} {Hs Hx : Heap} {K : Nat} {f : Nat → AV} {o : Oper} {u : Out} (hw : aRE ops f o) (h : (evS P Γ sk Hs K Hx (aEF f) o).Leaf u) : aTE P Γ ops sk Hs Hx K f o u := by
 unfold evS at h
 split at h
 ·rename_i t a x ho
  split at h
  ·rename_i k hk
   obtain ⟨b, h1, h2⟩ := T.Leaf.bind h
   cases h2
   exact ⟨hw, hk, t, a, x, ho, h1⟩
  ·cases h
 ·split at h
  ·rename_i hk
   obtain ⟨y, h1, h2⟩ := T.Leaf.bind h
   cases h2
   exact ⟨hw, Or.inl ⟨hk, h1⟩⟩
  ·split at h
   ·rename_i e ho
    split at h
    ·rename_i zs hz
     cases h
     exact ⟨hw, Or.inr ⟨e, zs, ho, hz, rfl, rfl⟩⟩
    ·cases h
   ·cases h
inductive Tr (P : Program) (Γ : Cons) (ops : Array Oper) (sk : List (Nat × Nat)) (Hs : Heap) (H0 : Nat → Heap → Heap) (nt : Nat) : List Oper → Nat → Heap → (Nat → AV) → List Out → (Nat → AV) → Prop where
 | nil {K : Nat} {N : Heap} {f : Nat → AV} : Tr P Γ ops sk Hs H0 nt [] K N f [] f
 | cons {K : Nat} {N : Heap} {f f' : Nat → AV} {o : Oper} {rest : List Oper} {u : Out} {us : List Out} (h : aTE P Γ ops sk Hs (H0 K N) K f o u) (ht : Tr P Γ ops sk Hs H0 nt rest (K + 1) (u.new ++ N) (upS nt f o.dst u.av) us f') :
   Tr P Γ ops sk Hs H0 nt (o :: rest) K N f (u :: us) f'
section
variable {C : Ctx} {P : Program} {G : World → Prop} {Γ : Cons} {ops : Array Oper} {sk : List (Nat × Nat)} {Hs : Heap} {H0 : Nat → Heap → Heap} {nt : Nat}
theorem aCn : ∀ (l : List Oper) (K : Nat) (σ : St) (s : List (Nat × Bk)) (y : St × List (Nat × Bk)), (aH1 P Γ ops sk Hs H0 l K σ s).Leaf y →
  ∃ us : List Out, Tr P Γ ops sk Hs H0 σ.n l K σ.H (agT σ.slots) us (agT y.1.slots) ∧ (∀ x, x ∈ y.1.H ↔ x ∈ σ.H ∨ ∃ (j : Nat) (u : Out), us[j]? = some u ∧ x ∈ u.new) ∧ y.1.next = σ.next ∧ y.1.n = σ.n ∧
   ∀ x, x ∈ y.2 ↔ x ∈ s ∨ ∃ (j : Nat) (u : Out), us[j]? = some u ∧ x ∈ u.sts
 | [], K, σ, s, y, h => by
  cases h
  exact ⟨[], .nil, by simp, rfl, rfl, by simp⟩
 | o :: rest, K, σ, s, y, h => by
  have key : ∀ (σ1 : St) (u : Out), agT σ1.slots = agT σ.slots → σ1.H = σ.H → σ1.next = σ.next → σ1.n = σ.n → aTE P Γ ops sk Hs (H0 K σ.H) K (agT σ.slots) o u → (aH1 P Γ ops sk Hs H0 rest (K + 1) (σ1.step o u) (u.sts ++ s)).Leaf y →
    ∃ us : List Out, Tr P Γ ops sk Hs H0 σ.n (o :: rest) K σ.H (agT σ.slots) us (agT y.1.slots) ∧ (∀ x, x ∈ y.1.H ↔ x ∈ σ.H ∨ ∃ (j : Nat) (u : Out), us[j]? = some u ∧ x ∈ u.new) ∧ y.1.next = σ.next ∧ y.1.n = σ.n ∧
     ∀ x, x ∈ y.2 ↔ x ∈ s ∨ ∃ (j : Nat) (u : Out), us[j]? = some u ∧ x ∈ u.sts := by
   intro σ1 u e1 e2 e3 e4 hst hl
   obtain ⟨us, h1, h2, h3, h4, h5⟩ := aCn rest (K + 1) _ _ y hl
   have hn : (σ1.step o u).n = σ1.n := by unfold St.step St.put; split <;> (try split) <;> rfl
   have hs : agT (σ1.step o u).slots = upS σ.n (agT σ.slots) o.dst u.av := by
    unfold St.step; rw [aK8]; simp only [e1, e4]
   have hH : (σ1.step o u).H = u.new ++ σ.H := by unfold St.step; rw [St.put_H]; simp only [e2]
   have hnx : (σ1.step o u).next = σ.next := by unfold St.step; rw [St.put_next]; exact e3
   rw [hn, hs, e4, hH] at h1
   refine ⟨u :: us, .cons hst h1, fun x => ?_, by rw [h3, hnx], by rw [h4, hn, e4], fun x => ?_⟩
   ·rw [h2, hH, zJ]
    constructor
    ·rintro ((hx | hx) | ⟨j, v, hj, hx⟩)
     ·exact Or.inr ⟨0, u, rfl, hx⟩
     ·exact Or.inl hx
     ·exact Or.inr ⟨j + 1, v, by simpa using hj, hx⟩
    ·rintro (hx | ⟨j, v, hj, hx⟩)
     ·exact Or.inl (Or.inr hx)
     ·cases j with
      | zero => simp at hj; subst hj; exact Or.inl (Or.inl hx)
      | succ j => exact Or.inr ⟨j, v, by simpa using hj, hx⟩
   ·rw [h5, zJ]
    constructor
    ·rintro ((hx | hx) | ⟨j, v, hj, hx⟩)
     ·exact Or.inr ⟨0, u, rfl, hx⟩
     ·exact Or.inl hx
     ·exact Or.inr ⟨j + 1, v, by simpa using hj, hx⟩
    ·rintro (hx | ⟨j, v, hj, hx⟩)
     ·exact Or.inl (Or.inr hx)
     ·cases j with
      | zero => simp at hj; subst hj; exact Or.inl (Or.inl hx)
      | succ j => exact Or.inr ⟨j, v, by simpa using hj, hx⟩
  simp only [aH1] at h
  split at h
  ·rename_i hg
   obtain ⟨u, h1, h2⟩ := T.Leaf.bind h
   rw [avI] at h1
   exact key σ u rfl rfl rfl rfl (aEG (Or.inl hg) h1) h2
  ·rename_i j want hg
   split at h
   ·rename_i t ht
    split at h
    ·rename_i b hb
     have hr : ∀ b', b = b' → agT (σ.put (some t) (.d .bool b')).slots = agT σ.slots := fun b' e => by rw [aK8]; exact aR4 (by rw [hb, e])
     have hf : ∀ b', (σ.put (some t) (.d .bool b')).H = σ.H ∧ (σ.put (some t) (.d .bool b')).next = σ.next ∧ (σ.put (some t) (.d .bool b')).n = σ.n := fun b' => ⟨St.put_H _ _ _, St.put_next _ _ _, by unfold St.put; simp only; split <;> rfl⟩
     cases h with
     | t h =>
      cases want with
      | true =>
       obtain ⟨u, h1, h2⟩ := T.Leaf.bind h
       rw [avI, hr true rfl] at h1
       exact key _ u (hr true rfl) (hf true).1 (hf true).2.1 (hf true).2.2 (aEG (Or.inr ⟨j, true, t, hg, ht, hb⟩) h1) h2
      | false => exact key _ .skip (hr true rfl) (hf true).1 (hf true).2.1 (hf true).2.2 ⟨j, false, t, hg, ht, Or.inl hb⟩ h
     | f h =>
      cases want with
      | true => exact key _ .skip (hr false rfl) (hf false).1 (hf false).2.1 (hf false).2.2 ⟨j, true, t, hg, ht, Or.inl hb⟩ h
      | false =>
       obtain ⟨u, h1, h2⟩ := T.Leaf.bind h
       rw [avI, hr false rfl] at h1
       exact key _ u (hr false rfl) (hf false).1 (hf false).2.1 (hf false).2.2 (aEG (Or.inr ⟨j, false, t, hg, ht, hb⟩) h1) h2
    ·rename_i hb
     exact key σ .skip rfl rfl rfl rfl ⟨j, want, t, hg, ht, Or.inr hb⟩ h
    ·cases h
   ·cases h
theorem Tr.length {l : List Oper} {K : Nat} {N : Heap} {f f' : Nat → AV} {us : List Out} (h : Tr P Γ ops sk Hs H0 nt l K N f us f') : us.length = l.length := by
 induction h with
 | nil => rfl
 | cons _ _ ih => simp [ih]
theorem Tr.slot {l : List Oper} {K : Nat} {N : Heap} {f f' : Nat → AV} {us : List Out} (h : Tr P Γ ops sk Hs H0 nt l K N f us f') (t : Nat) :
  (∃ (j : Nat) (o : Oper) (u : Out), l[j]? = some o ∧ us[j]? = some u ∧ o.dst = some t ∧ t < nt ∧ f' t = u.av) ∨ ((∀ (j : Nat) (o : Oper), l[j]? = some o → o.dst = some t → ¬ t < nt) ∧ f' t = f t) := by
 induction h with
 | nil => exact Or.inr ⟨by simp, rfl⟩
 | @cons K N f f' o rest u us h _ ih =>
  rcases ih with ⟨j, o', u', h1, h2, h3, h4, h5⟩ | ⟨h1, h2⟩
  ·exact Or.inl ⟨j + 1, o', u', by simpa using h1, by simpa using h2, h3, h4, h5⟩
  ·by_cases hd : o.dst = some t ∧ t < nt
   ·refine Or.inl ⟨0, o, u, rfl, rfl, hd.1, hd.2, ?_⟩
    rw [h2]
    simp [upS, hd.1, hd.2]
   ·refine Or.inr ⟨fun j o' hj ho => ?_, ?_⟩
    ·cases j with
     | zero => simp at hj; subst hj; exact fun hlt => hd ⟨ho, hlt⟩
     | succ j => exact h1 j o' (by simpa using hj) ho
    ·rw [h2]
     unfold upS
     split
     ·rename_i d hd'
      rw [if_neg]
      rintro ⟨rfl, hlt⟩
      exact hd ⟨hd', hlt⟩
     ·rfl
theorem Tr.nth {l : List Oper} {K : Nat} {N : Heap} {f f' : Nat → AV} {us : List Out} (h : Tr P Γ ops sk Hs H0 nt l K N f us f') : ∀ {i : Nat} {o : Oper}, l[i]? = some o →
  ∃ u fi Ni, us[i]? = some u ∧ Tr P Γ ops sk Hs H0 nt (l.take i) K N f (us.take i) fi ∧ aTE P Γ ops sk Hs (H0 (K + i) Ni) (K + i) fi o u ∧ ∀ x ∈ Ni, x ∈ N ∨ ∃ (j : Nat) (v : Out), us[j]? = some v ∧ x ∈ v.new := by
 induction h with
 | nil => intro i o hi; simp at hi
 | @cons K N f f' o rest u us h _ ih =>
  intro i o' hi
  cases i with
  | zero => simp at hi; subst hi; exact ⟨u, f, N, rfl, .nil, h, fun x hx => Or.inl hx⟩
  | succ i =>
   obtain ⟨u', fi, Ni, h1, h2, h3, h4⟩ := ih (i := i) (by simpa using hi)
   refine ⟨u', fi, Ni, by simpa using h1, .cons h h2, ?_, fun x hx => ?_⟩
   ·rwa [show K + 1 + i = K + (i + 1) by omega] at h3
   ·rcases h4 x hx with hx | ⟨j, v, hj, hv⟩
    ·rcases zJ.1 hx with hx | hx
     ·exact Or.inr ⟨0, u, rfl, hx⟩
     ·exact Or.inl hx
    ·exact Or.inr ⟨j + 1, v, by simpa using hj, hv⟩
end
theorem an9 {i : Nat} {o : Oper} {t : Nat} : ∀ {l : List Oper} {k : Nat}, aAz i o t l k = true → ∀ {j : Nat} {p : Oper}, l[j]? = some p → p.dst = some t → k + j < i ∧ agA o (k + j) = true ∨ i < k + j ∧ agA p i = true
 | [], _, _, j, p, hp, _ => by simp at hp
 | q :: r, k, h, j, p, hp, hd => by
  simp only [aAz, zw] at h
  cases j with
  | zero =>
   simp at hp
   subst hp
   rw [hd] at h
   simp only [Nat.beq_refl, zw, vk] at h
   rcases h.1 with ⟨h1, h2⟩ | ⟨h1, h2⟩
   ·exact Or.inl ⟨Nat.le_of_ble_eq_true h1, h2⟩
   ·exact Or.inr ⟨Nat.le_of_ble_eq_true h1, h2⟩
  | succ j =>
   have := an9 h.2 (j := j) (by simpa using hp) hd
   rwa [show k + 1 + j = k + (j + 1) by omega] at this
theorem aAC {i d : Nat} : ∀ {l : List Oper} {k : Nat}, aHs i d l k = true → ∀ {j : Nat} {p : Oper}, l[j]? = some p → p.dst = some d → i = k + j
 | [], _, _, j, p, hp, _ => by simp at hp
 | q :: r, k, h, j, p, hp, hd => by
  simp only [aHs, zw] at h
  cases j with
  | zero =>
   simp at hp
   subst hp
   rw [hd] at h
   simp only [Nat.beq_refl] at h
   exact aaM h.1
  | succ j =>
   have := aAC h.2 (j := j) (by simpa using hp) hd
   omega
theorem aAA {ops : Array Oper} {pre : List Oper} : ∀ {l : List Oper} {k : Nat}, aC6 ops pre l k = true → ∀ {i : Nat} {o : Oper}, l[i]? = some o →
  (∀ t ∈ anJ ops o, aAz (k + i) o t pre 0 = true) ∧ (∀ d, o.dst = some d → aHs (k + i) d pre 0 = true)
 | [], _, _, i, o, ho => by simp at ho
 | q :: r, k, h, i, o, ho => by
  simp only [aC6, zw, List.all_eq_true] at h
  cases i with
  | zero =>
   simp at ho
   subst ho
   refine ⟨fun t ht => h.1.1 t ht, fun d hd => ?_⟩
   rw [hd] at h
   exact h.1.2
  | succ i =>
   have := aAA h.2 (i := i) (by simpa using ho)
   rwa [show k + 1 + i = k + (i + 1) by omega] at this
theorem agD : ∀ {l : List Oper} {k : Nat}, amM l k = true → ∀ {i : Nat} {o : Oper}, l[i]? = some o → ∀ e ∈ o.after, agY e = true → e.on < k + i
 | [], _, _, i, o, ho => by simp at ho
 | q :: r, k, h, i, o, ho => by
  simp only [amM, zw, List.all_eq_true] at h
  cases i with
  | zero =>
   simp at ho
   subst ho
   intro e he hb
   have := h.1 e (by simpa using he)
   rw [hb] at this
   simp at this
   omega
  | succ i =>
   intro e he hb
   have := agD h.2 (i := i) (by simpa using ho) e he hb
   omega
theorem ahN {o : Oper} {j : Nat} (h : agA o j = true) : ∃ e ∈ o.after, agY e = true ∧ e.on = j := by
 unfold agA at h
 rw [List.any_eq_true] at h
 obtain ⟨e, he, hb⟩ := h
 simp only [zw] at hb
 exact ⟨e, by simpa using he, hb.1, aaM hb.2⟩
theorem ahM : ∀ (l : List Oper) (acc : List Nat), acc = (aeC l acc).take acc.length ∧ (aeC l acc).length = acc.length + l.length
 | [], acc => by simp [aeC]
 | o :: r, acc => by
  obtain ⟨h1, h2⟩ := ahM r (acc ++ [adR acc o.after.toList])
  simp only [aeC]
  refine ⟨?_, by rw [h2]; simp; omega⟩
  have := congrArg (List.take acc.length) h1
  rw [xf] at this
  simp at this
  exact this
theorem aGK : ∀ (l : List Oper) (acc : List Nat) (j : Nat) (o : Oper), l[j]? = some o → (aeC l acc)[acc.length + j]? = some (adR ((aeC l acc).take (acc.length + j)) o.after.toList)
 | [], acc, j, o, h => by simp at h
 | p :: r, acc, j, o, h => by
  simp only [aeC]
  cases j with
  | zero =>
   simp at h
   subst h
   obtain ⟨h1, h2⟩ := ahM r (acc ++ [adR acc p.after.toList])
   generalize aeC r (acc ++ [adR acc p.after.toList]) = M at *
   have e1 : M.take acc.length = acc := by
    have := congrArg (List.take acc.length) h1
    rw [xf] at this
    simp at this
    exact this.symm
   have e2 : M[acc.length]? = some (adR acc p.after.toList) := by
    have := congrArg (fun l => l[acc.length]?) h1
    simp at this
    exact this.symm
   rw [Nat.add_zero, e1, e2]
  | succ j =>
   have := aGK r (acc ++ [adR acc p.after.toList]) j o (by simpa using h)
   rw [zH] at this
   simp only [zG, yR] at this
   rwa [show acc.length + (0 + 1) + j = acc.length + (j + 1) by omega] at this
theorem amA {acc : List Nat} {i : Nat} : ∀ {es : List Edge}, (adR acc es).testBit i = true → ∃ e ∈ es, agY e = true ∧ (i = e.on ∨ (acc.getD e.on 0).testBit i = true)
 | [], h => by simp [adR] at h
 | e :: r, h => by
  simp only [adR] at h
  cases hb : agY e with
  | true =>
   rw [hb] at h
   simp only [Nat.testBit_or, vk] at h
   rcases h with (h | h) | h
   ·rw [Nat.testBit_two_pow] at h
    simp at h
    exact ⟨e, by simp, hb, Or.inl h.symm⟩
   ·exact ⟨e, by simp, hb, Or.inr h⟩
   ·obtain ⟨e', h1, h2⟩ := amA h
    exact ⟨e', zM _ h1, h2⟩
  | false =>
   rw [hb] at h
   obtain ⟨e', h1, h2⟩ := amA h
   exact ⟨e', zM _ h1, h2⟩
def aLD (l : List Oper) (ls : Nat → Bool) : Prop := ∀ (j : Nat) (o : Oper), l[j]? = some o → ls j = true → ∀ e ∈ o.after, agY e = true → ls e.on = true
theorem aAx {l : List Oper} {ls : Nat → Bool} (hc : aLD l ls) (he : amM l 0 = true) : ∀ (j : Nat) (o : Oper), l[j]? = some o → (∀ e ∈ o.after, agY e = true → ls e.on = true) → ∀ x i, (aeC l [])[j]? = some x → x.testBit i = true → ls i = true := by
 intro j
 induction j using Nat.strongRecOn with
 | _ j ih =>
  intro o ho hed x i hx hb
  have hm := aGK l [] j o ho
  simp only [yR, zv] at hm
  rw [hx] at hm
  injection hm with hm
  subst hm
  obtain ⟨e, he1, he2, he3⟩ := amA hb
  have he1' : e ∈ o.after := by simpa using he1
  have hlt := agD he ho e he1' he2
  rw [zv] at hlt
  rcases he3 with rfl | he3
  ·exact hed e he1' he2
  ·have hjl : j < l.length := (zR.1 ho).1
   have hel : e.on < l.length := zc
   obtain ⟨p, hp⟩ : ∃ p, l[e.on]? = some p := ⟨l[e.on], by simp [hel]⟩
   have hmx : e.on < (aeC l []).length := by rw [(ahM l []).2]; simpa using hel
   have hgx : (aeC l [])[e.on]? = some (aeC l [])[e.on] := by simp [hmx]
   have hgd : ((aeC l []).take j).getD e.on 0 = (aeC l [])[e.on] := by
    rw [yp, yw, if_pos hlt, hgx]; rfl
   rw [hgd] at he3
   exact ih e.on hlt p hp (hc e.on p hp (hed e he1' he2)) _ i hgx he3
theorem an8 {m : Nat} : ∀ {l : List Nat} {k : Nat}, avM m l k = true → ∀ {j x : Nat}, l[j]? = some x → m ≤ k + j → x = 2 ^ (k + j) - 1
 | [], _, _, j, x, hx => by simp at hx
 | y :: r, k, h, j, x, hx => by
  simp only [avM, zw] at h
  intro hm
  cases j with
  | zero =>
   simp at hx
   subst hx
   rw [Nat.add_zero] at hm ⊢
   rw [vI hm] at h
   exact aaM h.1
  | succ j =>
   have := an8 h.2 (j := j) (by simpa using hx) zc
   rwa [show k + 1 + j = k + (j + 1) by omega] at this
open Go Go.RowKit
def aVR (pre : List Oper) (us : List Out) (nt : Nat) (f0 : Nat → AV) (ls : Nat → Bool) (t : Nat) (x : AV) : Prop :=
 (∃ (j : Nat) (o : Oper) (u : Out), pre[j]? = some o ∧ us[j]? = some u ∧ o.dst = some t ∧ t < nt ∧ ls j = true ∧ x = u.av) ∨
 ((∀ (j : Nat) (o : Oper), pre[j]? = some o → o.dst = some t → t < nt → ls j = false) ∧ x = f0 t)
def SkInv (C : Ctx) (ρ : Nat → Nat) (Hd : Heap) (w : World) (Hs : Heap) (sk : List (Nat × Nat)) (base : Nat) (us : List Out) (ls : Nat → Bool) : Prop :=
  ∀ K k, (K, k) ∈ sk → base ≤ K ∧ ∃ e cells, Hs.find k = some (.vars e cells) ∧ (k ∈ Hd.keys → (k, Bk.any) ∈ Hd ∧
    ((∃ b, us[K - base]? = some (.st k b) ∧ ls (K - base) = true ∧ BkR C ρ Hd w (ρ k) b) ∨
     ((ls (K - base) = false ∨ us[K - base]? = some .skip) ∧ BkR C ρ Hd w (ρ k) (.vars e cells))))
def AInv (C : Ctx) (ρ0 : Nat → Nat) (ws : World) (σ0 : St) (Hs : Heap) (sk : List (Nat × Nat)) (base : Nat) (pre : List Oper) (us : List Out) (ls : Nat → Bool) (a : Act) (w : World) : Prop :=
 ∃ (ρ : Nat → Nat) (Hd : Heap), (∀ x, x ∈ Hd ↔ x ∈ σ0.H ∨ ∃ (j : Nat) (u : Out), us[j]? = some u ∧ ls j = true ∧ x ∈ u.new) ∧ MRel C ρ Hd σ0.next w ∧
  (∀ t x, aVR pre us σ0.n (agT σ0.slots) ls t x → VR C ρ Hd w x (a.tmps.getD t undef)) ∧ a.tmps.size = σ0.n ∧ Dfs C ρ Hd w a.defers ∧ Ext C ρ0 σ0.H ws ρ Hd w ∧ SkInv C ρ Hd w Hs sk base us ls
def aw6 (ls : Nat → Bool) (i : Nat) : Nat → Bool := fun j => if j = i then true else ls j
section
variable {C : Ctx} {P : Program} {G : World → Prop} {Γ : Cons} {ops : Array Oper}
theorem aV1 {H : Heap} {k : Nat} {b : Bk} (hn : H.keys.Nodup) (h : (k, b) ∈ H) : H.up k b = H := by
 induction H with
 | nil => rfl
 | cons x r ih =>
  obtain ⟨j, y⟩ := x
  have hn' := yL.1 hn
  simp only [Heap.up]
  cases hb : Nat.beq j k with
  | true =>
   have := aaM hb; subst this
   rcases zx.1 h with e | h
   ·injection e with _ e; rw [e]
   ·exact absurd (aaO h) hn'.1
  | false =>
   rcases zx.1 h with e | h
   ·injection e with e _; exact absurd e.symm (adE hb)
   ·simp only [ih hn'.2 h]
theorem aOC {ρ : Nat → Nat} {H : Heap} {next : Nat} {w : World} (hm : MRel C ρ H next w) {k off : Nat} {e : TypeId} {cells cs : List AV} {n : Nat} {t : TypeId} {y : AV} {vy : Value} (hk : (k, Bk.any) ∈ H)
  (hb : BkR C ρ H w (ρ k) (.vars e cells)) (hcs : cellsOf y = some cs) (hsz : ab9 P t = some n) (hlen : cs.length = n) (hle : off + n ≤ cells.length) (hy : VR C ρ H w y vy) :
  ∃ w', (Instr.storeAt t (.pointer (some ⟨ρ k, off, none⟩)) vy).run P w = .ok () w' ∧ MRel C ρ H next w' ∧ Ext C ρ H w ρ H w' ∧ BkR C ρ H w' (ρ k) (.vars e (over cells off cs)) ∧ (∀ j, j ≠ ρ k → w'.heap[j]? = w.heap[j]?) := by
 obtain ⟨c, h1, h2, h3⟩ := hb
 obtain ⟨hv, hv1⟩ := ah2 hcs hy
 have hl1 := hv.length
 have hl2 := h2.length
 have hcl : c.toList.length = c.size := zi
 have hvs : vy.cells.toList.length = n := zc
 have hrun := anG (P := P) (vs := vy.cells.toList) h1 (o := off) zc hv1
 have hovl : (over c.toList off vy.cells.toList).length = c.toList.length := ac0 _ _ _ zc
 obtain ⟨hm', hext⟩ := hm.write (nb := .any) (c' := ⟨over c.toList off vy.cells.toList⟩) hk h1 (by simp [hovl]) (fun e t l h => by cases h) (fun H' w' _ hw' => ⟨_, hw'⟩)
 rw [aV1 hm.nodup hk] at hm' hext
 refine ⟨_, ?_, hm', hext, ⟨_, setRow_heap _ _ _ _ _ _ h1, (h2.imp (fun _ _ => hext.vr)).over (hv.imp (fun _ _ => hext.vr)) off, ?_⟩, fun j hj => setRow_other _ _ _ _ hj⟩
 ·simp only [Instr.storeAt, Instr.sureAddr, Sem.run_bind, Sem.run_pure, Result.andThen_ok, storeVar, abB hsz, Sem.run_ite]
  rw [if_neg (by simp at hl1; omega)]
  exact hrun
 ·intro v hv
  rcases ar0 hv with h | h
  ·exact h3 v h
  ·exact hv1 v h
theorem aTb {a : Act} {dst : Option Nat} {v : Value} {t : Nat} : (a.put dst v).tmps.getD t undef = if dst = some t ∧ t < a.tmps.size then v else a.tmps.getD t undef := by
 cases dst with
 | none => simp [Act.put]
 | some d =>
  simp only [Act.put, zI]
  by_cases h : d = t
  ·subst h
   by_cases hlt : d < a.tmps.size
   ·simp [hlt]
   ·simp [hlt]
  ·rw [xD h]
   simp [h]
theorem aSx {a : Act} {dst : Option Nat} {v : Value} : (a.put dst v).tmps.size = a.tmps.size := by cases dst <;> simp [Act.put]
theorem aMz {a : Act} {dst : Option Nat} {v : Value} : (a.put dst v).defers = a.defers := by cases dst <;> rfl
theorem au4 {t : Nat} : ∀ {l : List Operand}, .tmp t ∈ l → t ∈ arQ l
 | [], h => by simp at h
 | x :: r, h => by
  rcases zx.1 h with e | h1
  ·subst e; simp [arQ]
  ·have := au4 h1
   cases x <;> simp [arQ, this]
theorem awD {o : Oper} {t : Nat} (h : t ∈ arQ o.op.operands.toList) : t ∈ anJ ops o := by
 unfold anJ
 split
 ·exact h
 ·split
  ·exact zM _ h
  ·exact h
theorem aq2 {o : Oper} {j : Nat} {want : Bool} {t : Nat} (hg : o.guard = some (j, want)) (ht : adB ops j = some t) : t ∈ anJ ops o := by
 unfold anJ
 rw [hg]
 simp only [ht]
 exact zZ
theorem aQO {K : Nat} {H : Heap} {arg : Operand → AV} {o : Oper} {x : AV × List (Nat × Bk)} {t : TypeId} {p y : Operand} (ho : o.op = .store t p y) (h : (evM P Γ K H arg o).Leaf x) : False := by
 simp only [evM, evP, ho] at h
 obtain ⟨_, h1, _⟩ := T.Leaf.bind h
 cases h1
theorem aVg {sk : List (Nat × Nat)} (hn : (sk.map (·.2)).Nodup) {K K' k : Nat} (h : (K, k) ∈ sk) (h' : (K', k) ∈ sk) : K = K' := by
 induction sk with
 | nil => cases h
 | cons x r ih =>
  have hn' := yL.1 hn
  rcases zx.1 h with e | h1 <;> rcases zx.1 h' with e' | h2
  ·rw [← e] at e'; injection e' with e' _; exact e'.symm
  ·subst e; exact absurd (zN.2 ⟨_, h2, rfl⟩) hn'.1
  ·subst e'; exact absurd (zN.2 ⟨_, h1, rfl⟩) hn'.1
  ·exact ih hn'.2 h1 h2
structure SkOk (sk : List (Nat × Nat)) (base : Nat) (pre : List Oper) : Prop where
 nodup : (sk.map (·.2)).Nodup
 get : ∀ K k, (K, k) ∈ sk → aDJ sk K = some k
 op : ∀ K k, (K, k) ∈ sk → ∃ o t a x, pre[K - base]? = some o ∧ o.op = .store t a x
 laid : ∀ K k, (K, k) ∈ sk → base ≤ k → ∃ o, pre[K - base]? = some o ∧ agA o (k - base) = true
theorem aw4 {pre : List Oper} {base : Nat} : ∀ {sk : List (Nat × Nat)}, aAB pre base sk = true → ∀ K k, (K, k) ∈ sk → base ≤ k → ∃ o, pre[K - base]? = some o ∧ agA o (k - base) = true
 | [], _, _, _, hm, _ => by cases hm
 | (K', k') :: r, h, K, k, hm, hk => by
  simp only [aAB, zw, vk] at h
  rcases zx.1 hm with e | hm
  ·injection e with e1 e2
   subst e1; subst e2
   rcases h.1 with h1 | h1
   ·have := Nat.le_of_ble_eq_true h1; omega
   ·split at h1
    ·rename_i o ho; exact ⟨o, ho, h1⟩
    ·cases h1
  ·exact aw4 h.2 K k hm hk
theorem aFv {sk : List (Nat × Nat)} {K k : Nat} (h : aDJ sk K = some k) : (K, k) ∈ sk := by
 induction sk with
 | nil => cases h
 | cons x r ih =>
  obtain ⟨K', k'⟩ := x
  simp only [aDJ] at h
  cases hb : Nat.beq K' K with
  | true => rw [hb] at h; injection h with h; subst h; have := aaM hb; subst this; exact zZ
  | false => rw [hb] at h; exact zM _ (ih h)
theorem skHas_iff {sk : List (Nat × Nat)} {k : Nat} : aqK sk k = true ↔ ∃ K, (K, k) ∈ sk := by
 induction sk with
 | nil => simp [aqK]
 | cons x r ih =>
  obtain ⟨K', j⟩ := x
  simp only [aqK]
  cases hb : Nat.beq j k with
  | true => have := aaM hb; subst this; exact ⟨fun _ => ⟨K', zZ⟩, fun _ => rfl⟩
  | false =>
   rw [ih]
   have hne := adE hb
   constructor
   ·rintro ⟨K, h⟩; exact ⟨K, zM _ h⟩
   ·rintro ⟨K, h⟩
    rcases zx.1 h with e | h
    ·injection e with _ e; exact absurd e.symm hne
    ·exact ⟨K, h⟩
theorem MRel.reveal {ρ : Nat → Nat} {H H' : Heap} {next : Nat} {w : World} (hm : MRel C ρ H next w) (hk : ∀ k, k ∈ H.keys ↔ k ∈ H'.keys) (hr : ∀ k e t l, (k, Bk.row e t l) ∈ H → (k, Bk.row e t l) ∈ H') (hn : H'.keys.Nodup)
  (hb : ∀ k b, (k, b) ∈ H' → BkR C ρ H w (ρ k) b) : MRel C ρ H' next w ∧ Ext C ρ H w ρ H' w := by
 have hext : Ext C ρ H w ρ H' w := ⟨fun b ⟨h1, h2, h3⟩ => ⟨⟨h1, h2, fun k hk' => h3 k ((hk k).2 hk')⟩, rfl⟩, fun k hk' => ⟨(hk k).1 hk', rfl⟩, fun k e t l hm => ⟨l, hr k e t l hm, zq _, fun c fr hc => ⟨c, fr, hc, rfl⟩⟩, zq _⟩
 exact ⟨⟨hm.below, hn, fun k hk' => hm.lt k ((hk k).2 hk'), fun k hk1 k' hk2 => hm.inj k ((hk k).2 hk1) k' ((hk k').2 hk2), fun k hk' => hm.low k ((hk k).2 hk'), fun k b hb' => (hb k b hb').ext hext rfl⟩, hext⟩
theorem aaX (H : Heap) : ∀ l : List (Nat × Bk), (aa6 H l).keys = H.keys
 | [] => rfl
 | (k, b) :: r => by simp only [aa6]; rw [Heap.keys_up, aaX H r]
theorem aeX {H : Heap} (hn : H.keys.Nodup) : ∀ {l : List (Nat × Bk)} {k : Nat} {b : Bk}, (k, b) ∈ aa6 H l → (k, b) ∈ l ∨ (∀ b', (k, b') ∉ l) ∧ (k, b) ∈ H
 | [], k, b, h => Or.inr ⟨(by intro b' hb; cases hb), h⟩
 | (j, y) :: r, k, b, h => by
  simp only [aa6] at h
  by_cases hj : k = j
  ·subst hj
   rw [Heap.mem_up_eq (by rw [aaX]; exact hn) h]
   exact Or.inl zZ
  ·rcases aeX hn ((Heap.mem_up_ne hj).1 h) with h | ⟨h1, h2⟩
   ·exact Or.inl (zM _ h)
   ·refine Or.inr ⟨fun b' hb' => ?_, h2⟩
    rcases zx.1 hb' with e | hb'
    ·injection e with e _; exact hj e
    ·exact h1 b' hb'
theorem acI {H : Heap} : ∀ {l : List (Nat × Bk)} {k : Nat} {b : Bk}, (k, b) ∈ H → (∀ b', (k, b') ∉ l) → (k, b) ∈ aa6 H l
 | [], _, _, h, _ => h
 | (j, y) :: r, k, b, h, hl => by
  simp only [aa6]
  have hne : k ≠ j := fun e => hl y (by rw [e]; exact zZ)
  exact (Heap.mem_up_ne hne).2 (acI h (fun b' hb' => hl b' (zM _ hb')))
theorem olds_mem {H : Heap} : ∀ {sk : List (Nat × Nat)} {k : Nat} {b : Bk}, (k, b) ∈ olds H sk ↔ (∃ K, (K, k) ∈ sk) ∧ H.find k = some b
 | [], k, b => by simp [olds]
 | (K', j) :: r, k, b => by
  simp only [olds]
  cases hf : H.find j with
  | none =>
   simp only [olds_mem, zx, Prod.mk.injEq]
   constructor
   ·rintro ⟨⟨K, h1⟩, h2⟩; exact ⟨⟨K, Or.inr h1⟩, h2⟩
   ·rintro ⟨⟨K, ⟨_, rfl⟩ | h1⟩, h2⟩
    ·rw [hf] at h2; cases h2
    ·exact ⟨⟨K, h1⟩, h2⟩
  | some y =>
   simp only [zx, olds_mem, Prod.mk.injEq]
   constructor
   ·rintro (⟨rfl, rfl⟩ | ⟨⟨K, h1⟩, h2⟩)
    ·exact ⟨⟨K', Or.inl ⟨rfl, rfl⟩⟩, hf⟩
    ·exact ⟨⟨K, Or.inr h1⟩, h2⟩
   ·rintro ⟨⟨K, ⟨_, rfl⟩ | h1⟩, h2⟩
    ·rw [hf] at h2; injection h2 with h2; exact Or.inl ⟨rfl, h2.symm⟩
    ·exact Or.inr ⟨⟨K, h1⟩, h2⟩
theorem ajE {H : Heap} : ∀ {l : List (Nat × Bk)} {k : Nat} {b : Bk}, k ∈ H.keys → (k, b) ∈ l → (∀ b', (k, b') ∈ l → b' = b) → (k, b) ∈ aa6 H l
 | [], _, _, _, h, _ => by cases h
 | (j, y) :: r, k, b, hk, h, hu => by
  simp only [aa6]
  by_cases hj : k = j
  ·subst hj
   rw [hu y zZ]
   exact Heap.mem_up_same (by rw [aaX]; exact hk)
  ·refine (Heap.mem_up_ne hj).2 (ajE hk ?_ (fun b' hb' => hu b' (zM _ hb')))
   rcases zx.1 h with e | h
   ·injection e with e _; exact absurd e hj
   ·exact h
theorem aiQ {pre : List Oper} {base i : Nat} : ∀ {sk : List (Nat × Nat)} {K k : Nat}, (K, k) ∈ afC pre base i sk → (K, k) ∈ sk ∧ ∃ o, pre[K - base]? = some o ∧ agA o i = true
 | [], _, _, h => by cases h
 | (K', k') :: r, K, k, h => by
  simp only [afC] at h
  split at h
  ·rename_i o ho
   split at h
   ·rename_i he
    rcases zx.1 h with e | h
    ·injection e with e1 e2; subst e1; subst e2; exact ⟨zZ, o, ho, he⟩
    ·obtain ⟨h1, h2⟩ := aiQ h; exact ⟨zM _ h1, h2⟩
   ·obtain ⟨h1, h2⟩ := aiQ h; exact ⟨zM _ h1, h2⟩
  ·obtain ⟨h1, h2⟩ := aiQ h; exact ⟨zM _ h1, h2⟩
theorem aS3 (pre : List Oper) (base : Nat) (sk : List (Nat × Nat)) (Hs H : Heap) (K : Nat) (N : Heap) : aQf pre base sk Hs H K N = aVm sk base N pre[K - base]? ++ aa6 H (olds Hs (afC pre base (K - base) sk)) := by
 cases sk <;> rfl
theorem auV {sk : List (Nat × Nat)} {o : Oper} {base : Nat} : ∀ {N : Heap} {x : Nat × Bk}, x ∈ aPp sk o base N → x ∈ N ∧ base ≤ x.1 ∧ agA o (x.1 - base) = true ∧ aqK sk x.1 = false
 | [], _, h => by cases h
 | (k, b) :: r, x, h => by
  simp only [aPp] at h
  split at h
  ·rename_i hb
   split at h
   ·rename_i hc
    simp only [zw, zT] at hc
    rcases zx.1 h with rfl | h
    ·exact ⟨zZ, Nat.le_of_ble_eq_true hb, hc⟩
    ·obtain ⟨h1, h2⟩ := auV h; exact ⟨zM _ h1, h2⟩
   ·obtain ⟨h1, h2⟩ := auV h; exact ⟨zM _ h1, h2⟩
  ·cases h
theorem SkInv.keep {ρ ρ' : Nat → Nat} {Hd new : Heap} {w w' : World} {Hs : Heap} {sk : List (Nat × Nat)} {base : Nat} {us : List Out} {ls : Nat → Bool} {i : Nat} (h : SkInv C ρ Hd w Hs sk base us ls) (he : Ext C ρ Hd w ρ' (new ++ Hd) w')
  (hb : ∀ k ∈ Hd.keys, w'.heap[ρ k]? = w.heap[ρ k]?) (hi : ∀ K k, (K, k) ∈ sk → K - base = i → us[i]? = some .skip)
  (hnew : ∀ K k e cells, (K, k) ∈ sk → Hs.find k = some (.vars e cells) → k ∈ Heap.keys new → (k, Bk.any) ∈ new ∧ ls (K - base) = false ∧ BkR C ρ' (new ++ Hd) w' (ρ' k) (.vars e cells)) : SkInv C ρ' (new ++ Hd) w' Hs sk base us (aw6 ls i) := by
 intro K k hk
 obtain ⟨h0, e, cells, h1, h2⟩ := h K k hk
 refine ⟨h0, e, cells, h1, fun hkk => ?_⟩
 have hcase : k ∈ Heap.keys new ∨ k ∈ Hd.keys := by
  simp only [Heap.keys, xH, zJ] at hkk
  exact hkk
 rcases hcase with hkk | hkk
 ·obtain ⟨g1, g2, g3⟩ := hnew K k e cells hk h1 hkk
  refine ⟨zJ.2 (Or.inl g1), Or.inr ⟨?_, g3⟩⟩
  by_cases hi' : K - base = i
  ·rw [hi']; exact Or.inr (hi K k hk hi')
  ·exact Or.inl (by unfold aw6; rw [if_neg hi']; exact g2)
 ·obtain ⟨h2, h3⟩ := h2 hkk
  have hr := (he.keys k hkk).2
  refine ⟨zJ.2 (Or.inr h2), ?_⟩
  rw [hr]
  rcases h3 with ⟨b, g1, g2, g3⟩ | ⟨g1, g2⟩
  ·exact Or.inl ⟨b, g1, by unfold aw6; split <;> first | rfl | exact g2, g3.ext he (hb k hkk)⟩
  ·refine Or.inr ⟨?_, g2.ext he (hb k hkk)⟩
   by_cases hi' : K - base = i
   ·rw [hi']; exact Or.inr (hi K k hk hi')
   ·rcases g1 with g1 | g1
    ·exact Or.inl (by unfold aw6; rw [if_neg hi']; exact g1)
    ·exact Or.inr g1
theorem AInv.step (hG : arM G) (hC : G C.w0) (hΓ : Γ.ok P G) {ρ0 : Nat → Nat} {ws : World} {σ0 : St} {base : Nat} {l pre : List Oper} {us : List Out} {f' : Nat → AV} {ls : Nat → Bool} {a : Act} {w : World}
  {i : Nat} {o : Oper} {Q : Exit → Act → World → Prop} {nx : Act → World → Prop} (hops : ops.toList = l) (hpre : ∀ (j : Nat) (p : Oper), pre[j]? = some p → l[j]? = some p)
  {Hs : Heap} {sk : List (Nat × Nat)} (hsk : SkOk sk base pre) (htr : Tr P Γ ops sk Hs (aQf pre base sk Hs σ0.H) σ0.n pre base σ0.H (agT σ0.slots) us f') (hchk : aC6 ops pre pre 0 = true) (hnd0 : σ0.H.keys.Nodup) (hbase : ∀ k ∈ σ0.H.keys, k < base) (hnext : base + pre.length ≤ σ0.next)
  (hinit : ∀ (i : Nat) (o : Oper) (e : TypeId) (zs : List AV), pre[i]? = some o → o.op = .alloc e → ae4 P e = some zs → Hs.find (base + i) = some (.vars e zs)) (hcl : aLD l ls)
  (ho : pre[i]? = some o) (hls : ls i = false) (hedge : ∀ e ∈ o.after, agY e = true → ls e.on = true) (hinv : AInv C ρ0 ws σ0 Hs sk base pre us ls a w)
  (hnx : ∀ a' w', AInv C ρ0 ws σ0 Hs sk base pre us (aw6 ls i) a' w' → nx a' w') (rnd : Option Nat) : wpOpIn (af4 rnd) 0 P ops Q i nx a w := by
 obtain ⟨ρ, Hd, hH, hm, hsl, hsz, hdf, hext, hski⟩ := hinv
 obtain ⟨u, fi, Ni, hu, htri, hst, hNi⟩ := htr.nth ho
 obtain ⟨hrd, hdst⟩ := aAA hchk ho
 rw [zv] at hrd hdst
 have hilt : i < pre.length := (zR.1 ho).1
 -- what the operation aVl
 have hread : ∀ t ∈ anJ ops o, VR C ρ Hd w (fi t) (a.tmps.getD t undef) := by
  intro t ht
  have hc := hrd t ht
  apply hsl t
  rcases htri.slot t with ⟨j, p, v, h1, h2, h3, h4, h5⟩ | ⟨h1, h2⟩
  ·have hji : j < i := by
    have := (zR.1 h1).1
    simp at this; omega
   rw [yw, if_pos hji] at h1 h2
   have h7 : agA o j = true := by
    have h7 := an9 hc h1 h3
    rw [zv] at h7
    rcases h7 with h7 | h7
    ·exact h7.2
    ·omega
   obtain ⟨e, he1, he2, he3⟩ := ahN h7
   exact Or.inl ⟨j, p, v, h1, h2, h3, h4, by rw [← he3]; exact hedge e he1 he2, h5⟩
  ·refine Or.inr ⟨fun j p hp hd hlt => ?_, h2⟩
   have h6 := an9 hc hp hd
   rw [zv] at h6
   rcases h6 with ⟨h6, _⟩ | ⟨_, h6⟩
   ·exact absurd hlt (h1 j p (by rw [yw, if_pos h6]; exact hp) hd)
   ·obtain ⟨ed, d1, d2, d3⟩ := ahN h6
    cases hb : ls j with
    | false => rfl
    | true =>
     have := hcl _ _ (hpre _ _ hp) hb ed d1 d2
     rw [d3, hls] at this
     cases this
 -- the keys of the new blocks
 have hnewk : ∀ (j : Nat) (v : Out), us[j]? = some v → ∀ x ∈ v.new, x.1 = base + j := by
  intro j v hj x hx
  have hjl : j < pre.length := by have := (zR.1 hj).1; rw [htr.length] at this; exact this
  obtain ⟨v', fj, _, h1, _, h3, _⟩ := htr.nth (i := j) (o := pre[j]) (by simp [hjl])
  rw [hj] at h1
  injection h1 with h1
  subst h1
  cases v with
  | ran r new =>
   rcases h3.2 with ⟨_, h3⟩ | ⟨_, _, _, _, _, rfl⟩
   ·exact asR h3 x hx
   ·simp only [Out.new, ya] at hx; subst hx; rfl
  | skip => cases hx
  | st k b => cases hx
 have hKn : base + i ∉ Hd.keys := by
  intro hk
  obtain ⟨x, hx, e⟩ := zN.1 hk
  rcases (hH x).1 hx with h | ⟨j, v, h1, h2, h3⟩
  ·have := hbase x.1 (zN.2 ⟨x, h, rfl⟩); omega
  ·have := hnewk j v h1 x h3
   have : j = i := zc
   subst this
   rw [hls] at h2; cases h2
 -- what holds behind it
 have done : ∀ (v : Value) (ρ' : Nat → Nat) (w' : World), MRel C ρ' (u.new ++ Hd) σ0.next w' → Ext C ρ Hd w ρ' (u.new ++ Hd) w' → VR C ρ' (u.new ++ Hd) w' u.av v → SkInv C ρ' (u.new ++ Hd) w' Hs sk base us (aw6 ls i) → AInv C ρ0 ws σ0 Hs sk base pre us (aw6 ls i) (a.put o.dst v) w' := by
  intro v ρ' w' hm' he hv hsk'
  refine ⟨ρ', u.new ++ Hd, fun x => ?_, hm', fun t x hx => ?_, by rw [aSx]; exact hsz, by rw [aMz]; exact hdf.mono he.data he.size, hext.trans he, hsk'⟩
  ·rw [zJ, hH]
   constructor
   ·rintro (h | h | ⟨j, v, h1, h2, h3⟩)
    ·exact Or.inr ⟨i, u, hu, by simp [aw6], h⟩
    ·exact Or.inl h
    ·exact Or.inr ⟨j, v, h1, by unfold aw6; split <;> first | rfl | exact h2, h3⟩
   ·rintro (h | ⟨j, v, h1, h2, h3⟩)
    ·exact Or.inr (Or.inl h)
    ·by_cases hj : j = i
     ·subst hj; rw [hu] at h1; injection h1 with h1; subst h1; exact Or.inl h3
     ·exact Or.inr (Or.inr ⟨j, v, h1, by unfold aw6 at h2; rwa [if_neg hj] at h2, h3⟩)
  ·rw [aTb]
   rcases hx with ⟨j, p, v', h1, h2, h3, h4, h5, h6⟩ | ⟨h1, h2⟩
   ·by_cases hj : j = i
    ·subst hj
     rw [ho] at h1; injection h1 with h1; subst h1
     rw [hu] at h2; injection h2 with h2; subst h2
     rw [if_pos ⟨h3, by rw [hsz]; exact h4⟩, h6]
     exact hv
    ·rw [if_neg]
     ·exact he.vr (hsl t x (Or.inl ⟨j, p, v', h1, h2, h3, h4, by unfold aw6 at h5; rwa [if_neg hj] at h5, h6⟩))
     ·rintro ⟨hd, _⟩
      have := aAC (hdst t hd) h1 h3
      omega
   ·rw [if_neg]
    ·exact he.vr (hsl t x (Or.inr ⟨fun j p hp hd hlt => by
      have := h1 j p hp hd hlt
      unfold aw6 at this
      split at this
      ·cases this
      ·exact this, h2⟩))
    ·rintro ⟨hd, hlt⟩
     have := h1 i o ho hd (by rw [← hsz]; exact hlt)
     simp [aw6] at this
 have hoi : ops[i]? = some o := by
  have := hpre i o ho
  rw [← hops, yX] at this
  exact this
 unfold wpOpIn
 rw [hoi]
 simp only
 have hyield : ∀ (j t : Nat) (b : Bool), adB ops j = some t → fi t = .d .bool b → t ∈ anJ ops o → yielded ops a.tmps j = some b := by
  intro j t b ht hf hr
  have := hread t hr
  rw [hf] at this
  have e := agX this
  rw [zI] at e
  unfold yielded
  unfold adB at ht
  rw [ht]
  cases hg : a.tmps[t]? with
  | none => rw [hg] at e; cases e
  | some v => rw [hg] at e; simp at e; subst e; simp [hg]
 cases u with
 | skip =>
  obtain ⟨j, want, t, hg, ht, hor⟩ := hst
  have hr := aq2 hg ht
  rw [if_neg]
  ·exact ⟨fun _ _ => trivial, hnx _ _ (done undef ρ w hm (Ext.refl _ _ _ _) .und (hski.keep (new := []) (Ext.refl _ _ _ _) (fun _ _ => rfl) (fun _ _ _ _ => hu) (fun _ _ _ _ _ _ h => by cases h)))⟩
  ·rcases hor with hf | hf
   ·rw [show Region.wanted o (yielded ops a.tmps) = false by simp [Region.wanted, hg, hyield j t _ ht hf hr]]
    simp
   ·have := hread t hr
    rw [hf] at this
    have e : a.tmps.getD t undef = undef := by generalize a.tmps.getD t undef = v at this; cases this; rfl
    rw [zI] at e
    have hy : yielded ops a.tmps j = none := by
     unfold yielded
     unfold adB at ht
     rw [ht]
     simp only [zP]
     cases hg : a.tmps[t]? with
     | none => rfl
     | some v => rw [hg] at e; simp at e; rw [e]; rfl
    rw [show Region.wanted o (yielded ops a.tmps) = false by simp [Region.wanted, hg, hy]]
    simp
 | st k b =>
  obtain ⟨hw, hsg, t, pa, px, hop, hl⟩ := hst
  rw [if_pos]
  ·have hval : ∀ x ∈ o.op.operands, VR C ρ Hd w (aEF fi x) (a.eval x) := by
    intro x hx
    cases x with
    | tmp t => exact hread t (awD (au4 (by simpa using hx)))
    | const v => exact amK v
    | func f => exact .fn .nil .nil
    | global g => exact .no
   have hva := hval pa (by rw [hop]; simp [Op.operands])
   have hvx := hval px (by rw [hop]; simp [Op.operands])
   have hmem := aFv hsg
   obtain ⟨_, e0, cells0, hf0, hcond⟩ := hski _ _ hmem
   have hidx : base + i - base = i := zc
   rw [hidx] at hcond
   unfold stB at hl
   split at hl
   ·rename_i k' off hpa
    split at hl
    ·rename_i hbq
     have hbq := aaM hbq
     subst hbq
     split at hl
     ·rename_i e cells cs n hf hcs hsz'
      rw [hf0] at hf
      injection hf with hf
      injection hf with hf1 hf2
      subst hf1; subst hf2
      split at hl
      ·rename_i hc
       cases hl
       simp only [zw] at hc
       rw [hpa] at hva
       generalize hvp : a.eval pa = vp at hva
       cases hva with
       | ptr hkk =>
        obtain ⟨hany, hor⟩ := hcond hkk
        have hold : BkR C ρ Hd w (ρ k') (.vars e0 cells0) := by
         rcases hor with ⟨b', _, g, _⟩ | ⟨_, g⟩
         ·rw [hls] at g; cases g
         ·exact g
        obtain ⟨w', hrun, hm', hext', hnew, hoth⟩ := aOC (P := P) hm hany hold hcs hsz' (aaM hc.1) (Nat.le_of_ble_eq_true hc.2) hvx
        refine abV (fun c e => by rw [hop] at e; cases e) ?_
        unfold Oper.wp
        rw [show (execOp a.eval o).run P w = .ok .skip w' by simp [execOp, hop, hvp, hrun]]
        refine hnx _ _ (done undef ρ w' hm' hext' .und ?_)
        intro K' k2 hk2
        obtain ⟨g0, e1, cells1, g1, g23⟩ := hski K' k2 hk2
        refine ⟨g0, e1, cells1, g1, fun hin => ?_⟩
        obtain ⟨g2, g3⟩ := g23 hin
        refine ⟨g2, ?_⟩
        by_cases hKi : K' - base = i
        ·have hKe : K' = base + i := zc
         subst hKe
         have := hsk.get _ _ hk2
         rw [hsg] at this
         injection this with this
         subst this
         rw [hidx]
         exact Or.inl ⟨_, hu, by simp [aw6], hnew⟩
        ·have hne : k2 ≠ k' := by
          intro e
          subst e
          exact hKi (by rw [aVg hsk.nodup hk2 hmem]; exact hidx)
         have hheap : w'.heap[ρ k2]? = w.heap[ρ k2]? := hoth _ (fun e => hne (hm.inj _ (aaO g2) _ hkk e))
         rcases g3 with ⟨b, c1, c2, c3⟩ | ⟨c1, c2⟩
         ·exact Or.inl ⟨b, c1, by unfold aw6; rw [if_neg hKi]; exact c2, c3.ext hext' hheap⟩
         ·exact Or.inr ⟨by unfold aw6; rw [if_neg hKi]; exact c1, c2.ext hext' hheap⟩
      ·cases hl
     ·cases hl
    ·cases hl
   ·cases hl
  ·rcases hw with hg | ⟨j, want, t, hg, ht, hf⟩
   ·simp [Region.wanted, hg]
   ·simp [Region.wanted, hg, hyield j t _ ht hf (aq2 hg ht)]
 | ran r new =>
  obtain ⟨hw, hl⟩ := hst
  have hnst : ∀ K k, (K, k) ∈ sk → K - base = i → us[i]? = some .skip := by
   intro K k hk hKi
   exfalso
   obtain ⟨o', t', a', x', g1, g2⟩ := hsk.op K k hk
   rw [hKi, ho] at g1
   injection g1 with g1
   subst g1
   rcases hl with ⟨_, hl⟩ | ⟨e, zs, ho', _⟩
   ·exact aQO g2 hl
   ·rw [ho'] at g2; cases g2
  rw [if_pos]
  ·rcases hl with ⟨hskf, hl⟩ | ⟨e, zs, hoe, hz, rfl, rfl⟩
   ·classical
    generalize hH0 : aQf pre base sk Hs σ0.H (base + i) Ni = H0 at hl
    rw [aS3, xa, ho] at hH0
    have hlate : ∀ k b, (k, b) ∈ olds Hs (afC pre base i sk) → k ∈ Hd.keys → (k, Bk.any) ∈ Hd ∧ (∃ e cells, b = .vars e cells) ∧ BkR C ρ Hd w (ρ k) b := by
     intro k b hb hkk
     obtain ⟨⟨K, hK⟩, hf⟩ := olds_mem.1 hb
     obtain ⟨hKs, o2, c1, c2⟩ := aiQ hK
     obtain ⟨_, e, cells, hf', g⟩ := hski K k hKs
     rw [hf] at hf'
     injection hf' with hf'
     obtain ⟨g1, g2⟩ := g hkk
     refine ⟨g1, ⟨e, cells, hf'⟩, ?_⟩
     obtain ⟨ed, d1, d2, d3⟩ := ahN c2
     rcases g2 with ⟨b', _, g4, _⟩ | ⟨_, g3⟩
     ·have := hcl _ _ (hpre _ _ c1) g4 ed d1 d2
      rw [d3, hls] at this
      cases this
     ·rw [hf']; exact g3
    have hkeq : ∀ k, k ∈ Hd.keys ↔ k ∈ (aa6 Hd (olds Hs (afC pre base i sk))).keys := fun k => by rw [aaX]
    obtain ⟨hm1, hx1⟩ := hm.reveal (H' := aa6 Hd (olds Hs (afC pre base i sk))) hkeq (fun k e t l hk => acI hk (fun b' hb' => by
      have := Heap.mem_unique hm.nodup hk (hlate k b' hb' (aaO hk)).1
      cases this)) (by rw [aaX]; exact hm.nodup) (fun k b hb => by
      rcases aeX hm.nodup hb with h | ⟨_, h⟩
      ·exact (hlate k b h ((hkeq k).2 (aaO hb))).2.2
      ·exact hm.mem k b h)
    have hsub : ∀ x ∈ H0, x ∈ aa6 Hd (olds Hs (afC pre base i sk)) := by
     rintro ⟨k, b⟩ hx
     rw [← hH0] at hx
     rcases zJ.1 hx with hx | hx
     ·obtain ⟨p1, p2, p3, p4⟩ := auV hx
      have p5 : (k, b) ∈ Hd := by
       rcases hNi _ p1 with h | ⟨j, v, h1, h2⟩
       ·exact (hH _).2 (Or.inl h)
       ·refine (hH _).2 (Or.inr ⟨j, v, h1, ?_, h2⟩)
        have hkj : k = base + j := hnewk j v h1 _ h2
        obtain ⟨ed, d1, d2, d3⟩ := ahN p3
        have := hedge ed d1 d2
        rw [d3] at this
        rw [show k - base = j by omega] at this
        exact this
      refine acI p5 (fun b' hb' => ?_)
      obtain ⟨⟨K, hK⟩, _⟩ := olds_mem.1 hb'
      have p4 : aqK sk k = false := p4
      rw [skHas_iff.2 ⟨K, (aiQ hK).1⟩] at p4
      cases p4
     have hkk : k ∈ σ0.H.keys := by have := aaO hx; rwa [aaX] at this
     have hkd : k ∈ Hd.keys := by
      obtain ⟨y, hy, e⟩ := zN.1 hkk
      exact zN.2 ⟨y, (hH y).2 (Or.inl hy), e⟩
     by_cases hin : ∃ b', (k, b') ∈ olds Hs (afC pre base i sk)
     ·obtain ⟨b', hb'⟩ := hin
      have hu : ∀ b'', (k, b'') ∈ olds Hs (afC pre base i sk) → b'' = b' := fun b'' hb'' => by
       have h1 := (olds_mem.1 hb').2
       rw [(olds_mem.1 hb'').2] at h1
       injection h1
      have h1 : (k, b') ∈ aa6 σ0.H (olds Hs (afC pre base i sk)) := ajE hkk hb' hu
      have hnd0 : (aa6 σ0.H (olds Hs (afC pre base i sk))).keys.Nodup := by rw [aaX]; exact hnd0
      rw [Heap.mem_unique hnd0 hx h1]
      exact ajE hkd hb' hu
     ·have hno : ∀ b', (k, b') ∉ olds Hs (afC pre base i sk) := fun b' hb' => hin ⟨b', hb'⟩
      rcases aeX hnd0 hx with h | ⟨_, h⟩
      ·exact absurd h (hno _)
      ·exact acI ((hH _).2 (Or.inl h)) hno
    have hcong : evM P Γ (base + i) H0 (aEF fi) o = evM P Γ (base + i) H0 (fun x => if x ∈ o.op.operands then aEF fi x else .no) o := aQQ (fun x hx => by rw [if_pos hx])
    rw [hcong] at hl
    refine abV (aQP hl) ?_
    refine aTY (H := aa6 Hd (olds Hs (afC pre base i sk))) hsub hm1 (fun h => hKn ((hkeq _).2 h)) zc hΓ (hG _ _ hm.below hC) (fun x => ?_) hl (fun v ρ' w' hm' he hv hbl => ?_)
    ·refine hx1.vr ?_
     show VR C ρ Hd w (if x ∈ o.op.operands then aEF fi x else .no) (a.eval x)
     split
     ·rename_i hx
      cases x with
      | tmp t => exact hread t (awD (au4 (by simpa using hx)))
      | const v => exact amK v
      | func f => exact .fn .nil .nil
      | global g => exact .no
     ·exact .no
    ·have hmk : ∀ k, k ∈ Heap.keys (new ++ aa6 Hd (olds Hs (afC pre base i sk))) ↔ k ∈ Heap.keys (new ++ Hd) := fun k => by
      have := hkeq k
      simp only [Heap.keys, xH, zJ] at this ⊢
      rw [this]
     have hndn : Heap.keys (new ++ Hd) = Heap.keys (new ++ aa6 Hd (olds Hs (afC pre base i sk))) := by
      have := aaX Hd (olds Hs (afC pre base i sk))
      simp only [Heap.keys, xH] at this ⊢
      rw [this]
     obtain ⟨hm2, hx2⟩ := hm'.reveal (H' := new ++ Hd) hmk (fun k e t l hk => by
       rcases zJ.1 hk with h | h
       ·exact zJ.2 (Or.inl h)
       ·rcases aeX hm.nodup h with h1 | ⟨_, h1⟩
        ·obtain ⟨_, ⟨e', cells, hb⟩, _⟩ := hlate k _ h1 ((hkeq k).2 (aaO h)); cases hb
        ·exact zJ.2 (Or.inr h1)) (by rw [hndn]; exact hm'.nodup) (fun k b hb => by
       rcases zJ.1 hb with h | h
       ·exact hm'.mem k b (zJ.2 (Or.inl h))
       ·by_cases hin : ∃ b', (k, b') ∈ olds Hs (afC pre base i sk)
        ·obtain ⟨b', hb'⟩ := hin
         obtain ⟨g1, ⟨e', cells, rfl⟩, _⟩ := hlate k _ hb' (aaO h)
         rw [Heap.mem_unique hm.nodup h g1]
         exact (hm'.mem k _ (zJ.2 (Or.inr (ajE (aaO h) hb' (fun b'' hb'' => by
          have h1 := (olds_mem.1 hb').2
          rw [(olds_mem.1 hb'').2] at h1
          injection h1))))).block
        ·exact hm'.mem k b (zJ.2 (Or.inr (acI h (fun b' hb' => hin ⟨b', hb'⟩)))))
     have he2 : Ext C ρ Hd w ρ' (new ++ Hd) w' := hx1.trans (he.trans hx2)
     exact hnx _ _ (done v ρ' w' hm2 he2 (hx2.vr hv) (hski.keep he2 (fun k hk => hbl.block _ (hm.key_lt hk)) hnst (fun K k e cells hk _ hkn => by
      exfalso
      obtain ⟨x, hx, e⟩ := zN.1 hkn
      have := asR hl x hx
      rw [e] at this
      rw [skHas_iff.2 ⟨K, this ▸ hk⟩] at hskf
      cases hskf)))
   ·refine abV (fun c e0 => by rw [hoe] at e0; cases e0) ?_
    obtain ⟨z, hz1, hz2, hz3⟩ := af5 (C := C) (ρ := ρ) (H := Hd) (w := w) (P := P) hz
    obtain ⟨hm', hext'⟩ := hm.alloc (K := base + i) (c := z.cells) (e := e) (blk := .any) hKn zc (fun ρ' H' w' _ hw' => ⟨_, hw'⟩)
    unfold Oper.wp
    rw [show (execOp a.eval o).run P w = .ok (.value (.pointer (some ⟨w.heap.size, 0, none⟩))) (w.alloc (.cells z.cells e)) by
     simp [execOp, hoe, Instr.alloc, hz1, newVar]; rfl]
    refine hnx _ _ (done _ _ _ hm' hext' ?_ (hski.keep hext' (fun k hk => Below.heap_alloc _ _ _ (hm.key_lt hk)) hnst (fun K k e' cells hk hfk hkn => ?_)))
    ·have : VR C (upd ρ (base + i) w.heap.size) ((base + i, .any) :: Hd) (w.alloc (.cells z.cells e)) (.ptr (base + i) 0) (.pointer (some ⟨upd ρ (base + i) w.heap.size (base + i), 0, none⟩)) := .ptr zZ
     rw [abG] at this
     exact this
    ·have hke : k = base + i := by simpa [Heap.keys, Out.new] using hkn
     subst hke
     obtain ⟨g0, _⟩ := hski K _ hk
     obtain ⟨o', t', a', x', g1, g2⟩ := hsk.op K _ hk
     refine ⟨ya.2 rfl, ?_, ?_⟩
     ·obtain ⟨o2, c1, c2⟩ := hsk.laid K _ hk (xk _ _)
      obtain ⟨ed, d1, d2, d3⟩ := ahN c2
      cases hb : ls (K - base) with
      | false => rfl
      | true =>
       have := hcl _ _ (hpre _ _ c1) hb ed d1 d2
       rw [d3, xa, hls] at this
       cases this
     ·rw [abG]
      have hfi := hinit i o e zs ho hoe hz
      rw [hfi] at hfk
      injection hfk with hfk
      injection hfk with hf1 hf2
      subst hf1; subst hf2
      exact ⟨z.cells, by show (w.heap.push _)[w.heap.size]? = _; simp, hz2.imp (fun _ _ => hext'.vr), hz3⟩
  ·rcases hw with hg | ⟨j, want, t, hg, ht, hf⟩
   ·simp [Region.wanted, hg]
   ·simp [Region.wanted, hg, hyield j t _ ht hf (aq2 hg ht)]
theorem aKs (hG : arM G) (hC : G C.w0) (hΓ : Γ.ok P G) {call : anA} (hcall : CallSat P G call) {Q : Exit → Act → World → Prop} {K : St → Prop} {l : List Oper} {m : Nat} (hops : ops.toList = l)
  (hed : amM l 0 = true) (htail : avM m (aeC l []) 0 = true) : ∀ (rest : List Oper) (j fuel : Nat) (listed : Array Bool) {ρ : Nat → Nat} {σ : St} {a : Act} {w : World}, l.drop j = rest → m ≤ j → rest.length ≤ fuel → listed.size = ops.size →
   (∀ i, i < ops.size → listed.getD i false = decide (i < j)) → SRel C ρ σ a w → ae6 P Γ call ops rest σ K → (∀ a' w', Reach C σ ρ w K a' w' → Q .normal a' w') → ∀ rnd : Option Nat, wpAnyIn (af4 rnd) 0 P .any ops Q fuel listed a w
 | rest, j, fuel, listed, ρ, σ, a, w, hd, hm, hf, hsz, hlist, hs, h, hQ, rnd => by
  have hlen : l.length = ops.size := by rw [← hops]; simp
  have hlt : ∀ i, i < ops.size → listed.getD i true = decide (i < j) := by
   intro i hi
   have := hlist i hi
   rw [zI] at this ⊢
   rw [xC zc] at this ⊢
   simpa using this
  have hcl : aLD l (fun i => listed.getD i false) := by
   intro i o ho hi e he hb
   have hio : i < ops.size := by rw [← hlen]; exact (zR.1 ho).1
   have hi' : listed.getD i false = true := hi
   rw [hlist i hio] at hi'
   have hlt' := agD hed ho e he hb
   rw [zv] at hlt'
   show listed.getD e.on false = true
   rw [hlist _ zc]
   simp at hi' ⊢
   omega
  have hready : ∀ i ∈ Region.ready .any ops listed, i = j ∧ i < ops.size := by
   intro i hi
   unfold Region.ready at hi
   rw [wI] at hi
   obtain ⟨h1, h2⟩ := hi
   have hi' : i < ops.size := by simpa using h1
   simp only [zw, zT] at h2
   rw [hlt i hi'] at h2
   simp at h2
   obtain ⟨h3, h4⟩ := h2
   refine ⟨?_, hi'⟩
   rcases zr j i with hji | hji
   ·exfalso
    rw [xC hi'] at h4
    simp only [wG, vG, xy] at h4
    have ho : l[i]? = some ops[i] := by rw [← hops]; simp [hi']
    obtain ⟨x, hx⟩ : ∃ x, (aeC l [])[i]? = some x := ⟨_, zS (by rw [(ahM l []).2]; simp; omega)⟩
    have hxe := an8 htail hx zc
    rw [zv] at hxe
    have := aAx hcl hed i _ ho (fun e he hb => by
     have := h4 e he
     unfold agY at hb
     rw [hb] at this
     simpa using this) x j hx (by rw [hxe, Nat.testBit_two_pow_sub_one]; simpa using hji)
    have hjo : j < ops.size := zc
    have this' : listed.getD j false = true := this
    rw [hlist j hjo] at this'
    simp at this'
   ·omega
  cases rest with
  | nil =>
   have hj : ops.size ≤ j := by
    rw [← hlen]
    exact List.drop_eq_nil_iff.1 hd
   have hnil : Region.ready .any ops listed = [] := by
    apply List.eq_nil_iff_forall_not_mem.2
    intro i hi
    have := hready i hi
    omega
   have hend := hQ a w ⟨ρ, σ, h, hs, Fr.refl _ _ _ _ _, zq _⟩
   cases fuel with
   | zero => exact ⟨hnil, hend⟩
   | succ fuel => exact ⟨fun _ => hend, fun i hi => by rw [hnil] at hi; cases hi⟩
  | cons o rest =>
   obtain ⟨fuel, rfl⟩ : ∃ f, fuel = f + 1 := ⟨fuel - 1, by simp at hf; omega⟩
   have hjl : j < l.length := by
    rcases zr j l.length with h | h
    ·exact h
    ·rw [List.drop_eq_nil_iff.2 h] at hd; cases hd
   have hlj : l[j]? = some o := by
    have := congrArg (fun x => x[0]?) hd
    simpa using this
   have hoj : ops[j]? = some o := by rw [← hops, yX] at hlj; exact hlj
   have hdr : l.drop (j + 1) = rest := by
    rw [yu hjl] at hd
    injection hd
   refine ⟨fun hnil => ?_, fun i hi => ?_⟩
   ·exfalso
    have hjin : j ∈ Region.ready .any ops listed := by
     unfold Region.ready
     rw [wI]
     refine ⟨by simp; omega, ?_⟩
     rw [hlt j zc, hoj]
     simp only [wG, vG, zw]
     refine ⟨by simp, ?_⟩
     rw [xy]
     intro e he
     cases hb : Region.binds .any e with
     | false => rfl
     | true =>
      have := agD hed hlj e he hb
      rw [zv] at this
      simp [hlist e.on zc, this]
    rw [hnil] at hjin
    cases hjin
   ·obtain ⟨rfl, _⟩ := hready i hi
    unfold wpOpIn
    rw [hoj]
    simp only
    refine aw0 hG hC hΓ hcall hs h ?_ rnd
    rintro a' w' ⟨ρ', σ', h2, h3, h4, h5⟩
    refine aKs hG hC hΓ hcall hops hed htail rest (i + 1) _ _ hdr zc (by simp at hf; omega) (by simp [hsz]) (fun k hk => ?_) h3 h2 (fun a'' w'' hr => hQ a'' w'' (hr.trans h4 h5)) rnd
    rw [zI]
    by_cases hki : k = i
    ·subst hki
     rw [wV zc]
     simp
    ·rw [xD (Ne.symm hki), ← zI, hlist k hk]
     congr 1
     apply propext
     omega
 termination_by rest => rest.length
theorem aUX {K : Nat} {H : Heap} {arg : Operand → AV} {o : Oper} {r : AV} {new : List (Nat × Bk)} (h : (evM P Γ K H arg o).Leaf (r, new)) : new.length ≤ 1 := by
 unfold evM at h
 split at h
 ·obtain ⟨_, _, h⟩ := T.Leaf.bind h; cases h; exact ye _
 ·split at h <;> cases h; exact zq _
 ·split at h <;> cases h; exact zq _
 ·split at h <;> first | (cases h; done) | skip
  split at h <;> first | (cases h; done) | skip
  split at h <;> first | (cases h; done) | skip
  split at h <;> first | (cases h; done) | skip
  split at h <;> first | (cases h; done) | skip
  split at h
  ·cases h; exact zq _
  ·cases h; exact ye _
 ·split at h
  ·unfold arS at h
   split at h <;> first | (cases h; done) | skip
   split at h <;> first | (cases h; done) | skip
   cases h; exact ye _
  ·obtain ⟨_, _, h⟩ := T.Leaf.bind h; cases h; exact ye _
 ·split at h <;> first | (cases h; done) | skip
  split at h <;> first | (cases h; done) | skip
  unfold aQc at h
  split at h <;> first | (cases h; done) | skip
  split at h <;> first | (cases h; done) | skip
  ·unfold aQb at h
   split at h <;> first | (cases h; done) | skip
   split at h <;> first | (cases h; done) | skip
   cases h with
   | need _ h =>
    cases h; exact zq _
  split at h <;> first | (cases h; done) | skip
  split at h <;> first | (cases h; done) | skip
  cases h with
  | need _ h => cases h; exact zq _
 ·split at h <;> first | (cases h; done) | skip
  split at h <;> first | (cases h; done) | skip
  split at h <;> first | (cases h; done) | skip
  split at h <;> first | (cases h; done) | skip
  cases h with
  | need _ h => rw [show new = [] from aC3 h]; exact ye _
 ·obtain ⟨_, _, h⟩ := T.Leaf.bind h; cases h; exact ye _
theorem MRel.perm {ρ : Nat → Nat} {H H' : Heap} {next : Nat} {w : World} (hm : MRel C ρ H next w) (h : ∀ x, x ∈ H ↔ x ∈ H') (hn : H'.keys.Nodup) : MRel C ρ H' next w ∧ Ext C ρ H w ρ H' w := by
 have hk : ∀ k, k ∈ H.keys ↔ k ∈ H'.keys := by
  intro k
  simp only [Heap.keys, zN, h]
 have hext : Ext C ρ H w ρ H' w := ⟨fun b ⟨h1, h2, h3⟩ => ⟨⟨h1, h2, fun k hk' => h3 k ((hk k).2 hk')⟩, rfl⟩, fun k hk' => ⟨(hk k).1 hk', rfl⟩, fun k e t l hm => ⟨l, (h _).1 hm, zq _, fun c fr hc => ⟨c, fr, hc, rfl⟩⟩, zq _⟩
 exact ⟨⟨hm.below, hn, fun k hk' => hm.lt k ((hk k).2 hk'), fun k hk1 k' hk2 => hm.inj k ((hk k).2 hk1) k' ((hk k').2 hk2), fun k hk' => hm.low k ((hk k).2 hk'), fun k b hb => (hm.mem k b ((h _).2 hb)).ext hext rfl⟩, hext⟩
theorem aCo {sk : List (Nat × Nat)} {Hs : Heap} : ∀ (l : List Oper) (K : Nat) (H0 : Nat → Heap → Heap) (σ : St) (s : List (Nat × Bk)) (z : St × List (Nat × Bk)), (aH1 P Γ ops sk Hs H0 l K σ s).Leaf z → σ.H.keys.Nodup → (∀ k ∈ σ.H.keys, k < K) → z.1.H.keys.Nodup
 | [], K, H0, σ, s, z, h, hn, _ => by cases h; exact hn
 | o :: rest, K, H0, σ, s, z, h, hn, hk => by
  have key : ∀ (σ1 : St) (u : Out) (s' : List (Nat × Bk)), σ1.H = σ.H → (∀ x ∈ u.new, x.1 = K) → u.new.length ≤ 1 → (aH1 P Γ ops sk Hs H0 rest (K + 1) (σ1.step o u) s').Leaf z → z.1.H.keys.Nodup := by
   intro σ1 u s' e1 hu hl hlf
   have hH : (σ1.step o u).H = u.new ++ σ.H := by unfold St.step; rw [St.put_H]; simp only [e1]
   refine aCo rest (K + 1) H0 _ _ z hlf ?_ ?_
   ·rw [hH]
    match hun : u.new, hl with
    | [], _ => exact hn
    | [x], _ =>
     refine yL.2 ⟨fun hm => ?_, hn⟩
     have h1 : x.1 < K := hk _ hm
     have := hu x (by rw [hun]; simp)
     omega
   ·rw [hH]
    intro k hkm
    obtain ⟨x, hx, e⟩ := zN.1 hkm
    subst e
    rcases zJ.1 hx with hx | hx
    ·have := hu x hx; omega
    ·have := hk x.1 (zN.2 ⟨x, hx, rfl⟩); omega
  have run : ∀ (σ1 : St) (u : Out) (s' : List (Nat × Bk)), σ1.H = σ.H → (evS P Γ sk Hs K (H0 K σ.H) σ1.eval o).Leaf u → (aH1 P Γ ops sk Hs H0 rest (K + 1) (σ1.step o u) s').Leaf z → z.1.H.keys.Nodup := by
   intro σ1 u s' e h1 h2
   unfold evS at h1
   split at h1
   ·split at h1
    ·obtain ⟨b, _, h4⟩ := T.Leaf.bind h1
     cases h4
     exact key σ1 _ s' e (by intro x hx; cases hx) (ye _) h2
    ·cases h1
   ·split at h1
    ·obtain ⟨y, h3, h4⟩ := T.Leaf.bind h1
     cases h4
     exact key σ1 (.ran y.1 y.2) s' e (asR h3) (aUX h3) h2
    ·split at h1
     ·split at h1
      ·cases h1
       exact key σ1 _ s' e (by intro x hx; simp only [Out.new, ya] at hx; subst hx; rfl) (zq _) h2
      ·cases h1
     ·cases h1
  have skp : ∀ (σ1 : St) (s' : List (Nat × Bk)), σ1.H = σ.H → (aH1 P Γ ops sk Hs H0 rest (K + 1) (σ1.step o .skip) s').Leaf z → z.1.H.keys.Nodup :=
   fun σ1 s' e h2 => key σ1 .skip s' e (by intro x hx; cases hx) (ye _) h2
  simp only [aH1] at h
  split at h
  ·obtain ⟨y, h1, h2⟩ := T.Leaf.bind h
   exact run σ y _ rfl h1 h2
  ·rename_i j want hg
   split at h
   ·rename_i t ht
    split at h
    ·cases h with
     | t h =>
      cases want with
      | true => obtain ⟨y, h1, h2⟩ := T.Leaf.bind h; exact run _ y _ (St.put_H _ _ _) h1 h2
      | false => exact skp _ _ (St.put_H _ _ _) h
     | f h =>
      cases want with
      | true => exact skp _ _ (St.put_H _ _ _) h
      | false => obtain ⟨y, h1, h2⟩ := T.Leaf.bind h; exact run _ y _ (St.put_H _ _ _) h1 h2
    ·exact skp _ _ rfl h
    ·cases h
   ·cases h
theorem awO {l : List Nat} (h : az0 l = true) : l.Nodup := by
 induction l with
 | nil => exact List.nodup_nil
 | cons k r ih =>
  simp only [az0, zw, zT] at h
  exact yL.2 ⟨by have := h.1; simpa using this, ih h.2⟩
theorem veil_mem {sk : List (Nat × Nat)} {H : Heap} {k : Nat} {b : Bk} : (k, b) ∈ veil sk H ↔ ∃ b', (k, b') ∈ H ∧ b = (match aqK sk k with | true => b'.veil | false => b') := by
 induction H with
 | nil => simp [veil]
 | cons x r ih =>
  obtain ⟨j, y⟩ := x
  simp only [veil, zx, ih]
  constructor
  ·rintro (e | ⟨b', h1, h2⟩)
   ·injection e with e1 e2; subst e1; exact ⟨y, Or.inl rfl, e2⟩
   ·exact ⟨b', Or.inr h1, h2⟩
  ·rintro ⟨b', h1 | h1, h2⟩
   ·injection h1 with e1 e2; subst e1; subst e2; exact Or.inl (by rw [h2] <;> cases aqK sk k <;> rfl)
   ·exact Or.inr ⟨b', h1, h2⟩
theorem ahG (sk : List (Nat × Nat)) (H : Heap) : (veil sk H).keys = H.keys := by
 induction H with
 | nil => rfl
 | cons x r ih => obtain ⟨j, y⟩ := x; simp only [veil, Heap.keys, vE] at ih ⊢; rw [ih]
theorem aR2 (H : Heap) : veil [] H = H := by
 induction H with
 | nil => rfl
 | cons x r ih => obtain ⟨j, y⟩ := x; simp only [veil, aqK, ih]
theorem aR3 (sk : List (Nat × Nat)) (H : Heap) : aT8 sk H = veil sk H := by
 cases sk with
 | nil => exact (aR2 H).symm
 | cons x r => rfl
theorem aFu {σ : St} {pre : List Oper} {base : Nat} {Hx : Heap} : ∀ {l : List Oper} {K : Nat} {sk : List (Nat × Nat)}, aVh σ pre base Hx l K = some sk → (∀ K' k, (K', k) ∈ sk → K ≤ K' ∧ ∃ o t a x, l[K' - K]? = some o ∧ o.op = .store t a x ∧ ∃ e cells, Hx.find k = some (.vars e cells)) ∧ (∀ K' k, (K', k) ∈ sk → aDJ sk K' = some k)
 | [], K, sk, h => by
  injection h with h
  subst h
  exact ⟨(by intro _ _ h; cases h), (by intro _ _ h; cases h)⟩
 | o :: r, K, sk, h => by
  simp only [aVh] at h
  split at h
  ·rename_i l hl
   obtain ⟨h1, h2⟩ := aFu hl
   have shift : ∀ K' k, (K', k) ∈ l → K ≤ K' ∧ ∃ o' t a x, (o :: r)[K' - K]? = some o' ∧ o'.op = .store t a x ∧ ∃ e cells, Hx.find k = some (.vars e cells) := by
    intro K' k hm
    obtain ⟨g0, o', t, a, x, g1, g2⟩ := h1 K' k hm
    refine ⟨by omega, o', t, a, x, ?_, g2⟩
    rw [show K' - K = (K' - (K + 1)) + 1 by omega]
    simpa using g1
   split at h
   ·rename_i t a x ho
    split at h
    ·rename_i k hk
     split at h
     ·rename_i e cells hfk
      injection h with h
      subst h
      refine ⟨fun K' k' hm => ?_, fun K' k' hm => ?_⟩
      ·rcases zx.1 hm with e | hm
       ·injection e with e1 e2; subst e1; subst e2
        exact ⟨zq _, o, t, a, x, by simp, ho, _, _, hfk⟩
       ·exact shift K' k' hm
      ·rcases zx.1 hm with e | hm
       ·injection e with e1 e2; subst e1; subst e2
        simp [aDJ]
       ·have := (h1 K' k' hm).1
        simp only [aDJ, aCF (show K ≠ K' by omega)]
        exact h2 K' k' hm
     ·cases h
    ·cases h
   ·injection h with h
    subst h
    exact ⟨shift, h2⟩
  ·cases h
theorem amQ : ∀ {l : List Oper} {K k : Nat}, k ∈ (agG P l K).keys → K ≤ k
 | [], _, _, h => by cases h
 | o :: r, K, k, h => by
  simp only [agG] at h
  split at h
  ·split at h
   ·rcases zx.1 h with e | h
    ·rw [e]; exact zq _
    ·have := amQ h; omega
   ·have := amQ h; omega
  ·have := amQ h; omega
theorem avF {H H' : Heap} {k : Nat} (h : k ∉ H.keys) : Heap.find (H ++ H') k = H'.find k := by
 induction H with
 | nil => rfl
 | cons x r ih =>
  obtain ⟨j, b⟩ := x
  simp only [Heap.keys, vE, zx, not_or] at h
  simp only [vH, Heap.find, aCF (Ne.symm h.1)]
  exact ih h.2
theorem aAZ {H : Heap} {e : TypeId} {zs : List AV} {o : Oper} : ∀ {l : List Oper} {K i : Nat}, l[i]? = some o → o.op = .alloc e → ae4 P e = some zs → Heap.find (agG P l K ++ H) (K + i) = some (.vars e zs)
 | [], _, _, h, _, _ => by cases h
 | p :: r, K, 0, h, ho, hz => by
  injection h with h
  subst h
  simp [agG, ho, hz, Heap.find]
 | p :: r, K, i + 1, h, ho, hz => by
  have ih := aAZ (H := H) (K := K + 1) (i := i) (l := r) (by simpa using h) ho hz
  rw [show K + (i + 1) = K + 1 + i by omega]
  simp only [agG]
  split
  ·split
   ·simp only [vH, Heap.find, aCF (show K ≠ K + 1 + i by omega)]
    exact ih
   ·exact ih
  ·exact ih
end
open Go Go.RowKit
def aJ2 (ls : Nat → Bool) : Nat → Nat
 | 0 => 0
 | k + 1 => aJ2 ls k + (if ls k then 1 else 0)
theorem aRf (ls : Nat → Bool) : ∀ n, aJ2 ls n ≤ n
 | 0 => zq _
 | n + 1 => by have := aRf ls n; simp only [aJ2]; split <;> omega
theorem aRe {ls : Nat → Bool} {i : Nat} (hi : ls i = false) : ∀ {n}, i < n → aJ2 ls n < n
 | 0, h => by omega
 | n + 1, h => by
  simp only [aJ2]
  by_cases hn : i = n
  ·subst hn
   have := aRf ls i
   rw [hi]; simp; omega
  ·have := aRe hi (n := n) zc
   split <;> omega
theorem aAw {ls : Nat → Bool} {i : Nat} : ∀ {n}, n ≤ i → aJ2 (aw6 ls i) n = aJ2 ls n
 | 0, _ => rfl
 | n + 1, h => by
  simp only [aJ2]
  rw [aAw (n := n) zc]
  simp [aw6, show ¬ n = i by omega]
theorem aLk {ls : Nat → Bool} {i : Nat} (hi : ls i = false) : ∀ {n}, i < n → aJ2 (aw6 ls i) n = aJ2 ls n + 1
 | 0, h => by omega
 | n + 1, h => by
  simp only [aJ2]
  by_cases hn : i = n
  ·subst hn
   rw [aAw (zq _), hi]
   simp [aw6]
  ·rw [aLk hi (n := n) zc]
   simp [aw6, show ¬ n = i by omega]
   omega
theorem avL {ls : Nat → Bool} {m : Nat} (h1 : ∀ i, i < m → ls i = true) (h2 : ∀ i, m ≤ i → ls i = false) : ∀ {n}, aJ2 ls n = min n m
 | 0 => by simp [aJ2]
 | n + 1 => by
  simp only [aJ2]
  rw [avL h1 h2 (n := n)]
  by_cases hn : n < m
  ·rw [h1 n hn]; simp; omega
  ·rw [h2 n zc]; simp; omega
section
variable {C : Ctx} {P : Program} {G : World → Prop} {Γ : Cons} {ops : Array Oper}
theorem aGM {ls : Nat → Bool} : ∀ {m : Nat}, (∃ i, i < m ∧ ls i = false) → ∃ i, i < m ∧ ls i = false ∧ ∀ j, j < i → ls j = true
 | 0, ⟨i, h, _⟩ => by omega
 | m + 1, ⟨i, h, hi⟩ => by
  by_cases hex : ∃ i, i < m ∧ ls i = false
  ·obtain ⟨k, h1, h2, h3⟩ := aGM hex
   exact ⟨k, by omega, h2, h3⟩
  ·refine ⟨i, h, hi, fun j hj => ?_⟩
   cases hb : ls j with
   | true => rfl
   | false => exact absurd ⟨j, by omega, hb⟩ hex
theorem aQ0 (hG : arM G) (hC : G C.w0) (hΓ : Γ.ok P G) {call : anA} (hcall : CallSat P G call) {Q : Exit → Act → World → Prop} {K : St → Prop} {ρ : Nat → Nat} {σ : St} {a : Act} {w : World}
  (hs : SRel C ρ σ a w) {sk : List (Nat × Nat)} (hskof : aVh σ (ops.toList.take (aeD (aeC ops.toList []))) σ.next (agG P (ops.toList.take (aeD (aeC ops.toList []))) σ.next ++ σ.H) (ops.toList.take (aeD (aeC ops.toList []))) σ.next = some sk) (hpre : aC6 ops (ops.toList.take (aeD (aeC ops.toList []))) (ops.toList.take (aeD (aeC ops.toList []))) 0 = true)
  (hed : amM ops.toList 0 = true) (htail : avM (aeD (aeC ops.toList [])) (aeC ops.toList []) 0 = true) (hml : aeD (aeC ops.toList []) ≤ ops.toList.length) (hsnd : az0 (sk.map (·.2)) = true) (hlaid : aAB (ops.toList.take (aeD (aeC ops.toList []))) σ.next sk = true) {z : St × List (Nat × Bk)}
  (hleaf : (aH1 P Γ ops sk (agG P (ops.toList.take (aeD (aeC ops.toList []))) σ.next ++ σ.H) (aQf (ops.toList.take (aeD (aeC ops.toList []))) σ.next sk (agG P (ops.toList.take (aeD (aeC ops.toList []))) σ.next ++ σ.H) (veil sk σ.H)) (ops.toList.take (aeD (aeC ops.toList []))) σ.next { σ with H := veil sk σ.H, next := σ.next + aeD (aeC ops.toList []) } []).Leaf z)
  (hex : ae6 P Γ call ops (ops.toList.drop (aeD (aeC ops.toList []))) (ap7 (agG P (ops.toList.take (aeD (aeC ops.toList []))) σ.next ++ σ.H) sk z) K) (hQ : ∀ a' w', Reach C σ ρ w K a' w' → Q .normal a' w') (rnd : Option Nat) :
  wpAnyIn (af4 rnd) 0 P .any ops Q ops.size (Array.replicate ops.size false) a { w with drawn := w.drawn + 1 } := by
 generalize hlg : ops.toList = l at *
 generalize hmg : aeD (aeC l []) = m at *
 have hxlt : ∀ k, k < σ.next → Heap.find (agG P (l.take m) σ.next ++ σ.H) k = σ.H.find k := fun k hk => avF (fun hm => by have := amQ hm; omega)
 have hxnew : ∀ (i : Nat) (o : Oper) (e : TypeId) (zs : List AV), (l.take m)[i]? = some o → o.op = .alloc e → ae4 P e = some zs → Heap.find (agG P (l.take m) σ.next ++ σ.H) (σ.next + i) = some (.vars e zs) := fun i o e zs h1 h2 h3 => aAZ h1 h2 h3
 generalize agG P (l.take m) σ.next ++ σ.H = Hs at *
 have hlen : l.length = ops.size := by rw [← hlg]; simp
 have hplen : (l.take m).length = m := zh
 obtain ⟨us, htr, hH1, hn1, hn2, hsts⟩ := aCn _ _ _ _ _ hleaf
 have hulen : us.length = m := by rw [htr.length, hplen]
 have hnd : z.1.H.keys.Nodup := aCo _ _ _ _ _ _ hleaf (by show (veil sk σ.H).keys.Nodup; rw [ahG]; exact hs.m.nodup) (by show ∀ k ∈ (veil sk σ.H).keys, k < σ.next; rw [ahG]; exact hs.m.lt)
 obtain ⟨hsp1, hsp2⟩ := aFu hskof
 have hskok : SkOk sk σ.next (l.take m) := ⟨awO hsnd, hsp2, fun K' k hk => by obtain ⟨_, o, t, a, x, g1, g2, _⟩ := hsp1 K' k hk; exact ⟨o, t, a, x, g1, g2⟩, aw4 hlaid⟩
 -- the beginning
 obtain ⟨hmv, hextv⟩ := hs.m.reveal (H' := veil sk σ.H) (fun k => by rw [ahG]) (fun k e t l hk => veil_mem.2 ⟨_, hk, by cases aqK sk k <;> rfl⟩) (by rw [ahG]; exact hs.m.nodup) (fun k b hb => by
  obtain ⟨b', h1, h2⟩ := veil_mem.1 hb
  have hbr := hs.m.mem k b' h1
  subst h2
  cases aqK sk k with
  | false => exact hbr
  | true =>
   cases b' with
   | vars e cells => exact hbr.block
   | _ => exact hbr)
 obtain ⟨hmd, hextd⟩ := hmv.grow (w' := w.drew) ((Below.refl _ _).drew)
 have hstk : ∀ (j : Nat) (k : Nat) (b : Bk), us[j]? = some (.st k b) → (σ.next + j, k) ∈ sk := by
  intro j k b hj
  have hjl : j < (l.take m).length := by have := (zR.1 hj).1; omega
  obtain ⟨v', fj, _, h1, _, h3, _⟩ := htr.nth (i := j) (o := (l.take m)[j]) (by rw [zS hjl])
  rw [hj] at h1
  injection h1 with h1
  subst h1
  exact aFv h3.2.1
 have huv : (ap7 Hs sk z).H = aa6 (aa6 z.1.H (olds Hs sk)) z.2 ∧ (ap7 Hs sk z).slots = z.1.slots ∧ (ap7 Hs sk z).next = z.1.next ∧ (ap7 Hs sk z).n = z.1.n := by
  cases hsk0 : sk with
  | nil =>
   have : z.2 = [] := by
    apply List.eq_nil_iff_forall_not_mem.2
    intro x hx
    rcases (hsts x).1 hx with hx | ⟨j, u, h1, h2⟩
    ·cases hx
    ·cases u with
     | st k b => have := hstk j k b h1; rw [hsk0] at this; cases this
     | _ => cases h2
   simp only [ap7, olds, this, aa6, and_self]
  | cons y r => exact ⟨rfl, rfl, rfl, rfl⟩
 have hnewk : ∀ (j : Nat) (v : Out), us[j]? = some v → ∀ x ∈ v.new, x.1 = σ.next + j := by
  intro j v hj x hx
  have hjl : j < (l.take m).length := by have := (zR.1 hj).1; omega
  obtain ⟨v', fj, _, h1, _, h3, _⟩ := htr.nth (i := j) (o := (l.take m)[j]) (by rw [zS hjl])
  rw [hj] at h1
  injection h1 with h1
  subst h1
  cases v with
  | ran r new =>
   rcases h3.2 with ⟨_, h3⟩ | ⟨_, _, _, _, _, rfl⟩
   ·exact asR h3 x hx
   ·simp only [Out.new, ya] at hx; subst hx; rfl
  | skip => cases hx
  | st k b => cases hx
 have fin : ∀ (fuel : Nat) (listed : Array Bool) (a : Act) (w' : World), listed.size = ops.size → (∀ i, i < m → listed.getD i false = true) → (∀ j, m ≤ j → listed.getD j false = false) →
   AInv C ρ w.drew { σ with H := veil sk σ.H, next := σ.next + m } Hs sk σ.next (l.take m) us (fun i => listed.getD i false) a w' → ops.size - m ≤ fuel → wpAnyIn (af4 rnd) 0 P .any ops Q fuel listed a w' := by
  intro fuel listed a w' hsz hall hsuf hinv hfuel
  obtain ⟨ρ', Hd, hH, hm', hsl, hsz', hdf, hext, hski⟩ := hinv
  have hmem : ∀ x, x ∈ Hd ↔ x ∈ z.1.H := by
   intro x
   rw [hH, hH1]
   constructor
   ·rintro (hx | ⟨j, u, h1, _, h3⟩)
    ·exact Or.inl hx
    ·exact Or.inr ⟨j, u, h1, h3⟩
   ·rintro (hx | ⟨j, u, h1, h3⟩)
    ·exact Or.inl hx
    ·exact Or.inr ⟨j, u, h1, hall j (by have := (zR.1 h1).1; omega), h3⟩
  obtain ⟨hm1, hext1⟩ := hm'.perm hmem hnd
  have hkeys : ∀ k, k ∈ z.1.H.keys → k ∈ Hd.keys := fun k hk => by
   obtain ⟨x, hx, e⟩ := zN.1 hk
   exact zN.2 ⟨x, (hmem x).2 hx, e⟩
  have hanyk : ∀ K k, (K, k) ∈ sk → k ∈ z.1.H.keys → (k, Bk.any) ∈ z.1.H := fun K k hk hkk => by
   obtain ⟨_, e, cells, _, g⟩ := hski K k hk
   exact (hmem _).1 (g (hkeys k hkk)).1
  have hstsk : ∀ k b, (k, b) ∈ z.2 → ∃ j, us[j]? = some (.st k b) ∧ (σ.next + j, k) ∈ sk := by
   intro k b hkb
   rcases (hsts (k, b)).1 hkb with hx | ⟨j, u, h1, h2⟩
   ·cases hx
   ·cases u with
    | st k' b' =>
     have h2' : (k, b) ∈ [(k', b')] := h2
     simp only [ya] at h2'
     injection h2' with e1 e2
     subst e1; subst e2
     exact ⟨j, h1, hstk j _ _ h1⟩
    | ran r new => cases h2
    | skip => cases h2
  have hnd2 : (aa6 (aa6 z.1.H (olds Hs sk)) z.2).keys.Nodup := by rw [aaX, aaX]; exact hnd
  obtain ⟨hm2, hext2⟩ := hm1.reveal (H' := (ap7 Hs sk z).H) (fun k => by rw [huv.1, aaX, aaX]) (fun k e t l hk => by
    rw [huv.1]
    have no : ∀ K, (K, k) ∉ sk := fun K hK => by have := Heap.mem_unique hnd hk (hanyk K k hK (aaO hk)); cases this
    refine acI (acI hk (fun b' hb' => ?_)) (fun b' hb' => ?_)
    ·obtain ⟨⟨K, hK⟩, _⟩ := olds_mem.1 hb'; exact no K hK
    ·obtain ⟨j, _, hK⟩ := hstsk k b' hb'; exact no _ hK) (by rw [huv.1]; exact hnd2) (fun k b hb => by
    have hkk : k ∈ Hd.keys := by
     have := aaO hb
     rw [huv.1, aaX, aaX] at this
     exact hkeys k this
    rw [huv.1] at hb
    rcases aeX (by rw [aaX]; exact hnd) hb with hb | ⟨hb1, hb2⟩
    ·obtain ⟨j, h1, h2⟩ := hstsk k b hb
     obtain ⟨_, e, cells, _, g⟩ := hski _ _ h2
     have g := (g hkk).2
     rw [show σ.next + j - σ.next = j by omega] at g
     rcases g with ⟨b', g1, g2, g3⟩ | ⟨g1, g2⟩
     ·rw [h1] at g1; injection g1 with g1; injection g1 with _ g1; subst g1
      exact g3.ext hext1 rfl
     ·exfalso
      rcases g1 with g1 | g1
      ·have := hall j (by have := (zR.1 h1).1; omega)
       have g1' : listed.getD j false = false := g1
       rw [this] at g1'; cases g1'
      ·rw [h1] at g1; cases g1
    ·rcases aeX hnd hb2 with hb2 | ⟨hb3, hb4⟩
     ·obtain ⟨⟨K, hK⟩, hf⟩ := olds_mem.1 hb2
      obtain ⟨h0, e, cells, hf', g⟩ := hski _ _ hK
      have g := (g hkk).2
      rw [hf] at hf'
      injection hf' with hf'
      subst hf'
      rcases g with ⟨b', g1, _, _⟩ | ⟨_, g2⟩
      ·exact absurd ((hsts (k, b')).2 (Or.inr ⟨_, _, g1, ya.2 rfl⟩)) (hb1 b')
      ·exact g2.ext hext1 rfl
     ·exact hm1.mem k b hb4)
  have hs1 : SRel C ρ' (ap7 Hs sk z) a w' := by
   refine ⟨by rw [huv.2.2.1, hn1]; exact hm2, fun t => ?_, by rw [huv.2.2.2, hn2]; exact hsz', (hdf.mono hext1.data hext1.size).mono hext2.data hext2.size⟩
   rw [huv.2.1]
   refine hext2.vr (hext1.vr (hsl t _ ?_))
   rcases htr.slot t with ⟨j, o, u, h1, h2, h3, h4, h5⟩ | ⟨h1, h2⟩
   ·exact Or.inl ⟨j, o, u, h1, h2, h3, h4, hall j (by have := (zR.1 h2).1; omega), h5⟩
   ·exact Or.inr ⟨fun j o hj hd hlt => absurd hlt (h1 j o hj hd), h2⟩
  have hfr : Fr C σ.next ρ σ.H w ρ' (ap7 Hs sk z).H w' := (hextv.trans (hextd.trans (hext.trans (hext1.trans hext2)))).fr (fun k hk hkm => by
   rw [huv.1, aaX, aaX] at hkm
   obtain ⟨x, hx, e⟩ := zN.1 hkm
   rcases (hH1 x).1 hx with hx | ⟨j, u, h1, h3⟩
   ·have : x.1 ∈ (veil sk σ.H).keys := zN.2 ⟨x, hx, rfl⟩
    rw [ahG] at this
    exact e ▸ this
   ·have := hnewk j u h1 x h3
    omega)
  refine aKs hG hC hΓ hcall hlg hed htail (l.drop m) m fuel listed rfl (zq _) zh hsz (fun i hi => ?_) hs1 hex (fun a'' w'' hr => hQ a'' w'' (hr.trans hfr (by rw [huv.2.2.1, hn1]; exact xk _ _))) rnd
  by_cases him : i < m
  ·rw [hall i him]; simp [him]
  ·rw [hsuf i zc]; simp [him]
 have key : ∀ (fuel : Nat) (listed : Array Bool) (a : Act) (w' : World), listed.size = ops.size → aLD l (fun i => listed.getD i false) → (∀ j, m ≤ j → listed.getD j false = false) →
   AInv C ρ w.drew { σ with H := veil sk σ.H, next := σ.next + m } Hs sk σ.next (l.take m) us (fun i => listed.getD i false) a w' → ops.size ≤ fuel + aJ2 (fun i => listed.getD i false) ops.size → wpAnyIn (af4 rnd) 0 P .any ops Q fuel listed a w' := by
  intro fuel
  induction fuel with
  | zero =>
   intro listed a w' hsz hcl hsuf hinv hcnt
   by_cases hall : ∃ i, i < m ∧ listed.getD i false = false
   ·obtain ⟨i, hi, hi'⟩ := hall
    have := aRe (ls := fun i => listed.getD i false) hi' (n := ops.size) zc
    omega
   ·have hall' : ∀ i, i < m → listed.getD i false = true := fun i hi => by
     cases hb : listed.getD i false with
     | true => rfl
     | false => exact absurd ⟨i, hi, hb⟩ hall
    have hc := avL (ls := fun i => listed.getD i false) hall' hsuf (n := ops.size)
    exact fin 0 listed a w' hsz hall' hsuf hinv zc
  | succ fuel ih =>
   intro listed a w' hsz hcl hsuf hinv hcnt
   by_cases hall : ∃ i, i < m ∧ listed.getD i false = false
   ·have hlt : ∀ i, i < ops.size → listed.getD i true = listed.getD i false := by
     intro i hi
     rw [zI, zI, xC zc]
     rfl
    refine ⟨fun hnil => ?_, fun i hi => ?_⟩
    ·exfalso
     obtain ⟨i, hi1, hi2, hi3⟩ := aGM (ls := fun i => listed.getD i false) hall
     have hio : i < ops.size := zc
     have hil : l[i]? = some ops[i] := by rw [← hlg]; simp [hio]
     have : i ∈ Region.ready .any ops listed := by
      unfold Region.ready
      rw [wI]
      refine ⟨by simpa using hio, ?_⟩
      rw [hlt i hio, show listed.getD i false = false from hi2, xC hio]
      simp only [wG, vG, wN, Bool.true_and]
      rw [xy]
      intro e he
      cases hb : Region.binds .any e with
      | false => rfl
      | true =>
       have := agD hed hil e he hb
       rw [zv] at this
       have h3 : listed.getD e.on false = true := hi3 e.on this
       simp [h3]
     rw [hnil] at this
     cases this
    ·unfold Region.ready at hi
     rw [wI] at hi
     obtain ⟨h1, h2⟩ := hi
     have hio : i < ops.size := by simpa using h1
     have hil : l[i]? = some ops[i] := by rw [← hlg]; simp [hio]
     rw [hlt i hio, xC hio] at h2
     simp only [zw, zT, wG, vG, xy] at h2
     obtain ⟨h3, h4⟩ := h2
     have hedge : ∀ e ∈ ops[i].after, agY e = true → listed.getD e.on false = true := by
      intro e he hb
      have := h4 e he
      unfold agY at hb
      rw [hb] at this
      simpa using this
     by_cases him : i < m
     ·have hpi : (l.take m)[i]? = some ops[i] := by rw [yw, if_pos him]; exact hil
      refine AInv.step hG hC hΓ (l := l) (σ0 := { σ with H := veil sk σ.H, next := σ.next + m }) (base := σ.next) hlg (fun j p hp => by
       have hjm : j < m := by have := (zR.1 hp).1; omega
       rw [yw, if_pos hjm] at hp; exact hp) hskok htr hpre (by show (veil sk σ.H).keys.Nodup; rw [ahG]; exact hs.m.nodup) (by show ∀ k ∈ (veil sk σ.H).keys, k < σ.next; rw [ahG]; exact hs.m.lt) (by rw [hplen]; exact zq _) hxnew hcl hpi h3 hedge hinv (fun a'' w'' hinv'' => ?_) rnd
      have hfun : (fun j => (listed.setIfInBounds i true).getD j false) = aw6 (fun j => listed.getD j false) i := by
       funext j
       unfold aw6
       by_cases hj : j = i
       ·subst hj
        rw [if_pos rfl, zI, wV zc]
        rfl
       ·rw [if_neg hj, zI, xD (Ne.symm hj), ← zI]
      refine ih _ a'' w'' (by simp [hsz]) ?_ ?_ (by rw [hfun]; exact hinv'') ?_
      ·rw [hfun]
       intro j o hj hlj e he hb
       unfold aw6 at hlj ⊢
       split
       ·rfl
       ·split at hlj
        ·rename_i hji
         subst hji
         rw [hil] at hj
         injection hj with hj
         subst hj
         exact hedge e he hb
        ·exact hcl j o hj hlj e he hb
      ·intro j hj
       have : (listed.setIfInBounds i true).getD j false = aw6 (fun j => listed.getD j false) i j := congrFun hfun j
       rw [this]
       unfold aw6
       rw [if_neg zc]
       exact hsuf j hj
      ·rw [hfun, aLk h3 hio]
       omega
     ·exfalso
      obtain ⟨k, hk1, hk2⟩ := hall
      obtain ⟨x, hx⟩ : ∃ x, (aeC l [])[i]? = some x := ⟨_, zS (by rw [(ahM l []).2]; simp; omega)⟩
      have hxe := an8 htail hx zc
      rw [zv] at hxe
      have := aAx hcl hed i _ hil hedge x k hx (by rw [hxe, Nat.testBit_two_pow_sub_one]; simp; omega)
      have this' : listed.getD k false = true := this
      rw [hk2] at this'
      cases this'
   ·have hall' : ∀ i, i < m → listed.getD i false = true := fun i hi => by
     cases hb : listed.getD i false with
     | true => rfl
     | false => exact absurd ⟨i, hi, hb⟩ hall
    have hc := avL (ls := fun i => listed.getD i false) hall' hsuf (n := ops.size)
    exact fin (fuel + 1) listed a w' hsz hall' hsuf hinv zc
 refine key _ _ _ _ zi ?_ ?_ ?_ zc
 ·intro j o _ hj
  exfalso
  have hj' : (Array.replicate ops.size false).getD j false = true := hj
  rw [zI] at hj'
  by_cases hjs : j < ops.size
  ·simp [hjs] at hj'
  ·simp [hjs] at hj'
 ·intro j _
  rw [zI]
  by_cases hjs : j < ops.size
  ·simp [hjs]
  ·simp [hjs]
 ·refine ⟨ρ, veil sk σ.H, fun x => ?_, hmd.mono (xk _ _), fun t x hx => ?_, hs.size, (hs.defers.mono hextv.data hextv.size).mono hextd.data hextd.size, Ext.refl _ _ _ _, ?_⟩
  ·constructor
   ·exact Or.inl
   ·rintro (hx | ⟨j, u, _, hj, _⟩)
    ·exact hx
    ·exfalso
     have hj' : (Array.replicate ops.size false).getD j false = true := hj
     rw [zI] at hj'
     by_cases hjs : j < ops.size
     ·simp [hjs] at hj'
     ·simp [hjs] at hj'
  ·rcases hx with ⟨j, o, u, _, _, _, _, hj, _⟩ | ⟨_, hx⟩
   ·exfalso
    have hj' : (Array.replicate ops.size false).getD j false = true := hj
    rw [zI] at hj'
    by_cases hjs : j < ops.size
    ·simp [hjs] at hj'
    ·simp [hjs] at hj'
   ·rw [hx]; exact hextd.vr (hextv.vr (hs.slots t))
  ·intro K' k hk
   obtain ⟨h0, o, t, a', x, g1, g2, e, cells, hf⟩ := hsp1 K' k hk
   refine ⟨h0, e, cells, hf, fun hkk => ?_⟩
   rw [ahG] at hkk
   rw [hxlt k (hs.m.lt k hkk)] at hf
   refine ⟨veil_mem.2 ⟨_, Heap.find_mem hf, by rw [skHas_iff.2 ⟨K', hk⟩]; rfl⟩, Or.inr ⟨Or.inl ?_, ?_⟩⟩
   ·show (Array.replicate ops.size false).getD (K' - σ.next) false = false
    rw [zI]
    by_cases hjs : K' - σ.next < ops.size
    ·simp [hjs]
    ·simp [hjs]
   ·exact ((hs.m.mem k _ (Heap.find_mem hf)).ext hextv rfl).ext hextd rfl
theorem aBG (hG : arM G) (hC : G C.w0) (hΓ : Γ.ok P G) {call : anA} (hcall : CallSat P G call) {Q : Exit → Act → World → Prop} {K : St → Prop} {ρ : Nat → Nat} {σ : St} {a : Act} {w : World}
  (hs : SRel C ρ σ a w) (h : aEE P Γ call ops σ K) (hQ : ∀ a' w', Reach C σ ρ w K a' w' → Q .normal a' w') (rnd : Option Nat) :
  wpAnyIn (af4 rnd) 0 P .any ops Q ops.size (Array.replicate ops.size false) a { w with drawn := w.drawn + 1 } := by
 unfold aEE at h
 simp only at h
 split at h
 ·rename_i sk hskof
  split at h
  ·rename_i hchk
   simp only [zw] at hchk
   obtain ⟨⟨⟨⟨⟨hpre, hed⟩, htail⟩, hml⟩, hsnd⟩, hlaid⟩ := hchk
   have hml := Nat.le_of_ble_eq_true hml
   obtain ⟨z, hleaf, hex⟩ := T.leaf h
   rw [aR3] at hleaf
   exact aQ0 hG hC hΓ hcall hs hskof hpre hed htail hml hsnd hlaid hleaf hex hQ rnd
  ·exact h.elim
 ·exact h.elim
end
end Go.Vg
