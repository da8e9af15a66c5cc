/-
  The engine, part W: calls that are entered, and how a contract comes out of a body. Own work; no condition.
-/
import Derived.Test.YtbdojimkdgajgaaGreatDoorEngV
namespace Go.Vg
open Go Go.RowKit

def numbered : Nat → List AV → List (Nat × AV)
  | _, [] => []
  | i, a :: as => (i, a) :: numbered (i + 1) as

def resT (P : Program) (σ : St) : List ResultVar → T (List AV)
  | [] => .ok []
  | .tmp t :: r => (resT P σ r).bind fun l => .ok (look σ.slots t :: l)
  | .cell a t :: r => (loadAV P σ.H t (look σ.slots a)).bind fun x => (resT P σ r).bind fun l => .ok (x :: l)


def callQ (K : AV → Heap → Nat → Prop) (l : List AV) (σ : St) : Prop :=
  match isPan (resAV l) with
  | none => K (resAV l) σ.H σ.next
  | some _ => False
def callP (K : AV → Heap → Nat → Prop) (ch : List PanicEntry) (σ : St) : Prop :=
  ofChainP ch fun x => K (panE x) σ.H σ.next
/-- The same for a function that may panic. -/
def retP (P : Program) (fn : Func) (K : List AV → St → Prop) (KP : List PanicEntry → St → Prop) : Exit → St → Prop
  | .normal, σ => (resT P σ fn.results.toList).holds fun l => K l σ
  | .ret, σ => (resT P σ fn.results.toList).holds fun l => K l σ
  | .panic ch, σ => KP ch σ
  | _, _ => False

def retQ (P : Program) (fn : Func) (K : List AV → St → Prop) : Exit → St → Prop := retP P fn K fun _ _ => False

/-- The parameters of a round. -/
def bindS (σ : St) : List Nat → List AV → St
  | p :: ps, a :: as => bindS (σ.put (some p) a) ps as
  | _, _ => σ

/-- What a round's way out leaves pending. -/
def jumpOf : Exit → Option (Option Code)
  | .normal => some none
  | .ret => some (some .ret)
  | .exit id => some (some (.exit id))
  | _ => none

def roundEnd (st : Option Code) : LoopState := match st with | none => .ready | some _ => .done

/-- Behind a round's body. -/
def endQ (l : Nat) (K : AV → Heap → Nat → Prop) (e : Exit) (σ : St) : Prop :=
  match jumpOf e with
  | some j => match σ.H.find l with
    | some (.loop r) => K (.d .bool j.isNone) (σ.H.up l (.loop { r with st := roundEnd j, pend := j })) σ.next
    | _ => False
  | none => False

/-- Behind the assignment of a round's parameters: the body. -/
def bodyQ (l : Nat) (X : St → Prop) : Exit → St → Prop
  | .normal, σ => match σ.H.find l with
    | some (.loop r) => match r.st with
      | .ready => X { σ with H := σ.H.up l (.loop { r with st := .busy }) }
      | _ => False
    | _ => False
  | _, _ => False

/-- All rows given away. -/
def lendF (H : Heap) : Nat → Nat → Nat → AV := fun k off len =>
  match H.find k with
  | some (.row _ t l) => .d (.sl t) ((l.drop off).take len)
  | _ => .no

def toRes : (t : Ty) → List AV → Option t.T
  | .unit, [] => some ()
  | .pair t u, a :: as => match toD t a with
    | some x => match toRes u as with
      | some y => some (x, y)
      | none => none
    | none => none
  | _, _ => none

def finQ (t : Ty) (y : t.T) (l : List AV) (σ : St) : Prop :=
  match toRes t (AV.maps (fun _ => false) (lendF σ.H) l) with
  | some z => z = y
  | none => False

/-- What every datum of a type is known to be. -/
def Wf : (t : Ty) → t.T → Prop
  | .int k, (x : Int) => k.min ≤ x ∧ x ≤ k.max
  | .bool, _ => True
  | .str, (x : List UInt8) => x.length ≤ lim
  | .unit, _ => True
  | .pair t u, x => Wf t x.1 ∧ Wf u x.2
  | .arr n t, (x : List t.T) => x.length = n ∧ ∀ y ∈ x, Wf t y
  | .sl t, (x : List t.T) => x.length ≤ lim ∧ ∀ y ∈ x, Wf t y

def argAVs : (t : Ty) → t.T → List AV
  | .pair t u, x => .d t x.1 :: argAVs u x.2
  | _, _ => []

section
variable {C : Ctx} {P : Program} {G : World → Prop}

theorem RdL.wf {α : Type} {R : α → List Value → Prop} {W : α → Prop} (h : ∀ x cs, R x cs → W x) : ∀ (l : List α) (cs : List Value), RdL R l cs → ∀ y ∈ l, W y
  | [], _, _, y, hy => by cases hy
  | x :: xs, cs, ⟨c1, c2, _, h1, h2⟩, y, hy => by
    rcases List.mem_cons.1 hy with rfl | hy
    · exact h _ _ h1
    · exact RdL.wf h xs c2 h2 y hy

theorem Rd.wf {ok : Nat → Prop} {w : World} : ∀ (t : Ty) (x : t.T) (cs : List Value), Rd ok w t x cs → Wf t x
  | .int _, _, _, ⟨_, h⟩ => h
  | .bool, _, _, _ => trivial
  | .str, _, _, ⟨_, h⟩ => h
  | .unit, _, _, _ => trivial
  | .pair t u, _, _, ⟨_, _, _, h1, h2⟩ => ⟨Rd.wf t _ _ h1, Rd.wf u _ _ h2⟩
  | .arr _ t, _, _, ⟨hl, hr⟩ => ⟨hl, RdL.wf (fun x cs => Rd.wf t x cs) _ _ hr⟩
  | .sl t, x, _, ⟨_, _, _, _, hl, h3⟩ => by
    refine ⟨hl, ?_⟩
    rcases h3 with h3 | ⟨_, _, _, _, _, _, _, _, _, hr⟩
    · rw [h3]; intro y hy; cases hy
    · exact RdL.wf (fun x cs => Rd.wf t x cs) _ _ hr

theorem RdVs.wf {ok : Nat → Prop} {w : World} : ∀ (t : Ty) (x : t.T) (vs : List Value), RdVs ok w t x vs → Wf t x
  | .unit, _, _, _ => trivial
  | .pair t u, _, _, ⟨_, _, _, h1, h2⟩ => ⟨Rd.wf t _ _ h1.cells, RdVs.wf u _ _ h2⟩
  | .int _, _, _, h => h.elim
  | .bool, _, _, h => h.elim
  | .str, _, _, h => h.elim
  | .arr _ _, _, _, h => h.elim
  | .sl _, _, _, h => h.elim

theorem RdVs.args {ok : Nat → Prop} {ρ : Nat → Nat} {H : Heap} {w : World} (hk : ∀ b, ok b → Ok C ρ H w b) : ∀ (t : Ty) (x : t.T) (vs : List Value), RdVs ok w t x vs → VRs C ρ H w (argAVs t x) vs
  | .unit, _, vs, h => by obtain rfl : vs = [] := h; exact .nil
  | .pair t u, x, vs, ⟨v, us, e, h1, h2⟩ => by subst e; exact .cons (.d (h1.mono (fun b hb => ⟨hk b hb, rfl⟩))) (RdVs.args hk u _ _ h2)
  | .int _, _, _, h => h.elim
  | .bool, _, _, h => h.elim
  | .str, _, _, h => h.elim
  | .arr _ _, _, _, h => h.elim
  | .sl _, _, _, h => h.elim

theorem numbered_look : ∀ (as : List AV) (i t : Nat), look (numbered i as) t = if i ≤ t then (as[t - i]?).getD .no else .no
  | [], i, t => by simp [numbered, look]
  | a :: as, i, t => by
    simp only [numbered, look]
    cases hb : Nat.beq i t with
    | true => have := beq_true hb; subst this; simp
    | false =>
      have hne := beq_false hb
      simp only
      rw [numbered_look as (i + 1) t]
      by_cases h : i + 1 ≤ t
      · rw [if_pos h, if_pos (by omega)]
        rw [show t - i = (t - (i + 1)) + 1 by omega]
        simp
      · rw [if_neg h]
        by_cases h2 : i ≤ t
        · omega
        · rw [if_neg h2]

/-- The frame in which a function begins. -/
theorem entry_rel (hu : C.us = []) (hmk : C.mks = none) {ρ : Nat → Nat} {H : Heap} {next : Nat} {w : World} {args : List AV} {vs : List Value} {n : Nat} (hm : MRel C ρ H next w) (hlo : C.lo ≤ w.heap.size) (hv : VRs C ρ H w args vs) (hn : args.length ≤ n) :
    SRel C ρ { slots := numbered 0 args, H := H, next := next, n := n } { tmps := (⟨vs⟩ : Array Value) ++ Array.replicate (n - (⟨vs⟩ : Array Value).size) undef, defers := [] } w := by
  have hlen := hv.length
  refine ⟨hm, fun t => ?_, by simp; omega, Dfs.nil hlo hu hmk⟩
  show VR C ρ H w (look (numbered 0 args) t) _
  rw [numbered_look args 0 t, if_pos (Nat.zero_le _), Nat.sub_zero]
  cases ha : args[t]? with
  | none => exact .no
  | some a =>
    obtain ⟨v, h1, h2⟩ := hv.get ha
    have hlt : t < vs.length := (List.getElem?_eq_some_iff.1 h1).1
    have e : ((⟨vs⟩ : Array Value) ++ Array.replicate (n - (⟨vs⟩ : Array Value).size) undef).getD t undef = v := by
      rw [Array.getD_eq_getD_getElem?, Array.getElem?_append_left (by simpa using hlt)]
      have : (⟨vs⟩ : Array Value)[t]? = some v := by simpa using h1
      rw [this]; rfl
    rw [e]
    exact h2

def resOne (a : Act) : ResultVar → Sem Value
  | .tmp t => pure (a.tmps.getD t undef)
  | .cell x t => do loadVar t (← asAddr (a.tmps.getD x undef))

theorem resT_sound {ρ : Nat → Nat} {σ : St} {a : Act} {w : World} (hs : SRel C ρ σ a w) : ∀ (rs : List ResultVar) (l : List AV), (resT P σ rs).Leaf l →
    ∃ vs, (rs.mapM (resOne a)).run P w = .ok vs w ∧ VRs C ρ σ.H w l vs
  | [], l, h => by cases h; exact ⟨[], rfl, .nil⟩
  | .tmp t :: r, l, h => by
    obtain ⟨l', h1, h2⟩ := T.Leaf.bind h
    cases h2
    obtain ⟨vs, h3, h4⟩ := resT_sound hs r l' h1
    exact ⟨_ :: vs, by simp only [List.mapM_cons, resOne, Sem.run_bind, Sem.run_pure, Result.andThen_ok, h3], .cons (hs.slots t) h4⟩
  | .cell x t :: r, l, h => by
    obtain ⟨y, h1, h2⟩ := T.Leaf.bind h
    obtain ⟨l', h3, h4⟩ := T.Leaf.bind h2
    cases h4
    obtain ⟨vs, h5, h6⟩ := resT_sound hs r l' h3
    have hv := hs.slots x
    obtain ⟨v, h7, h8⟩ := loadAV_sound (fun _ h => h) hs.m h1 hv
    refine ⟨v :: vs, ?_, .cons h8 h6⟩
    have hl : (resOne a (.cell x t)).run P w = .ok v w := by
      have hptr : ∃ ad, a.tmps.getD x undef = .pointer (some ad) := by
        generalize a.tmps.getD x undef = u at hv
        unfold loadAV at h1
        split at h1
        · rename_i he; rw [he] at hv; cases hv; exact ⟨_, rfl⟩
        · rename_i he; rw [he] at hv; cases hv; exact ⟨_, rfl⟩
        · rename_i he; rw [he] at hv; cases hv; exact ⟨_, rfl⟩
        · rename_i he; rw [he] at hv; cases hv; exact ⟨_, rfl⟩
        · cases h1
      obtain ⟨ad, had⟩ := hptr
      rw [had] at h7
      show (do loadVar t (← asAddr (a.tmps.getD x undef)) : Sem Value).run P w = _
      rw [had]
      simpa [Instr.loadAt, Instr.sureAddr, asAddr] using h7
    simp only [List.mapM_cons, Sem.run_bind, hl, Result.andThen_ok, h5, Sem.run_pure]

theorem results_run {fn : Func} {a : Act} {w : World} {vs : List Value} (h : (fn.results.toList.mapM (resOne a)).run P w = .ok vs w) : (results fn a.tmps).run P w = .ok (resV vs) w := by
  have hm : (fn.results.mapM (resOne a)).run P w = .ok vs.toArray w := by
    rw [Array.mapM_eq_mapM_toList]
    simp only [Sem.run_map]
    rw [h]
    rfl
  have e : results fn a.tmps = (do let vs ← fn.results.mapM (resOne a); pure (if h : vs.size = 1 then vs[0] else .tuple vs) : Sem Value) := by
    unfold results
    congr 2
  rw [e]
  simp only [Sem.run_bind, hm, Result.andThen_ok, Sem.run_pure]
  congr 1
  match vs with
  | [] => rfl
  | [v] => rfl
  | v :: u :: r => rfl

theorem lend_all {ρ : Nat → Nat} {H : Heap} {next : Nat} {w : World} (hm : MRel C ρ H next w) {x : AV} {v : Value} (h : VR C ρ H w x v) : VR C ρ [] w (x.map (fun _ => false) (lendF H)) v := by
  have hd : ∀ b, Ok C ρ H w b → Ok C ρ [] w b ∧ w.heap[b]? = w.heap[b]? := fun b ⟨h1, h2, _⟩ => ⟨⟨h1, h2, by intro k hk; cases hk⟩, rfl⟩
  refine VR.map hd (fun _ _ h => by cases h) (fun _ _ _ _ _ h => by cases h) ?_ h
  intro k off len v _ hov
  unfold lendF
  cases hov with
  | own hk hl hc hmx hb hs ha =>
    split
    · rename_i e t l hf
      have hu := Heap.mem_unique hm.nodup (Heap.find_mem hf) hk
      injection hu with hu1 hu2 hu3
      subst hu1; subst hu2
      have hu3 := eq_of_heq hu3
      subst hu3
      obtain ⟨c, h1, h2, h3, h4, h5⟩ := hm.ownCells hk hl
      refine .d ⟨_, ⟨_, _, by rw [h3], by rw [h3]; exact hc, by rw [h3]; exact h4, ?_⟩, rfl⟩
      by_cases hnil : (l.drop off).take len = []
      · exact Or.inl hnil
      · have hpos : 0 < len := by rw [← h3]; exact List.length_pos_iff.2 hnil
        have ha' := ha.resolve_right (fun h => by omega)
        exact Or.inr ⟨ρ k, off * t.size, c, e, (0, 0), ha', ⟨Or.inr (hm.low k (mem_keys hk)), hm.key_lt (mem_keys hk), by intro k hk; cases hk⟩, h1, h2, RdL.mono (fun x cs => Rd.mono hd t x cs) _ _ h5⟩
    · exact .no

theorem toRes_sound {ρ : Nat → Nat} {w : World} : ∀ (t : Ty) (as : List AV) (vs : List Value) (x : t.T), toRes t as = some x → VRs C ρ [] w as vs → RdVs (Ok C ρ [] w) w t x vs
  | .unit, [], vs, x, h, hv => by cases hv; rfl
  | .pair t u, a :: as, vs, x, h, hv => by
    cases hv with
    | cons h1 h2 =>
      simp only [toRes] at h
      split at h
      · rename_i y hy
        split at h
        · rename_i z hz
          injection h with h; subst h
          exact ⟨_, _, rfl, toD_sound hy h1, toRes_sound u as _ z hz h2⟩
        · cases h
      · cases h
  | .int _, _, _, _, h, _ => by simp [toRes] at h
  | .bool, _, _, _, h, _ => by simp [toRes] at h
  | .str, _, _, _, h, _ => by simp [toRes] at h
  | .arr _ _, _, _, _, h, _ => by simp [toRes] at h
  | .sl _, _, _, _, h, _ => by simp [toRes] at h
  | .unit, _ :: _, _, _, h, _ => by simp [toRes] at h
  | .pair _ _, [], _, _, h, _ => by simp [toRes] at h

/-! The same, as seen by another activation. -/
def Ctx.wh (C : Ctx) (n : Nat) (h : C.w0.heap.size ≤ n) (us : List Deferred) (ms : Option (List Nat)) : Ctx := { C with lo := n, hlo := h, us := us, mks := ms }
def Ctx.at (C : Ctx) (n : Nat) (h : C.w0.heap.size ≤ n) : Ctx := C.wh n h [] none

theorem VR.wh {ρ : Nat → Nat} {H : Heap} {w : World} {n : Nat} {hn : C.w0.heap.size ≤ n} {us : List Deferred} {ms : Option (List Nat)} {x : AV} {v : Value} (h : VR C ρ H w x v) : VR (C.wh n hn us ms) ρ H w x v := by
  refine VR.rec (motive_1 := fun x v _ => VR (C.wh n hn us ms) ρ H w x v) (motive_2 := fun xs vs _ => VRs (C.wh n hn us ms) ρ H w xs vs)
    ?_ ?_ ?_ ?_ ?_ ?_ ?_ ?_ ?_ ?_ ?_ ?_ ?_ ?_ ?_ ?_ ?_ ?_ ?_ ?_ ?_ ?_ h
  · intro t x v h; exact .d h
  · intro k off h; exact .ptr h
  · intro k i e t l h hi; exact .eptr h hi
  · intro k i f o u e t l h hi ho; exact .efp h hi ho
  · intro t x b o c e fr hb hc ho h; exact .dptr hb hc ho h
  · intro k off len e t l a cap c fr h hl hc hm hb hs ha; exact .own h hl hc hm hb hs ha
  · intro k off len e t l a c fr h hl hm hb hs ha; exact .ox h hl hm hb hs ha
  · intro k n h hn; exact .sv h hn
  · exact .nsl
  · exact .nilp
  · exact .nili
  · exact .nni
  · intro k t x v h; exact .ifc h
  · intro g first caps vf vc _ _ h1 h2; exact .fn h1 h2
  · intro l h; exact .yld h
  · intro k h; exact .mp h
  · intro cells vs _ h1 h; exact .ag h h1
  · intro l vs _ h; exact .tup h
  · exact .und
  · intro v; exact .no
  · exact .nil
  · intro a v as vs _ _ h hs; exact .cons h hs

theorem VR.at {ρ : Nat → Nat} {H : Heap} {w : World} {n : Nat} {hn : C.w0.heap.size ≤ n} {x : AV} {v : Value} (h : VR C ρ H w x v) : VR (C.at n hn) ρ H w x v := h.wh

theorem VR.back {ρ : Nat → Nat} {H : Heap} {w : World} {n : Nat} {hn : C.w0.heap.size ≤ n} {x : AV} {v : Value} (h : VR (C.at n hn) ρ H w x v) : VR C ρ H w x v :=
  VR.wh (C := C.at n hn) (n := C.lo) (hn := C.hlo) (us := C.us) (ms := C.mks) h

theorem VRs.wh {ρ : Nat → Nat} {H : Heap} {w : World} {n : Nat} {hn : C.w0.heap.size ≤ n} {us : List Deferred} {ms : Option (List Nat)} : ∀ {xs : List AV} {vs : List Value}, VRs C ρ H w xs vs → VRs (C.wh n hn us ms) ρ H w xs vs
  | _, _, .nil => .nil
  | _, _, .cons h hs => .cons h.wh (VRs.wh hs)
theorem VRs.at {ρ : Nat → Nat} {H : Heap} {w : World} {n : Nat} {hn : C.w0.heap.size ≤ n} {xs : List AV} {vs : List Value} (h : VRs C ρ H w xs vs) : VRs (C.at n hn) ρ H w xs vs := h.wh

theorem BkR.wh {ρ : Nat → Nat} {H : Heap} {w : World} {n b : Nat} {hn : C.w0.heap.size ≤ n} {us : List Deferred} {ms : Option (List Nat)} {x : Bk} (h : BkR C ρ H w b x) : BkR (C.wh n hn us ms) ρ H w b x := by
  cases x with
  | vars e cells => obtain ⟨c, h1, h2, h3⟩ := h; exact ⟨c, h1, h2.wh, h3⟩
  | row e t l => exact h
  | loop r => obtain ⟨fn, tmps, d, h1, h2, h3⟩ := h; exact ⟨fn, tmps, d, h1, h2, fun t => (h3 t).wh⟩
  | dic k l => obtain ⟨es, n, h1, h2⟩ := h; exact ⟨es, n, h1, h2.imp fun _ _ => VR.wh⟩
  | any => exact h

theorem MRel.wh {ρ : Nat → Nat} {H : Heap} {next : Nat} {w : World} {n : Nat} {hn : C.w0.heap.size ≤ n} {us : List Deferred} {ms : Option (List Nat)} (h : MRel C ρ H next w) : MRel (C.wh n hn us ms) ρ H next w :=
  ⟨h.below, h.nodup, h.lt, h.inj, h.low, fun k b hb => (h.mem k b hb).wh⟩
theorem MRel.at {ρ : Nat → Nat} {H : Heap} {next : Nat} {w : World} {n : Nat} {hn : C.w0.heap.size ≤ n} (h : MRel C ρ H next w) : MRel (C.at n hn) ρ H next w := h.wh

theorem MRel.back {ρ : Nat → Nat} {H : Heap} {next : Nat} {w : World} {n : Nat} {hn : C.w0.heap.size ≤ n} (h : MRel (C.at n hn) ρ H next w) : MRel C ρ H next w :=
  MRel.wh (C := C.at n hn) (n := C.lo) (hn := C.hlo) (us := C.us) (ms := C.mks) h

theorem Fr.back {ρ ρ' : Nat → Nat} {H H' : Heap} {w w' : World} {m n : Nat} {hn : C.w0.heap.size ≤ n} (h : Fr (C.at n hn) m ρ H w ρ' H' w') : Fr C m ρ H w ρ' H' w' :=
  ⟨h.data, h.keys, h.rows, h.size⟩

/-! A frame's way out: the marks of its ranges over functions are taken. -/
theorem MRel.shut {ρ : Nat → Nat} {H : Heap} {next : Nat} {w : World} (hm : MRel C ρ H next w) {d : Nat} (hd : w.heap[d]? = some (.deferred (some []))) (hk : ∀ k ∈ H.keys, ρ k ≠ d) (hlow : C.w0.heap.size ≤ d) (o : Obj) :
    MRel C ρ H next (w.putObj d o) ∧ ∀ x v, VR C ρ H w x v → VR C ρ H (w.putObj d o) x v := by
  have hdC : ∀ b c e fr, Ok C ρ H w b → w.heap[b]? = some (.cells c e fr) → Ok C ρ H (w.putObj d o) b ∧ (w.putObj d o).heap[b]? = w.heap[b]? := by
    intro b c e fr hb hc
    have hne : b ≠ d := by intro e; rw [e, hd] at hc; cases hc
    exact ⟨⟨hb.1, by simpa using hb.2.1, hb.2.2⟩, World.putObj_heap_other hne⟩
  have hv : ∀ x v, VR C ρ H w x v → VR C ρ H (w.putObj d o) x v := by
    intro x v h
    have := VR.mapC (p := fun _ => true) (f := fun _ _ _ => .no) (ρ' := ρ) (H' := H) hdC (fun k hk _ => ⟨hk, rfl⟩)
      (fun k e t l hmem _ => ⟨l, hmem, Nat.le_refl _, fun c fr hc => ⟨c, fr, by rw [World.putObj_heap_other (hk k (mem_keys hmem))]; exact hc, rfl⟩⟩) (fun _ _ _ _ h => by cases h) h
    rwa [AV.map_true] at this
  refine ⟨⟨?_, hm.nodup, hm.lt, hm.inj, hm.low, fun k b hb => ?_⟩, hv⟩
  · exact hm.below.trans ⟨rfl, rfl, rfl, by simp, fun i hi => World.putObj_heap_other (by omega)⟩
  · have hbr := hm.mem k b hb
    have he : (w.putObj d o).heap[ρ k]? = w.heap[ρ k]? := World.putObj_heap_other (hk k (mem_keys hb))
    cases b with
    | vars e cells => obtain ⟨c, h1, h2, h3⟩ := hbr; exact ⟨c, he.trans h1, h2.imp hv, h3⟩
    | row e t l => obtain ⟨c, h1, h2, h3, h4, h5⟩ := hbr; exact ⟨c, he.trans h1, h2, h3, RdL.mono (fun x cs => Rd.monoC hdC t x cs) _ _ h4, h5⟩
    | loop r => obtain ⟨fn, tmps, dd, h1, h2, h3⟩ := hbr; exact ⟨fn, tmps, dd, he.trans h1, h2, fun t => hv _ _ (h3 t)⟩
    | dic k l => obtain ⟨es, n, h1, h2⟩ := hbr; exact ⟨es, n, he.trans h1, h2.imp hv⟩
    | any => obtain ⟨o', h1⟩ := hbr; exact ⟨o', he.trans h1⟩

theorem marks_leave {F : Fence} {n : Nat} {ρ : Nat → Nat} {H : Heap} {next : Nat} {fn : Func} {tmps : Array Value} {R : Ending → World → Prop} {u : FrameMode} (hu : u ≠ .run) {rest : List Deferred} : ∀ (ds : List Nat) (w : World), MRel C ρ H next w → ds.Nodup →
    (∀ d ∈ ds, (C.lo ≤ d ∧ ∀ k ∈ H.keys, ρ k ≠ d) ∧ w.heap[d]? = some (.deferred (some []))) →
    (∀ w'', MRel C ρ H next w'' → (∀ x v, VR C ρ H w x v → VR C ρ H w'' x v) → (∀ b, b < C.lo → w''.heap[b]? = w.heap[b]?) → (∀ k ∈ H.keys, w''.heap[ρ k]? = w.heap[ρ k]?) → w''.heap.size = w.heap.size → LeavesInM F n P fn tmps R rest u w'') →
    LeavesInM F n P fn tmps R (ds.map (fun d => { target := .collected d, args := #[] }) ++ rest) u w
  | [], w, hm, _, _, h => h w hm (fun _ _ h => h) (fun _ _ => rfl) (fun _ _ => rfl) rfl
  | d :: ds, w, hm, hnd, hds, h => by
    obtain ⟨⟨hlo, hk⟩, hd⟩ := hds d List.mem_cons_self
    obtain ⟨hnd1, hnd2⟩ := List.nodup_cons.1 hnd
    obtain ⟨hm', hv'⟩ := hm.shut hd hk (Nat.le_trans C.hlo hlo) (.deferred none)
    refine ⟨hu, Or.inl ⟨d, w.putObj d (.deferred none), rfl, run_takeDeferred hd, ?_⟩⟩
    refine marks_leave hu ds _ hm' hnd2 (fun e he => ?_) (fun w'' g1 g2 g3 g4 g5 => h w'' g1 (fun x v hx => g2 x v (hv' x v hx)) (fun b hb => ?_) (fun k hk' => ?_) (by rw [g5]; simp))
    · obtain ⟨h1, h2⟩ := hds e (List.mem_cons_of_mem _ he)
      refine ⟨h1, ?_⟩
      rw [World.putObj_heap_other (fun e' : e = d => hnd1 (e' ▸ he))]
      exact h2
    · rw [g3 b hb, World.putObj_heap_other (by omega)]
    · rw [g4 k hk', World.putObj_heap_other (hk k hk')]

/-- How a body's end becomes a call's end. -/
theorem ret_end (hu : C.us = []) (hmk : C.mks = none) {F : Fence} {n : Nat} {ρ : Nat → Nat} {fn : Func} {σ : St} {a : Act} {w : World} {Q : List AV → St → Prop} {R : Ending → World → Prop} (hs : SRel C ρ σ a w) (h : (resT P σ fn.results.toList).holds fun l => Q l σ)
    (hR : ∀ l vs w'', Q l σ → MRel C ρ σ.H σ.next w'' → VRs C ρ σ.H w'' l vs → (∀ b, b < C.lo → w''.heap[b]? = w.heap[b]?) → (∀ k ∈ σ.H.keys, w''.heap[ρ k]? = w.heap[ρ k]?) → w''.heap.size = w.heap.size → R (.returned (resV vs)) w'') :
    LeavesInM F n P fn a.tmps R a.defers .returning w := by
  obtain ⟨hlo, ds, h1, h2, h3, -⟩ := hs.defers
  rw [h1, hu]
  refine marks_leave (by simp) ds w hs.m h2 h3 (fun w'' g1 g2 g3 g4 g5 => ?_)
  obtain ⟨l, hl1, hl2⟩ := T.leaf h
  have hs' : SRel C ρ σ { a with defers := [] } w'' := ⟨g1, fun t => g2 _ _ (hs.slots t), hs.size, Dfs.nil (by rw [g5]; exact hlo) hu hmk⟩
  obtain ⟨us, k1, k2⟩ := resT_sound (P := P) hs' _ _ hl1
  exact ⟨_, results_run k1, hR l us w'' hl2 g1 k2 g3 g4 g5⟩

theorem bindS_rel {ρ : Nat → Nat} {w : World} : ∀ (ps : List Nat) (as : List AV) (vs : List Value) (σ : St) (a : Act), SRel C ρ σ a w → VRs C ρ σ.H w as vs →
    SRel C ρ (bindS σ ps as) { a with tmps := (ps.zip vs).foldl (fun t x => t.setIfInBounds x.1 x.2) a.tmps } w ∧ (bindS σ ps as).H = σ.H ∧ (bindS σ ps as).next = σ.next
  | [], as, vs, σ, a, hs, hv => by cases as <;> exact ⟨hs, rfl, rfl⟩
  | p :: ps, [], vs, σ, a, hs, hv => by cases hv; exact ⟨hs, rfl, rfl⟩
  | p :: ps, x :: as, vs, σ, a, hs, hv => by
    cases hv with
    | @cons _ v _ vs h1 h2 =>
      have h3 := hs.put (dst := some p) h1
      obtain ⟨g1, g2, g3⟩ := bindS_rel ps as vs (σ.put (some p) x) (a.put (some p) v) h3 (by rw [St.put_H]; exact h2)
      refine ⟨g1, ?_, ?_⟩
      · rw [show bindS σ (p :: ps) (x :: as) = bindS (σ.put (some p) x) ps as from rfl, g2, St.put_H]
      · rw [show bindS σ (p :: ps) (x :: as) = bindS (σ.put (some p) x) ps as from rfl, g3, St.put_next]

end
end Go.Vg
