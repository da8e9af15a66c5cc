/-
  The engine, part W: calls that are entered, and how a contract comes out of a body. Own work; no condition.
-/
import Derived.Test.YtehhddgeoekdlaaGreatDoorEngV
namespace Go.Vg
open Go Go.RowKit

def numbered : Nat → List AV → List (Nat × AV)
  | _, [] => []
  | i, a :: as => (i, a) :: numbered (i + 1) as

def resT (P : Program) (σ : St) : List ResultVar → T (List AV)
  | [] => .ok []
  | .tmp t :: r => (resT P σ r).bind fun l => .ok (look σ.slots t :: l)
  | .cell a t :: r => (loadAV P σ.H t (look σ.slots a)).bind fun x => (resT P σ r).bind fun l => .ok (x :: l)

def retQ (P : Program) (fn : Func) (K : List AV → St → Prop) : Exit → St → Prop
  | .normal, σ => (resT P σ fn.results.toList).holds fun l => K l σ
  | .ret, σ => (resT P σ fn.results.toList).holds fun l => K l σ
  | _, _ => False

def callQ (K : AV → Heap → Nat → Prop) (l : List AV) (σ : St) : Prop := K (resAV l) σ.H σ.next

/-- The parameters of a round. -/
def bindS (σ : St) : List Nat → List AV → St
  | p :: ps, a :: as => bindS (σ.put (some p) a) ps as
  | _, _ => σ

/-- What a round's way out leaves pending. -/
def jumpOf : Exit → Option (Option Code)
  | .normal => some none
  | .ret => some (some .ret)
  | .exit id => some (some (.exit id))
  | _ => none

def roundEnd (st : Option Code) : LoopState := match st with | none => .ready | some _ => .done

/-- Behind a round's body. -/
def endQ (l : Nat) (K : AV → Heap → Nat → Prop) (e : Exit) (σ : St) : Prop :=
  match jumpOf e with
  | some j => match σ.H.find l with
    | some (.loop r) => K (.d .bool j.isNone) (σ.H.up l (.loop { r with st := roundEnd j, pend := j })) σ.next
    | _ => False
  | none => False

/-- Behind the assignment of a round's parameters: the body. -/
def bodyQ (l : Nat) (X : St → Prop) : Exit → St → Prop
  | .normal, σ => match σ.H.find l with
    | some (.loop r) => match r.st with
      | .ready => X { σ with H := σ.H.up l (.loop { r with st := .busy }) }
      | _ => False
    | _ => False
  | _, _ => False

/-- A call that is entered. -/
def callS (P : Program) (G : World → Prop) (Γ : Cons) (call : CallT) : CallT := fun t args H next K => match t with
  | .fn f => match P.funcs[f]? with
    | some fn => match fn.body with
      | some code => enters P f = true ∧ Nat.ble args.length fn.ntmps = true ∧
          exec P G Γ call none code { slots := numbered 0 args, H := H, next := next, n := fn.ntmps } (retQ P fn (callQ K))
      | none => False
    | none => False
  | .yld l => match H.find l with
    | some (.loop r) => match Nat.beq args.length r.ps.size with
      | true => exec P G Γ call (some l) r.assign (bindS { slots := r.slots, H := H, next := next, n := r.n } r.ps.toList args)
          (bodyQ l fun σ => exec P G Γ call (some l) r.body σ (endQ l K))
      | false => False
    | _ => False

/-- Calls that are entered, to a depth. -/
def callD (P : Program) (G : World → Prop) (Γ : Cons) : Nat → CallT
  | 0 => fun _ _ _ _ _ => False
  | d + 1 => callS P G Γ (callD P G Γ d)

/-- All rows given away. -/
def lendF (H : Heap) : Nat → Nat → Nat → AV := fun k off len =>
  match H.find k with
  | some (.row _ t l) => .d (.sl t) ((l.drop off).take len)
  | _ => .no

def toRes : (t : Ty) → List AV → Option t.T
  | .unit, [] => some ()
  | .pair t u, a :: as => match toD t a with
    | some x => match toRes u as with
      | some y => some (x, y)
      | none => none
    | none => none
  | _, _ => none

def finQ (t : Ty) (y : t.T) (l : List AV) (σ : St) : Prop :=
  match toRes t (AV.maps (fun _ => false) (lendF σ.H) l) with
  | some z => z = y
  | none => False

/-- What every datum of a type is known to be. -/
def Wf : (t : Ty) → t.T → Prop
  | .int k, (x : Int) => k.min ≤ x ∧ x ≤ k.max
  | .bool, _ => True
  | .str, (x : List UInt8) => x.length ≤ lim
  | .unit, _ => True
  | .pair t u, x => Wf t x.1 ∧ Wf u x.2
  | .arr n t, (x : List t.T) => x.length = n ∧ ∀ y ∈ x, Wf t y
  | .sl t, (x : List t.T) => x.length ≤ lim ∧ ∀ y ∈ x, Wf t y

def argAVs : (t : Ty) → t.T → List AV
  | .pair t u, x => .d t x.1 :: argAVs u x.2
  | _, _ => []

section
variable {C : Ctx} {P : Program} {G : World → Prop}

theorem RdL.wf {α : Type} {R : α → List Value → Prop} {W : α → Prop} (h : ∀ x cs, R x cs → W x) : ∀ (l : List α) (cs : List Value), RdL R l cs → ∀ y ∈ l, W y
  | [], _, _, y, hy => by cases hy
  | x :: xs, cs, ⟨c1, c2, _, h1, h2⟩, y, hy => by
    rcases List.mem_cons.1 hy with rfl | hy
    · exact h _ _ h1
    · exact RdL.wf h xs c2 h2 y hy

theorem Rd.wf {ok : Nat → Prop} {w : World} : ∀ (t : Ty) (x : t.T) (cs : List Value), Rd ok w t x cs → Wf t x
  | .int _, _, _, ⟨_, h⟩ => h
  | .bool, _, _, _ => trivial
  | .str, _, _, ⟨_, h⟩ => h
  | .unit, _, _, _ => trivial
  | .pair t u, _, _, ⟨_, _, _, h1, h2⟩ => ⟨Rd.wf t _ _ h1, Rd.wf u _ _ h2⟩
  | .arr _ t, _, _, ⟨hl, hr⟩ => ⟨hl, RdL.wf (fun x cs => Rd.wf t x cs) _ _ hr⟩
  | .sl t, x, _, ⟨_, _, _, _, hl, h3⟩ => by
    refine ⟨hl, ?_⟩
    rcases h3 with h3 | ⟨_, _, _, _, _, _, _, _, _, hr⟩
    · rw [h3]; intro y hy; cases hy
    · exact RdL.wf (fun x cs => Rd.wf t x cs) _ _ hr

theorem RdVs.wf {ok : Nat → Prop} {w : World} : ∀ (t : Ty) (x : t.T) (vs : List Value), RdVs ok w t x vs → Wf t x
  | .unit, _, _, _ => trivial
  | .pair t u, _, _, ⟨_, _, _, h1, h2⟩ => ⟨Rd.wf t _ _ h1.cells, RdVs.wf u _ _ h2⟩
  | .int _, _, _, h => h.elim
  | .bool, _, _, h => h.elim
  | .str, _, _, h => h.elim
  | .arr _ _, _, _, h => h.elim
  | .sl _, _, _, h => h.elim

theorem RdVs.args {ok : Nat → Prop} {ρ : Nat → Nat} {H : Heap} {w : World} (hk : ∀ b, ok b → Ok C ρ H w b) : ∀ (t : Ty) (x : t.T) (vs : List Value), RdVs ok w t x vs → VRs C ρ H w (argAVs t x) vs
  | .unit, _, vs, h => by obtain rfl : vs = [] := h; exact .nil
  | .pair t u, x, vs, ⟨v, us, e, h1, h2⟩ => by subst e; exact .cons (.d (h1.mono (fun b hb => ⟨hk b hb, rfl⟩))) (RdVs.args hk u _ _ h2)
  | .int _, _, _, h => h.elim
  | .bool, _, _, h => h.elim
  | .str, _, _, h => h.elim
  | .arr _ _, _, _, h => h.elim
  | .sl _, _, _, h => h.elim

theorem numbered_look : ∀ (as : List AV) (i t : Nat), look (numbered i as) t = if i ≤ t then (as[t - i]?).getD .no else .no
  | [], i, t => by simp [numbered, look]
  | a :: as, i, t => by
    simp only [numbered, look]
    cases hb : Nat.beq i t with
    | true => have := beq_true hb; subst this; simp
    | false =>
      have hne := beq_false hb
      simp only
      rw [numbered_look as (i + 1) t]
      by_cases h : i + 1 ≤ t
      · rw [if_pos h, if_pos (by omega)]
        rw [show t - i = (t - (i + 1)) + 1 by omega]
        simp
      · rw [if_neg h]
        by_cases h2 : i ≤ t
        · omega
        · rw [if_neg h2]

/-- The frame in which a function begins. -/
theorem entry_rel {ρ : Nat → Nat} {H : Heap} {next : Nat} {w : World} {args : List AV} {vs : List Value} {n : Nat} (hm : MRel C ρ H next w) (hlo : C.lo ≤ w.heap.size) (hv : VRs C ρ H w args vs) (hn : args.length ≤ n) :
    SRel C ρ { slots := numbered 0 args, H := H, next := next, n := n } { tmps := (⟨vs⟩ : Array Value) ++ Array.replicate (n - (⟨vs⟩ : Array Value).size) undef, defers := [] } w := by
  have hlen := hv.length
  refine ⟨hm, fun t => ?_, by simp; omega, Dfs.nil hlo⟩
  show VR C ρ H w (look (numbered 0 args) t) _
  rw [numbered_look args 0 t, if_pos (Nat.zero_le _), Nat.sub_zero]
  cases ha : args[t]? with
  | none => exact .no
  | some a =>
    obtain ⟨v, h1, h2⟩ := hv.get ha
    have hlt : t < vs.length := (List.getElem?_eq_some_iff.1 h1).1
    have e : ((⟨vs⟩ : Array Value) ++ Array.replicate (n - (⟨vs⟩ : Array Value).size) undef).getD t undef = v := by
      rw [Array.getD_eq_getD_getElem?, Array.getElem?_append_left (by simpa using hlt)]
      have : (⟨vs⟩ : Array Value)[t]? = some v := by simpa using h1
      rw [this]; rfl
    rw [e]
    exact h2

def resOne (a : Act) : ResultVar → Sem Value
  | .tmp t => pure (a.tmps.getD t undef)
  | .cell x t => do loadVar t (← asAddr (a.tmps.getD x undef))

theorem resT_sound {ρ : Nat → Nat} {σ : St} {a : Act} {w : World} (hs : SRel C ρ σ a w) : ∀ (rs : List ResultVar) (l : List AV), (resT P σ rs).Leaf l →
    ∃ vs, (rs.mapM (resOne a)).run P w = .ok vs w ∧ VRs C ρ σ.H w l vs
  | [], l, h => by cases h; exact ⟨[], rfl, .nil⟩
  | .tmp t :: r, l, h => by
    obtain ⟨l', h1, h2⟩ := T.Leaf.bind h
    cases h2
    obtain ⟨vs, h3, h4⟩ := resT_sound hs r l' h1
    exact ⟨_ :: vs, by simp only [List.mapM_cons, resOne, Sem.run_bind, Sem.run_pure, Result.andThen_ok, h3], .cons (hs.slots t) h4⟩
  | .cell x t :: r, l, h => by
    obtain ⟨y, h1, h2⟩ := T.Leaf.bind h
    obtain ⟨l', h3, h4⟩ := T.Leaf.bind h2
    cases h4
    obtain ⟨vs, h5, h6⟩ := resT_sound hs r l' h3
    have hv := hs.slots x
    obtain ⟨v, h7, h8⟩ := loadAV_sound (fun _ h => h) hs.m h1 hv
    refine ⟨v :: vs, ?_, .cons h8 h6⟩
    have hl : (resOne a (.cell x t)).run P w = .ok v w := by
      have hptr : ∃ ad, a.tmps.getD x undef = .pointer (some ad) := by
        generalize a.tmps.getD x undef = u at hv
        unfold loadAV at h1
        split at h1
        · rename_i he; rw [he] at hv; cases hv; exact ⟨_, rfl⟩
        · rename_i he; rw [he] at hv; cases hv; exact ⟨_, rfl⟩
        · rename_i he; rw [he] at hv; cases hv; exact ⟨_, rfl⟩
        · rename_i he; rw [he] at hv; cases hv; exact ⟨_, rfl⟩
        · cases h1
      obtain ⟨ad, had⟩ := hptr
      rw [had] at h7
      show (do loadVar t (← asAddr (a.tmps.getD x undef)) : Sem Value).run P w = _
      rw [had]
      simpa [Instr.loadAt, Instr.sureAddr, asAddr] using h7
    simp only [List.mapM_cons, Sem.run_bind, hl, Result.andThen_ok, h5, Sem.run_pure]

theorem results_run {fn : Func} {a : Act} {w : World} {vs : List Value} (h : (fn.results.toList.mapM (resOne a)).run P w = .ok vs w) : (results fn a.tmps).run P w = .ok (resV vs) w := by
  have hm : (fn.results.mapM (resOne a)).run P w = .ok vs.toArray w := by
    rw [Array.mapM_eq_mapM_toList]
    simp only [Sem.run_map]
    rw [h]
    rfl
  have e : results fn a.tmps = (do let vs ← fn.results.mapM (resOne a); pure (if h : vs.size = 1 then vs[0] else .tuple vs) : Sem Value) := by
    unfold results
    congr 2
  rw [e]
  simp only [Sem.run_bind, hm, Result.andThen_ok, Sem.run_pure]
  congr 1
  match vs with
  | [] => rfl
  | [v] => rfl
  | v :: u :: r => rfl

theorem lend_all {ρ : Nat → Nat} {H : Heap} {next : Nat} {w : World} (hm : MRel C ρ H next w) {x : AV} {v : Value} (h : VR C ρ H w x v) : VR C ρ [] w (x.map (fun _ => false) (lendF H)) v := by
  have hd : ∀ b, Ok C ρ H w b → Ok C ρ [] w b ∧ w.heap[b]? = w.heap[b]? := fun b ⟨h1, h2, _⟩ => ⟨⟨h1, h2, by intro k hk; cases hk⟩, rfl⟩
  refine VR.map hd (fun _ _ h => by cases h) (fun _ _ _ _ _ h => by cases h) ?_ h
  intro k off len v _ hov
  unfold lendF
  cases hov with
  | own hk hl hc hmx hb hs ha =>
    split
    · rename_i e t l hf
      have hu := Heap.mem_unique hm.nodup (Heap.find_mem hf) hk
      injection hu with hu1 hu2 hu3
      subst hu1; subst hu2
      have hu3 := eq_of_heq hu3
      subst hu3
      obtain ⟨c, h1, h2, h3, h4, h5⟩ := hm.ownCells hk hl
      refine .d ⟨_, ⟨_, _, by rw [h3], by rw [h3]; exact hc, by rw [h3]; exact h4, ?_⟩, rfl⟩
      by_cases hnil : (l.drop off).take len = []
      · exact Or.inl hnil
      · have hpos : 0 < len := by rw [← h3]; exact List.length_pos_iff.2 hnil
        have ha' := ha.resolve_right (fun h => by omega)
        exact Or.inr ⟨ρ k, off * t.size, c, e, (0, 0), ha', ⟨Or.inr (hm.low k (mem_keys hk)), hm.key_lt (mem_keys hk), by intro k hk; cases hk⟩, h1, h2, RdL.mono (fun x cs => Rd.mono hd t x cs) _ _ h5⟩
    · exact .no

theorem toRes_sound {ρ : Nat → Nat} {w : World} : ∀ (t : Ty) (as : List AV) (vs : List Value) (x : t.T), toRes t as = some x → VRs C ρ [] w as vs → RdVs (Ok C ρ [] w) w t x vs
  | .unit, [], vs, x, h, hv => by cases hv; rfl
  | .pair t u, a :: as, vs, x, h, hv => by
    cases hv with
    | cons h1 h2 =>
      simp only [toRes] at h
      split at h
      · rename_i y hy
        split at h
        · rename_i z hz
          injection h with h; subst h
          exact ⟨_, _, rfl, toD_sound hy h1, toRes_sound u as _ z hz h2⟩
        · cases h
      · cases h
  | .int _, _, _, _, h, _ => by simp [toRes] at h
  | .bool, _, _, _, h, _ => by simp [toRes] at h
  | .str, _, _, _, h, _ => by simp [toRes] at h
  | .arr _ _, _, _, _, h, _ => by simp [toRes] at h
  | .sl _, _, _, _, h, _ => by simp [toRes] at h
  | .unit, _ :: _, _, _, h, _ => by simp [toRes] at h
  | .pair _ _, [], _, _, h, _ => by simp [toRes] at h

/-! The same, as seen by another activation. -/
def Ctx.at (C : Ctx) (n : Nat) (h : C.w0.heap.size ≤ n) : Ctx := { C with lo := n, hlo := h }

theorem VR.at {ρ : Nat → Nat} {H : Heap} {w : World} {n : Nat} {hn : C.w0.heap.size ≤ n} {x : AV} {v : Value} (h : VR C ρ H w x v) : VR (C.at n hn) ρ H w x v := by
  refine VR.rec (motive_1 := fun x v _ => VR (C.at n hn) ρ H w x v) (motive_2 := fun xs vs _ => VRs (C.at n hn) ρ H w xs vs)
    ?_ ?_ ?_ ?_ ?_ ?_ ?_ ?_ ?_ ?_ ?_ ?_ ?_ ?_ ?_ ?_ ?_ ?_ ?_ h
  · intro t x v h; exact .d h
  · intro k off h; exact .ptr h
  · intro k i e t l h hi; exact .eptr h hi
  · intro k i f o u e t l h hi ho; exact .efp h hi ho
  · intro t x b o c e fr hb hc ho h; exact .dptr hb hc ho h
  · intro k off len e t l a cap c fr h hl hc hm hb hs ha; exact .own h hl hc hm hb hs ha
  · intro k n h hn; exact .sv h hn
  · exact .nsl
  · exact .nilp
  · exact .nili
  · exact .nni
  · intro g first caps vf vc _ _ h1 h2; exact .fn h1 h2
  · intro l h; exact .yld h
  · intro cells vs _ h1 h; exact .ag h h1
  · intro l vs _ h; exact .tup h
  · exact .und
  · intro v; exact .no
  · exact .nil
  · intro a v as vs _ _ h hs; exact .cons h hs

theorem VR.back {ρ : Nat → Nat} {H : Heap} {w : World} {n : Nat} {hn : C.w0.heap.size ≤ n} {x : AV} {v : Value} (h : VR (C.at n hn) ρ H w x v) : VR C ρ H w x v :=
  VR.at (C := C.at n hn) (n := C.lo) (hn := C.hlo) h

theorem VRs.at {ρ : Nat → Nat} {H : Heap} {w : World} {n : Nat} {hn : C.w0.heap.size ≤ n} : ∀ {xs : List AV} {vs : List Value}, VRs C ρ H w xs vs → VRs (C.at n hn) ρ H w xs vs
  | _, _, .nil => .nil
  | _, _, .cons h hs => .cons h.at (VRs.at hs)

theorem BkR.at {ρ : Nat → Nat} {H : Heap} {w : World} {n b : Nat} {hn : C.w0.heap.size ≤ n} {x : Bk} (h : BkR C ρ H w b x) : BkR (C.at n hn) ρ H w b x := by
  cases x with
  | vars e cells => obtain ⟨c, h1, h2, h3⟩ := h; exact ⟨c, h1, h2.at, h3⟩
  | row e t l => exact h
  | loop r => obtain ⟨fn, tmps, d, h1, h2, h3⟩ := h; exact ⟨fn, tmps, d, h1, h2, fun t => (h3 t).at⟩
  | any => exact h

theorem MRel.at {ρ : Nat → Nat} {H : Heap} {next : Nat} {w : World} {n : Nat} {hn : C.w0.heap.size ≤ n} (h : MRel C ρ H next w) : MRel (C.at n hn) ρ H next w :=
  ⟨h.below, h.nodup, h.lt, h.inj, h.low, fun k b hb => (h.mem k b hb).at⟩

theorem MRel.back {ρ : Nat → Nat} {H : Heap} {next : Nat} {w : World} {n : Nat} {hn : C.w0.heap.size ≤ n} (h : MRel (C.at n hn) ρ H next w) : MRel C ρ H next w :=
  MRel.at (C := C.at n hn) (n := C.lo) (hn := C.hlo) h

theorem Fr.back {ρ ρ' : Nat → Nat} {H H' : Heap} {w w' : World} {m n : Nat} {hn : C.w0.heap.size ≤ n} (h : Fr (C.at n hn) m ρ H w ρ' H' w') : Fr C m ρ H w ρ' H' w' :=
  ⟨h.data, h.keys, h.rows, h.size⟩

/-! A frame's way out: the marks of its ranges over functions are taken. -/
theorem MRel.shut {ρ : Nat → Nat} {H : Heap} {next : Nat} {w : World} (hm : MRel C ρ H next w) {d : Nat} (hd : w.heap[d]? = some (.deferred (some []))) (hk : ∀ k ∈ H.keys, ρ k ≠ d) (hlow : C.w0.heap.size ≤ d) (o : Obj) :
    MRel C ρ H next (w.putObj d o) ∧ ∀ x v, VR C ρ H w x v → VR C ρ H (w.putObj d o) x v := by
  have hdC : ∀ b c e fr, Ok C ρ H w b → w.heap[b]? = some (.cells c e fr) → Ok C ρ H (w.putObj d o) b ∧ (w.putObj d o).heap[b]? = w.heap[b]? := by
    intro b c e fr hb hc
    have hne : b ≠ d := by intro e; rw [e, hd] at hc; cases hc
    exact ⟨⟨hb.1, by simpa using hb.2.1, hb.2.2⟩, World.putObj_heap_other hne⟩
  have hv : ∀ x v, VR C ρ H w x v → VR C ρ H (w.putObj d o) x v := by
    intro x v h
    have := VR.mapC (p := fun _ => true) (f := fun _ _ _ => .no) (ρ' := ρ) (H' := H) hdC (fun k hk _ => ⟨hk, rfl⟩)
      (fun k e t l hmem _ => ⟨l, hmem, Nat.le_refl _, fun c fr hc => ⟨c, fr, by rw [World.putObj_heap_other (hk k (mem_keys hmem))]; exact hc, rfl⟩⟩) (fun _ _ _ _ h => by cases h) h
    rwa [AV.map_true] at this
  refine ⟨⟨?_, hm.nodup, hm.lt, hm.inj, hm.low, fun k b hb => ?_⟩, hv⟩
  · exact hm.below.trans ⟨rfl, rfl, rfl, by simp, fun i hi => World.putObj_heap_other (by omega)⟩
  · have hbr := hm.mem k b hb
    have he : (w.putObj d o).heap[ρ k]? = w.heap[ρ k]? := World.putObj_heap_other (hk k (mem_keys hb))
    cases b with
    | vars e cells => obtain ⟨c, h1, h2, h3⟩ := hbr; exact ⟨c, he.trans h1, h2.imp hv, h3⟩
    | row e t l => obtain ⟨c, h1, h2, h3, h4, h5⟩ := hbr; exact ⟨c, he.trans h1, h2, h3, RdL.mono (fun x cs => Rd.monoC hdC t x cs) _ _ h4, h5⟩
    | loop r => obtain ⟨fn, tmps, dd, h1, h2, h3⟩ := hbr; exact ⟨fn, tmps, dd, he.trans h1, h2, fun t => hv _ _ (h3 t)⟩
    | any => obtain ⟨o', h1⟩ := hbr; exact ⟨o', he.trans h1⟩

theorem marks_leave {F : Fence} {n : Nat} {ρ : Nat → Nat} {H : Heap} {next : Nat} {fn : Func} {tmps : Array Value} {R : Ending → World → Prop} : ∀ (ds : List Nat) (w : World), MRel C ρ H next w → ds.Nodup →
    (∀ d ∈ ds, (C.lo ≤ d ∧ ∀ k ∈ H.keys, ρ k ≠ d) ∧ w.heap[d]? = some (.deferred (some []))) →
    (∀ w'', MRel C ρ H next w'' → (∀ x v, VR C ρ H w x v → VR C ρ H w'' x v) → (∀ b, b < C.lo → w''.heap[b]? = w.heap[b]?) → (∀ k ∈ H.keys, w''.heap[ρ k]? = w.heap[ρ k]?) → w''.heap.size = w.heap.size → LeavesIn F n P fn tmps R [] .returning w'') →
    LeavesInM F n P fn tmps R (ds.map (fun d => { target := .collected d, args := #[] })) .returning w
  | [], w, hm, _, _, h => h w hm (fun _ _ h => h) (fun _ _ => rfl) (fun _ _ => rfl) rfl
  | d :: ds, w, hm, hnd, hds, h => by
    obtain ⟨⟨hlo, hk⟩, hd⟩ := hds d List.mem_cons_self
    obtain ⟨hnd1, hnd2⟩ := List.nodup_cons.1 hnd
    obtain ⟨hm', hv'⟩ := hm.shut hd hk (Nat.le_trans C.hlo hlo) (.deferred none)
    refine ⟨by simp, Or.inl ⟨d, w.putObj d (.deferred none), rfl, run_takeDeferred hd, ?_⟩⟩
    refine marks_leave ds _ hm' hnd2 (fun e he => ?_) (fun w'' g1 g2 g3 g4 g5 => h w'' g1 (fun x v hx => g2 x v (hv' x v hx)) (fun b hb => ?_) (fun k hk' => ?_) (by rw [g5]; simp))
    · obtain ⟨h1, h2⟩ := hds e (List.mem_cons_of_mem _ he)
      refine ⟨h1, ?_⟩
      rw [World.putObj_heap_other (fun e' : e = d => hnd1 (e' ▸ he))]
      exact h2
    · rw [g3 b hb, World.putObj_heap_other (by omega)]
    · rw [g4 k hk', World.putObj_heap_other (hk k hk')]

/-- How a body's end becomes a call's end. -/
theorem ret_end {F : Fence} {n : Nat} {ρ : Nat → Nat} {fn : Func} {σ : St} {a : Act} {w : World} {Q : List AV → St → Prop} {R : Ending → World → Prop} (hs : SRel C ρ σ a w) (h : (resT P σ fn.results.toList).holds fun l => Q l σ)
    (hR : ∀ l vs w'', Q l σ → MRel C ρ σ.H σ.next w'' → VRs C ρ σ.H w'' l vs → (∀ b, b < C.lo → w''.heap[b]? = w.heap[b]?) → (∀ k ∈ σ.H.keys, w''.heap[ρ k]? = w.heap[ρ k]?) → w''.heap.size = w.heap.size → R (.returned (resV vs)) w'') :
    LeavesInM F n P fn a.tmps R a.defers .returning w := by
  obtain ⟨hlo, ds, h1, h2, h3⟩ := hs.defers
  rw [h1]
  refine marks_leave ds w hs.m h2 h3 (fun w'' g1 g2 g3 g4 g5 => ?_)
  obtain ⟨l, hl1, hl2⟩ := T.leaf h
  have hs' : SRel C ρ σ { a with defers := [] } w'' := ⟨g1, fun t => g2 _ _ (hs.slots t), hs.size, Dfs.nil (by rw [g5]; exact hlo)⟩
  obtain ⟨us, k1, k2⟩ := resT_sound (P := P) hs' _ _ hl1
  exact ⟨_, results_run k1, hR l us w'' hl2 g1 k2 g3 g4 g5⟩

theorem bindS_rel {ρ : Nat → Nat} {w : World} : ∀ (ps : List Nat) (as : List AV) (vs : List Value) (σ : St) (a : Act), SRel C ρ σ a w → VRs C ρ σ.H w as vs →
    SRel C ρ (bindS σ ps as) { a with tmps := (ps.zip vs).foldl (fun t x => t.setIfInBounds x.1 x.2) a.tmps } w ∧ (bindS σ ps as).H = σ.H ∧ (bindS σ ps as).next = σ.next
  | [], as, vs, σ, a, hs, hv => by cases as <;> exact ⟨hs, rfl, rfl⟩
  | p :: ps, [], vs, σ, a, hs, hv => by cases hv; exact ⟨hs, rfl, rfl⟩
  | p :: ps, x :: as, vs, σ, a, hs, hv => by
    cases hv with
    | @cons _ v _ vs h1 h2 =>
      have h3 := hs.put (dst := some p) h1
      obtain ⟨g1, g2, g3⟩ := bindS_rel ps as vs (σ.put (some p) x) (a.put (some p) v) h3 (by rw [St.put_H]; exact h2)
      refine ⟨g1, ?_, ?_⟩
      · rw [show bindS σ (p :: ps) (x :: as) = bindS (σ.put (some p) x) ps as from rfl, g2, St.put_H]
      · rw [show bindS σ (p :: ps) (x :: as) = bindS (σ.put (some p) x) ps as from rfl, g3, St.put_next]

theorem callS_sat (hG : GMono G) (hmix : P.follows .mixedOrders = true) {Γ : Cons} (hΓ : Γ.ok P G) {call : CallT} (hcall : CallSat P G call) : CallSat P G (callS P G Γ call) := by
    refine ⟨fun f args H next K h C ρ w vs hC hm hv => ?_, fun l args H next K h C ρ w vs hC hm hv => ?_⟩
    · simp only [callS] at h
      split at h
      · rename_i fn hf
        split at h
        · rename_i code hb
          obtain ⟨he, hle, hex⟩ := h
          have hw0 : C.w0.heap.size ≤ w.heap.size := hm.below.size
          refine ⟨he, callsIn_wideR.1 (callsIn_of_wp_marks (F := wideR none) (n := 0) hf hb trivial ?_)⟩
          refine wpIn_mono (exec_sound hG hmix hΓ hcall code _ _ hex (C.at w.heap.size hw0) hC ρ _ w (entry_rel hm.at (Nat.le_refl _) hv.at (Nat.le_of_ble_eq_true hle)) none rfl) ?_
          rintro e a' w' ⟨ρ', σ', h1, h2, h3, h4⟩
          have fin : (resT P σ' fn.results.toList).holds (fun l => callQ K l σ') → LeavesInM (wideR none) 0 P fn a'.tmps (CallEnd C ρ H next w K) a'.defers .returning w' := by
            intro hh
            refine ret_end h2 hh (fun l us w'' k1 k2 k3 k4 k5 k6 => ⟨_, ρ', _, _, _, rfl, k1, k2.back, (resAV_sound k3).back, ?_, h4⟩)
            refine ⟨fun b hb => ?_, h3.keys, fun k e t l hk hk1 hk2 => ?_, by rw [k6]; exact h3.size⟩
            · obtain ⟨g1, g2⟩ := h3.data b hb
              exact ⟨⟨g1.1, by rw [k6]; exact g1.2.1, g1.2.2⟩, (k4 b hb.2.1).trans g2⟩
            · obtain ⟨l', g1, g2, g3⟩ := h3.rows k e t l hk hk1 hk2
              refine ⟨l', g1, g2, fun c fr hc => ?_⟩
              obtain ⟨c', fr', g4, g5⟩ := g3 c fr hc
              exact ⟨c', fr', by rw [← (h3.keys k hk hk2).2, k5 k hk2, (h3.keys k hk hk2).2]; exact g4, g5⟩
          cases e with
          | normal => exact fin h1
          | ret => exact fin h1
          | _ => exact h1.elim
        · exact h.elim
      · exact h.elim
    · simp only [callS] at h
      split at h
      · rename_i r hfind
        split at h
        · rename_i hlen
          have hlen := beq_true hlen
          have hkey := mem_keys (Heap.find_mem hfind)
          have hlt := hm.lt l hkey
          obtain ⟨fn, tmps, dd, g1, g2, g3⟩ := hm.mem _ _ (Heap.find_mem hfind)
          have hvl := hv.length
          have hw0 : C.w0.heap.size ≤ w.heap.size := hm.below.size
          refine ⟨fn, _, r.assign, r.body, run_yield g1 (by simp; omega), roundIn_of_wpIn trivial ?_⟩
          have hs0 : SRel (C.at w.heap.size hw0) ρ { slots := r.slots, H := H, next := next, n := r.n } { tmps := tmps, defers := [] } w := ⟨hm.at, fun t => (g3 t).at, g2, Dfs.nil (Nat.le_refl _)⟩
          obtain ⟨hs1, hH1, hn1⟩ := bindS_rel r.ps.toList args vs _ _ hs0 hv.at
          have htm : (r.ps.zip (⟨vs⟩ : Array Value)).foldl (fun t (x : Nat × Value) => t.setIfInBounds x.1 x.2) tmps = (r.ps.toList.zip vs).foldl (fun t x => t.setIfInBounds x.1 x.2) tmps := by
            rw [← Array.foldl_toList, Array.toList_zip]
          have hs1' : SRel (C.at w.heap.size hw0) ρ (bindS { slots := r.slots, H := H, next := next, n := r.n } r.ps.toList args) { tmps := (r.ps.zip (⟨vs⟩ : Array Value)).foldl (fun t (x : Nat × Value) => t.setIfInBounds x.1 x.2) tmps, defers := [] } w := by
            rw [htm]; exact hs1
          refine wpIn_mono (exec_sound hG hmix hΓ hcall r.assign _ _ h (C.at w.heap.size hw0) hC ρ _ w hs1' (some (ρ l)) ⟨by rw [hn1]; exact hlt, fun _ => rfl⟩) ?_
          rintro e a1 w1 ⟨ρ1, σ1, k1, k2, k3, k4⟩
          rw [hH1, hn1] at k3
          rw [hn1] at k4
          cases e with
          | normal =>
            simp only [bodyQ] at k1
            split at k1
            · rename_i r1 hf1
              split at k1
              · rename_i hst
                have hkey1 := mem_keys (Heap.find_mem hf1)
                have hρ1 := (k3.keys l hlt hkey1).2
                obtain ⟨fn1, tmps1, d1, b1, b2, b3⟩ := k2.m.mem _ _ (Heap.find_mem hf1)
                have hbr := run_beginRound (P := P) b1 hst
                obtain ⟨hm2, hext2⟩ := k2.m.turn hf1 .busy r1.pend b1 b2 b3
                rw [hρ1] at hbr hm2 hext2
                refine ⟨_, hbr, ?_⟩
                have hfr2 := hext2.fr (n := σ1.next) (fun k _ hk => by rwa [Heap.keys_up] at hk)
                have hs2 := k2.frame (next' := σ1.next) hm2 hfr2 (fun k hk => by rw [Heap.keys_up]; exact hk)
                refine wpIn_mono (exec_sound hG hmix hΓ hcall r.body _ _ k1 (C.at w.heap.size hw0) hC ρ1 _ _ hs2 (some (ρ l)) ⟨Nat.lt_of_lt_of_le hlt k4, fun _ => by rw [hρ1]⟩) ?_
                rintro e a3 w3 ⟨ρ3, σ3, m1, m2, m3, m4⟩
                unfold endQ at m1
                split at m1
                · rename_i j hj
                  split at m1
                  · rename_i r3 hf3
                    have hkey3 := mem_keys (Heap.find_mem hf3)
                    have hρ3 : ρ3 l = ρ l := (m3.keys l (Nat.lt_of_lt_of_le hlt k4) hkey3).2.trans hρ1
                    obtain ⟨fn3, tmps3, d3, c1, c2, c3⟩ := m2.m.mem _ _ (Heap.find_mem hf3)
                    have hend := run_endRound (P := P) j c1
                    have hrs : roundEnd j = (if j.isNone then .ready else .done) := by cases j <;> rfl
                    obtain ⟨hm4, hext4⟩ := m2.m.turn hf3 (roundEnd j) j c1 c2 c3
                    rw [hρ3] at hend hm4 hext4
                    rw [hrs] at hm4 hext4 m1
                    have f2 : Fr (C.at w.heap.size hw0) σ1.next ρ1 σ1.H w1 ρ3 σ3.H w3 := hfr2.trans (Nat.le_refl _) m3
                    have f3 := hext4.fr (n := σ3.next) (fun k _ hk => by rwa [Heap.keys_up] at hk)
                    have hfr := ((k3.trans k4 f2).trans (n' := σ3.next) (Nat.le_trans k4 m4) f3).back
                    generalize w3.putObj (ρ l) (.loop { state := if j.isNone then .ready else .done, pending := j, fn := fn3, tmps := tmps3, params := r3.ps, assign := r3.assign, body := r3.body, defers := d3 }) = W4 at hend hm4 hfr
                    have hce : CallEnd C ρ H next w K (.returned (.bool j.isNone)) W4 := ⟨_, ρ3, _, _, _, rfl, m1, hm4.back, vr_bool, hfr, Nat.le_trans k4 m4⟩
                    cases e with
                    | normal => injection hj with hj; subst hj; exact ⟨_, _, hend, hce⟩
                    | ret => injection hj with hj; subst hj; exact ⟨_, _, hend, hce⟩
                    | exit id => injection hj with hj; subst hj; exact ⟨_, _, hend, hce⟩
                    | _ => cases hj
                  · exact m1.elim
                · exact m1.elim
              · exact k1.elim
            · exact k1.elim
          | _ => exact k1.elim
        · exact h.elim
      · exact h.elim

theorem callD_sat (hG : GMono G) (hmix : P.follows .mixedOrders = true) {Γ : Cons} (hΓ : Γ.ok P G) : ∀ d, CallSat P G (callD P G Γ d)
  | 0 => ⟨fun _ _ _ _ _ h => h.elim, fun _ _ _ _ _ h => h.elim⟩
  | d + 1 => callS_sat hG hmix hΓ (callD_sat hG hmix hΓ d)

/-- A contract, out of the body's evaluation. -/
theorem con_of_call (hG : GMono G) (hmix : P.follows .mixedOrders = true) {Γ : Cons} (hΓ : Γ.ok P G) {f : FuncId} {fn : Func} {code : Code} (hf : P.funcs[f]? = some fn) (hb : fn.body = some code) (he : enters P f = true)
    (c : Con) (hce : c.err = false) {call : CallT} (hcall : CallSat P G call) (hn : ∀ x, c.pre x → Nat.ble (argAVs c.args x).length fn.ntmps = true)
    (hex : ∀ x : c.args.T, Wf c.args x → c.pre x → exec P G Γ call none code { slots := numbered 0 (argAVs c.args x), H := [], next := 0, n := fn.ntmps } (retQ P fn (finQ c.res (c.fn x)))) : c.ok P G f := by
  refine Con.ok_plain hce ⟨he, fun w ok vs x hGw hok hvs hp => callsIn_wideR.1 (callsIn_of_wp_marks (F := wideR none) (n := 0) hf hb trivial ?_)⟩
  generalize hC : (⟨w, ok, hok, w.heap.size, Nat.le_refl _⟩ : Ctx) = C
  have hCw : C.w0 = w := by rw [← hC]
  have hClo : C.lo = w.heap.size := by rw [← hC]
  have hokA : C.okA = ok := by rw [← hC]
  have hm : MRel C (fun _ => 0) [] 0 w := ⟨by rw [hCw]; exact Below.refl _ _, List.nodup_nil, (by intro k hk; cases hk), (by intro k hk; cases hk), (by intro k hk; cases hk), (by intro k b hk; cases hk)⟩
  have hkk : ∀ b, ok b → Ok C (fun _ => 0) [] w b := fun b hb => ⟨Or.inl (by rw [hokA]; exact hb), hok b hb, (by intro k hk; cases hk)⟩
  refine wpIn_mono (exec_sound hG hmix hΓ hcall code _ _ (hex x hvs.wf hp) C (by rw [hCw]; exact hGw) (fun _ => 0) _ w (entry_rel hm (by rw [hClo]; exact Nat.le_refl _) (RdVs.args hkk _ _ _ hvs) (Nat.le_of_ble_eq_true (hn x hp))) none rfl) ?_
  rintro e a' w' ⟨ρ', σ', h1, h2, h3, h4⟩
  have fin : (resT P σ' fn.results.toList).holds (fun l => finQ c.res (c.fn x) l σ') → LeavesInM (wideR none) 0 P fn a'.tmps (fun e w' => ∃ rs, e = .returned (resV rs) ∧ RdVs (okNew ok w w') w' c.res (c.fn x) rs ∧ Below w.heap.size w w') a'.defers .returning w' := by
    intro hh
    refine ret_end h2 hh (fun l us w'' k1 k2 k3 k4 k5 k6 => ⟨us, rfl, ?_, by have := k2.below; rw [hCw] at this; exact this⟩)
    unfold finQ at k1
    split at k1
    · rename_i z hz
      subst k1
      have h5 := toRes_sound _ _ _ _ hz (VRs.map (fun x v hx => lend_all k2 hx) k3)
      have mono : ∀ (t : Ty) (x : t.T) (vs : List Value), RdVs (Ok C ρ' [] w'') w'' t x vs → RdVs (okNew ok w w'') w'' t x vs := by
        intro t
        induction t with
        | unit => intro x vs h; exact h
        | pair t u _ ihu =>
          rintro x vs ⟨v, us, e, h6, h7⟩
          refine ⟨v, us, e, h6.mono (fun b hb => ⟨?_, rfl⟩), ihu _ _ h7⟩
          rcases hb.1 with h | h
          · exact Or.inl (by rw [hokA] at h; exact h)
          · exact Or.inr ⟨by rw [hCw] at h; exact h, hb.2.1⟩
        | _ => intro x vs h; exact h.elim
      exact mono _ _ _ h5
    · exact k1.elim
  cases e with
  | normal => exact fin h1
  | ret => exact fin h1
  | _ => exact h1.elim

theorem con_of_exec (hG : GMono G) (hmix : P.follows .mixedOrders = true) {Γ : Cons} (hΓ : Γ.ok P G) {f : FuncId} {fn : Func} {code : Code} (hf : P.funcs[f]? = some fn) (hb : fn.body = some code) (he : enters P f = true)
    (c : Con) (hce : c.err = false) (d : Nat) (hn : ∀ x, Nat.ble (argAVs c.args x).length fn.ntmps = true)
    (hex : ∀ x : c.args.T, Wf c.args x → c.pre x → exec P G Γ (callD P G Γ d) none code { slots := numbered 0 (argAVs c.args x), H := [], next := 0, n := fn.ntmps } (retQ P fn (finQ c.res (c.fn x)))) : c.ok P G f :=
  con_of_call hG hmix hΓ hf hb he c hce (callD_sat hG hmix hΓ d) (fun x _ => hn x) hex

end
end Go.Vg
