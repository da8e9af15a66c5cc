/-
  The engine, part P: a region whose operations may run in any order, tried in every order. Own work; no condition.
-/
import Derived.Test.YtbdojimkdgajgaaGreatDoorEngX
namespace Go.Vg
open Go Go.RowKit

def edgesIn (m : Nat) : List Edge → Bool
  | [] => true
  | e :: r => match binding e with
    | true => match Nat.testBit m e.on with
      | true => edgesIn m r
      | false => false
    | false => edgesIn m r

/-- Whatever the first state describes the second one describes too. -/
def Leads (n : Nat) (σ σ' : St) : Prop := ∀ (C : Ctx) (ρ : Nat → Nat) (a : Act) (w : World), SRel C ρ σ a w → ∃ ρ', SRel C ρ' σ' a w ∧ Fr C n ρ σ.H w ρ' σ'.H w ∧ σ.next ≤ σ'.next

/-- All orders; m: which operations have run; b: below which keys nothing is renamed. -/
def execAny (P : Program) (Γ : Cons) (call : CallT) (ops : Array Oper) (b : Nat) : Nat → Nat → St → (Fi → Prop) → Prop
  | 0, _, σ, K => K (.go σ)
  | n + 1, m, σ, K => ∀ i o, ops[i]? = some o → Nat.testBit m i = false → edgesIn m o.after.toList = true → execSeq P Γ call ops [o] σ (seqF (fun σ1 => ∃ σ', Leads b σ1 σ' ∧ execAny P Γ call ops b n (m ||| 2 ^ i) σ' K) K)

theorem edgesIn_of {m : Nat} : ∀ {l : List Edge}, (∀ e ∈ l, binding e = true → Nat.testBit m e.on = true) → edgesIn m l = true
  | [], _ => rfl
  | e :: r, h => by
    simp only [edgesIn]
    cases hb : binding e with
    | false => exact edgesIn_of fun e he => h e (List.mem_cons_of_mem _ he)
    | true => simp only [h e (List.mem_cons_self ..) hb]; exact edgesIn_of fun e he => h e (List.mem_cons_of_mem _ he)

section
variable {C : Ctx} {P : Program} {G : World → Prop} {Γ : Cons} {ops : Array Oper}

/-- Some state of which K holds has been reached; the keys below b are as they were. -/
def ReachB (C : Ctx) (b : Nat) (ρ : Nat → Nat) (H : Heap) (w : World) (K : St → Prop) (a' : Act) (w' : World) : Prop :=
  ∃ ρ' σ', K σ' ∧ SRel C ρ' σ' a' w' ∧ Fr C b ρ H w ρ' σ'.H w' ∧ b ≤ σ'.next

theorem any_sound (hG : GMono G) (hC : G C.w0) (hΓ : Γ.ok P G) {call : CallT} (hcall : CallSat P G call) {Q : Exit → Act → World → Prop} {K : Fi → Prop} (hed : chkEdges ops.toList 0 = true) (rnd : Option Nat) {b : Nat} :
    ∀ (n m : Nat) (listed : Array Bool) {ρ : Nat → Nat} {σ : St} {a : Act} {w : World}, SRel C ρ σ a w → b ≤ σ.next → execAny P Γ call ops b n m σ K → listed.size = ops.size → (∀ j, j < ops.size → listed.getD j false = Nat.testBit m j) →
      cntL (fun i => listed.getD i false) ops.size + n = ops.size → (∀ a' w', ReachB C b ρ σ.H w (fun σ' => K (.go σ')) a' w' → Q .normal a' w') → (∀ ch a' w', ReachB C b ρ σ.H w (fun σ' => K (.pan ch σ')) a' w' → Q (.panic ch) a' w') → wpAnyIn (wideR rnd) 0 P .any ops Q n listed a w := by
  intro n
  induction n with
  | zero =>
    intro m listed ρ σ a w hs hb h hsz hl hcnt hQ hP
    refine ⟨List.eq_nil_iff_forall_not_mem.2 fun i hi => ?_, hQ a w ⟨ρ, σ, h, hs, Fr.refl _ _ _ _ _, hb⟩⟩
    unfold Region.ready at hi
    rw [List.mem_filter] at hi
    obtain ⟨h1, h2⟩ := hi
    have hio : i < ops.size := by simpa using h1
    simp only [Bool.and_eq_true, Bool.not_eq_true'] at h2
    have h3 : listed.getD i false = false := by
      have := h2.1
      rw [Array.getD_eq_getD_getElem?, Array.getElem?_eq_getElem (by omega)] at this ⊢
      exact this
    have := cntL_lt (ls := fun i => listed.getD i false) h3 (n := ops.size) hio
    omega
  | succ n ih =>
    intro m listed ρ σ a w hs hb h hsz hl hcnt hQ hP
    have hlt : ∀ i, i < ops.size → listed.getD i true = listed.getD i false := by
      intro i hi
      rw [Array.getD_eq_getD_getElem?, Array.getD_eq_getD_getElem?, Array.getElem?_eq_getElem (by omega)]
      rfl
    refine ⟨fun hnil => ?_, fun i hi => ?_⟩
    · exfalso
      have hex : ∃ i, i < ops.size ∧ listed.getD i false = false := by
        refine Classical.byContradiction fun hno => ?_
        have hall : ∀ i, i < ops.size → listed.getD i false = true := fun i hi => by
          cases hb : listed.getD i false with
          | true => rfl
          | false => exact absurd ⟨i, hi, hb⟩ hno
        have := cntL_split (ls := fun i => listed.getD i false) (m := ops.size) hall (fun i hi => by
          show listed.getD i false = false
          rw [Array.getD_eq_getD_getElem?, Array.getElem?_eq_none (by omega)]; rfl) (n := ops.size)
        omega
      obtain ⟨i, hi1, hi2, hi3⟩ := least_not (ls := fun i => listed.getD i false) hex
      have hil : ops.toList[i]? = some ops[i] := by simp [hi1]
      have : i ∈ Region.ready .any ops listed := by
        unfold Region.ready
        rw [List.mem_filter]
        refine ⟨by simpa using hi1, ?_⟩
        rw [hlt i hi1, show listed.getD i false = false from hi2, Array.getElem?_eq_getElem hi1]
        simp only [Option.map_some, Option.getD_some, Bool.not_false, Bool.true_and]
        rw [Array.all_eq_true_iff_forall_mem]
        intro e he
        cases hb : Region.binds .any e with
        | false => rfl
        | true =>
          have := chkEdges_spec hed hil e he hb
          rw [Nat.zero_add] at this
          have h3 : listed.getD e.on false = true := hi3 e.on this
          simp [h3]
      rw [hnil] at this
      cases this
    · unfold Region.ready at hi
      rw [List.mem_filter] at hi
      obtain ⟨h1, h2⟩ := hi
      have hio : i < ops.size := by simpa using h1
      have hoi : ops[i]? = some ops[i] := Array.getElem?_eq_getElem hio
      rw [hlt i hio, hoi] at h2
      simp only [Bool.and_eq_true, Bool.not_eq_true', Option.map_some, Option.getD_some, Array.all_eq_true_iff_forall_mem] at h2
      obtain ⟨h3, h4⟩ := h2
      have hmem : Nat.testBit m i = false := by rw [← hl i hio]; exact h3
      have hedge : edgesIn m ops[i].after.toList = true := edgesIn_of fun e he hb => by
        have he' : e ∈ ops[i].after := by simpa using he
        have := h4 e he'
        unfold binding at hb
        rw [hb] at this
        have hlt' := chkEdges_spec hed (show ops.toList[i]? = some ops[i] by simp [hio]) e he' hb
        rw [Nat.zero_add] at hlt'
        rw [← hl e.on (by omega)]
        simpa using this
      have hstep := h i ops[i] hoi hmem hedge
      unfold wpOpIn
      rw [hoi]
      simp only
      refine execSeq_step hG hC hΓ hcall hs hstep ?_ (fun ch a' w' hr => by
        obtain ⟨ρ1, σ1, q1, q2, q3, q4⟩ := hr
        exact hP ch a' w' ⟨ρ1, σ1, q1, q2, (Fr.refl C b ρ σ.H w).trans hb q3, Nat.le_trans hb q4⟩) rnd
      rintro a' w' ⟨ρ1, σ1, ⟨σ', g1, g2⟩, g3, g4, g5⟩
      obtain ⟨ρ', k1, k2, k3⟩ := g1 C ρ1 a' w' g3
      have hset : ∀ j, (listed.setIfInBounds i true).getD j false = if j = i then true else listed.getD j false := by
        intro j
        by_cases hj : j = i
        · subst hj
          rw [if_pos rfl, Array.getD_eq_getD_getElem?, Array.getElem?_setIfInBounds_self_of_lt (by omega)]
          rfl
        · rw [if_neg hj, Array.getD_eq_getD_getElem?, Array.getElem?_setIfInBounds_ne (Ne.symm hj), ← Array.getD_eq_getD_getElem?]
      have hfun : (fun j => (listed.setIfInBounds i true).getD j false) = addL (fun j => listed.getD j false) i := by
        funext j; rw [hset]; rfl
      refine ih (m ||| 2 ^ i) _ k1 (Nat.le_trans hb (Nat.le_trans g5 k3)) g2 (by simp [hsz]) (fun j hj => ?_) ?_ (fun a'' w'' hr => ?_) (fun ch a'' w'' hr => ?_)
      · rw [hset, Nat.testBit_or, Nat.testBit_two_pow]
        by_cases hji : j = i
        · subst hji; simp
        · rw [if_neg hji, hl j hj]; simp [Ne.symm hji]
      · rw [hfun, cntL_add h3 hio]
        omega
      · obtain ⟨ρ2, σ2, q1, q2, q3, q4⟩ := hr
        refine hQ a'' w'' ⟨ρ2, σ2, q1, q2, ?_, q4⟩
        have f1 : Fr C b ρ σ.H w ρ1 σ1.H w' := (Fr.refl C b ρ σ.H w).trans hb g4
        exact (f1.trans (Nat.le_refl _) k2).trans (Nat.le_refl _) q3
      · obtain ⟨ρ2, σ2, q1, q2, q3, q4⟩ := hr
        refine hP ch a'' w'' ⟨ρ2, σ2, q1, q2, ?_, q4⟩
        have f1 : Fr C b ρ σ.H w ρ1 σ1.H w' := (Fr.refl C b ρ σ.H w).trans hb g4
        exact (f1.trans (Nat.le_refl _) k2).trans (Nat.le_refl _) q3

theorem sat_any (hG : GMono G) (hmix : P.follows .mixedOrders = true) (hΓ : Γ.ok P G) {call : CallT} (hcall : CallSat P G call) {rd : Option Nat} {id : Nat} {σ : St} {Q : Exit → St → Prop} (hed : chkEdges ops.toList 0 = true)
    (h : execAny P Γ call ops σ.next ops.size 0 σ (regK Q)) : Sat P G rd (.region id ops true) σ Q := by
  intro C hC ρ a w hs rnd hrd
  obtain ⟨hmd, hextd⟩ := hs.m.grow (w' := w.drew) ((Below.refl _ _).drew)
  have hfr := hextd.fr (n := σ.next) (fun k _ hk => hk)
  have hs' : SRel C ρ σ a w.drew := hs.frame hmd hfr (fun k hk => hk)
  refine wpIn_region_any hmix (any_sound hG hC hΓ hcall hed rnd ops.size 0 (Array.replicate ops.size false) hs' (Nat.le_refl _) h (by simp) (fun j hj => ?_) ?_ (fun a' w' hr => ?_) (fun ch a' w' hr => ?_))
  · rw [Array.getD_eq_getD_getElem?, Array.getElem?_replicate, if_pos hj, Nat.zero_testBit]; rfl
  · have := cntL_split (ls := fun i => (Array.replicate ops.size false).getD i false) (m := 0) (fun i hi => absurd hi (Nat.not_lt_zero _)) (fun i _ => by
      show (Array.replicate ops.size false).getD i false = false
      rw [Array.getD_eq_getD_getElem?, Array.getElem?_replicate]; split <;> rfl) (n := ops.size)
    omega
  · obtain ⟨ρ1, σ1, h1, h2, h3, h4⟩ := hr
    exact ⟨ρ1, σ1, h1, h2, hfr.trans (Nat.le_refl _) h3, h4⟩
  · obtain ⟨ρ1, σ1, h1, h2, h3, h4⟩ := hr
    exact ⟨ρ1, σ1, h1, h2, hfr.trans (Nat.le_refl _) h3, h4⟩

/-- The named keys get others. -/
def St.rekeysK (n : Nat) (σ : St) : List (Nat × Nat) → St
  | [] => σ
  | (K, k') :: r => match hasKey σ.H k', hasKey σ.H K, Nat.ble n k' with
    | false, true, true => (σ.rekey K k').rekeysK n r
    | _, _, _ => σ.rekeysK n r

theorem SRel.rekeysK {n : Nat} {w : World} : ∀ (r : List (Nat × Nat)) {ρ : Nat → Nat} {σ : St} {a : Act}, SRel C ρ σ a w → ∃ ρ', SRel C ρ' (σ.rekeysK n r) a w ∧ Fr C n ρ σ.H w ρ' (σ.rekeysK n r).H w
  | [], ρ, σ, a, hs => ⟨ρ, hs, Fr.refl _ _ _ _ _⟩
  | (K, k') :: r, ρ, σ, a, hs => by
    simp only [St.rekeysK]
    split
    · rename_i h1 h2 h3
      have hk' : k' ∉ σ.H.keys := fun h => by rw [hasKey_iff.2 h] at h1; cases h1
      obtain ⟨ρ', g1, g2⟩ := SRel.rekeysK (n := n) r (hs.rekey hk')
      exact ⟨ρ', g1, (Fr.rekey hk' (Nat.le_of_ble_eq_true h3)).trans (Nat.le_refl _) g2⟩
    · exact SRel.rekeysK r hs

/-- Fewer keys are free. -/
def St.raise (σ : St) (n : Nat) : St := { σ with next := Nat.max σ.next n }
theorem SRel.raise {ρ : Nat → Nat} {σ : St} {a : Act} {w : World} (hs : SRel C ρ σ a w) (n : Nat) : SRel C ρ (σ.raise n) a w := ⟨hs.m.mono (Nat.le_max_left _ _), hs.slots, hs.size, hs.defers⟩
theorem leads_raise (n k : Nat) (σ : St) (r : List (Nat × Nat)) (hn : σ.next ≤ ((σ.rekeysK n r).raise k).next) : Leads n σ ((σ.rekeysK n r).raise k) := by
  intro C ρ a w hs
  obtain ⟨ρ', h1, h2⟩ := SRel.rekeysK (n := n) r hs
  exact ⟨ρ', h1.raise k, h2, hn⟩
theorem leads_le (n : Nat) {σ σ' σc : St} (h1 : Leads n σ σ') (h : Le σ' σc) (hn : σ'.next ≤ σc.next) : Leads n σ σc := by
  intro C ρ a w hs
  obtain ⟨ρ', g1, g2, g3⟩ := h1 C ρ a w hs
  obtain ⟨h3, h4⟩ := g1.weaken h
  exact ⟨ρ', h3, g2.trans (Nat.le_refl _) (h4 n), Nat.le_trans g3 hn⟩

theorem leads_of {n : Nat} {σ σc : St} (r : List (Nat × Nat)) (h : Le (σ.rekeysK n r) σc) (hn : σ.next ≤ σc.next) : Leads n σ σc := by
  intro C ρ a w hs
  obtain ⟨ρ', h1, h2⟩ := SRel.rekeysK (n := n) r hs
  obtain ⟨h3, h4⟩ := h1.weaken h
  exact ⟨ρ', h3, h2.trans (Nat.le_refl _) (h4 n), hn⟩

/-! Whether one state says no more than another. -/
def eqT : (t : Ty) → t.T → t.T → Bool
  | .int _, x, y => eqD.eqI x y
  | .bool, x, y => eqD.eqB x y
  | .str, x, y => eqD.eqS x y
  | .unit, _, _ => true
  | .pair t u, x, y => match eqT t x.1 y.1 with
    | true => eqT u x.2 y.2
    | false => false
  | .arr _ t, x, y => eqD.eqL (eqT t) x y
  | .sl t, x, y => eqD.eqL (eqT t) x y
theorem eqL_eq {α : Type} {f : α → α → Bool} (hf : ∀ x y, f x y = true → x = y) : ∀ (l m : List α), eqD.eqL f l m = true → l = m
  | [], [], _ => rfl
  | [], _ :: _, h => by cases h
  | _ :: _, [], h => by cases h
  | x :: l, y :: m, h => by
    simp only [eqD.eqL] at h
    cases hb : f x y with
    | false => rw [hb] at h; cases h
    | true => rw [hb] at h; rw [hf _ _ hb, eqL_eq hf l m h]
theorem eqI_eq {x y : Int} (h : eqD.eqI x y = true) : x = y := eq_of_beq h
theorem eqB_eq {x y : Bool} (h : eqD.eqB x y = true) : x = y := eq_of_beq h
theorem eqS_eq {x y : List UInt8} (h : eqD.eqS x y = true) : x = y := eq_of_beq h
theorem eqT_eq : ∀ (t : Ty) (x y : t.T), eqT t x y = true → x = y
  | .int _, _, _, h => eqI_eq h
  | .bool, _, _, h => eqB_eq h
  | .str, _, _, h => eqS_eq h
  | .unit, x, y, _ => rfl
  | .pair t u, x, y, h => by
    simp only [eqT] at h
    cases hb : eqT t x.1 y.1 with
    | false => rw [hb] at h; cases h
    | true => rw [hb] at h; exact Prod.ext (eqT_eq t _ _ hb) (eqT_eq u _ _ h)
  | .arr _ t, x, y, h => eqL_eq (eqT_eq t) x y h
  | .sl t, x, y, h => eqL_eq (eqT_eq t) x y h

mutual
def avB (p : Nat → Bool) : AV → AV → Bool
  | .no, _ => true
  | .d u y, .d t x => match t.as u x with
    | some x' => eqT u x' y
    | none => false
  | .dptr u y, .dptr t x => match t.as u x with
    | some x' => eqT u x' y
    | none => false
  | .nsl, .nsl => true
  | .nilp, .nilp => true
  | .nili, .nili => true
  | .nni, .nni => true
  | .ifc k u y, .ifc k' t x => Nat.beq k' k && match t.as u x with
    | some x' => eqT u x' y
    | none => false
  | .und, .und => true
  | .ptr k i, .ptr k' i' => Nat.beq k' k && Nat.beq i' i && p k
  | .eptr k i, .eptr k' i' => Nat.beq k' k && Nat.beq i' i && p k
  | .own k o n, .own k' o' n' => Nat.beq k' k && Nat.beq o' o && Nat.beq n' n && p k
  | .ox k o n, .ox k' o' n' => Nat.beq k' k && Nat.beq o' o && Nat.beq n' n && p k
  | .sv k n, .sv k' n' => Nat.beq k' k && Nat.beq n' n && p k
  | .mp k, .mp k' => Nat.beq k' k && p k
  | .fn f x y, .fn f' x' y' => Nat.beq f' f && avsB p x x' && avsB p y y'
  | .ag l, .ag l' => avsB p l l'
  | .tup l, .tup l' => avsB p l l'
  | _, _ => false
def avsB (p : Nat → Bool) : List AV → List AV → Bool
  | [], [] => true
  | b :: bs, a :: as => avB p b a && avsB p bs as
  | _, _ => false
end

mutual
theorem avB_le {p : Nat → Bool} : ∀ (b a : AV), avB p b a = true → AVle p b a
  | .no, _, _ => by simp only [AVle]
  | .d u y, .d t x, h => by
    simp only [avB] at h
    show dLe u y (.d t x)
    unfold dLe
    split at h
    · rename_i x' hx; simp only [hx]; exact eqT_eq _ _ _ h
    · cases h
  | .dptr u y, .dptr t x, h => by
    simp only [avB] at h
    show dpLe u y (.dptr t x)
    unfold dpLe
    split at h
    · rename_i x' hx; simp only [hx]; exact eqT_eq _ _ _ h
    · cases h
  | .nsl, .nsl, _ => by simp only [AVle]
  | .nilp, .nilp, _ => by simp only [AVle]
  | .nili, .nili, _ => by simp only [AVle]
  | .nni, .nni, _ => by simp only [AVle]
  | .ifc k u y, .ifc k' t x, h => by
    simp only [avB, Bool.and_eq_true] at h
    show ifLe k u y (.ifc k' t x)
    unfold ifLe
    refine ⟨Nat.eq_of_beq_eq_true h.1, ?_⟩
    have h2 := h.2
    split at h2
    · rename_i x' hx; simp only [hx]; exact eqT_eq _ _ _ h2
    · cases h2
  | .und, .und, _ => by simp only [AVle]
  | .ptr k i, .ptr k' i', h => by
    simp only [avB, Bool.and_eq_true] at h
    exact ⟨Nat.eq_of_beq_eq_true h.1.1, Nat.eq_of_beq_eq_true h.1.2, h.2⟩
  | .eptr k i, .eptr k' i', h => by
    simp only [avB, Bool.and_eq_true] at h
    exact ⟨Nat.eq_of_beq_eq_true h.1.1, Nat.eq_of_beq_eq_true h.1.2, h.2⟩
  | .own k o n, .own k' o' n', h => by
    simp only [avB, Bool.and_eq_true] at h
    exact ⟨Nat.eq_of_beq_eq_true h.1.1.1, Nat.eq_of_beq_eq_true h.1.1.2, Nat.eq_of_beq_eq_true h.1.2, h.2⟩
  | .ox k o n, .ox k' o' n', h => by
    simp only [avB, Bool.and_eq_true] at h
    exact ⟨Nat.eq_of_beq_eq_true h.1.1.1, Nat.eq_of_beq_eq_true h.1.1.2, Nat.eq_of_beq_eq_true h.1.2, h.2⟩
  | .sv k n, .sv k' n', h => by
    simp only [avB, Bool.and_eq_true] at h
    exact ⟨Nat.eq_of_beq_eq_true h.1.1, Nat.eq_of_beq_eq_true h.1.2, h.2⟩
  | .mp k, .mp k', h => by
    simp only [avB, Bool.and_eq_true] at h
    exact ⟨Nat.eq_of_beq_eq_true h.1, h.2⟩
  | .fn f x y, .fn f' x' y', h => by
    simp only [avB, Bool.and_eq_true] at h
    exact ⟨Nat.eq_of_beq_eq_true h.1.1, avsB_le _ _ h.1.2, avsB_le _ _ h.2⟩
  | .ag l, .ag l', h => avsB_le l l' h
  | .tup l, .tup l', h => avsB_le l l' h
theorem avsB_le {p : Nat → Bool} : ∀ (bs as : List AV), avsB p bs as = true → AVles p bs as
  | [], [], _ => by simp only [AVles]
  | b :: bs, a :: as, h => by
    simp only [avsB, Bool.and_eq_true] at h
    exact ⟨avB_le b a h.1, avsB_le bs as h.2⟩
  | [], _ :: _, h => by cases h
  | _ :: _, [], h => by cases h
end

def slotsB (p : Nat → Bool) (s : List (Nat × AV)) : List (Nat × AV) → Bool
  | [] => true
  | (t, b) :: r => avB p b (look s t) && slotsB p s r
theorem slotsB_le {p : Nat → Bool} {s : List (Nat × AV)} : ∀ {l : List (Nat × AV)}, slotsB p s l = true → slotsLe p s l
  | [], _ => trivial
  | (t, b) :: r, h => by
    simp only [slotsB, Bool.and_eq_true] at h
    exact ⟨avB_le _ _ h.1, slotsB_le h.2⟩
def bkB (p : Nat → Bool) : Bk → Bk → Bool
  | .any, .any => true
  | .vars e cells, .vars e' cells' => Nat.beq e' e && avsB p cells cells'
  | .row e t l, .row e' t' l' => Nat.beq e' e && match (t'.sl).as (.sl t) l' with
    | some z => eqT (.sl t) z l
    | none => false
  | _, _ => false
theorem bkB_le {p : Nat → Bool} : ∀ (b a : Bk), bkB p b a = true → BkLe p b a
  | .any, .any, _ => trivial
  | .vars e cells, .vars e' cells', h => by
    simp only [bkB, Bool.and_eq_true] at h
    exact ⟨Nat.eq_of_beq_eq_true h.1, avsB_le _ _ h.2⟩
  | .row e t l, .row e' t' l', h => by
    simp only [bkB, Bool.and_eq_true] at h
    refine ⟨Nat.eq_of_beq_eq_true h.1, ?_⟩
    have h2 := h.2
    split at h2
    · rename_i z hz; simp only [hz]; exact eqT_eq (.sl t) _ _ h2
    · cases h2
def heapB (p : Nat → Bool) (H : Heap) (n : Nat) : Heap → Bool
  | [] => true
  | (k, b) :: r => (match H.find k with
    | some b' => bkB p b b'
    | none => false) && Nat.blt k n && heapB p H n r
theorem heapB_le {p : Nat → Bool} {H : Heap} {n : Nat} : ∀ {H' : Heap}, heapB p H n H' = true → heapLe p H n H'
  | [], _ => trivial
  | (k, b) :: r, h => by
    simp only [heapB, Bool.and_eq_true] at h
    refine ⟨?_, h.1.2, heapB_le h.2⟩
    have h1 := h.1.1
    split at h1
    · rename_i b' hf; simp only [hf]; exact bkB_le _ _ h1
    · cases h1
def leB (σ σ' : St) : Bool := Nat.beq σ'.n σ.n && slotsB (hasKey σ'.H) σ.slots σ'.slots && heapB (hasKey σ'.H) σ.H σ'.next σ'.H && nodupB σ'.H.keys
theorem leB_le {σ σ' : St} (h : leB σ σ' = true) : Le σ σ' := by
  simp only [leB, Bool.and_eq_true] at h
  exact ⟨Nat.eq_of_beq_eq_true h.1.1.1, slotsB_le h.1.1.2, heapB_le h.1.2, h.2⟩
/-! Whether two states are one. -/
mutual
def avE : AV → AV → Bool
  | .no, .no => true
  | .d u y, .d t x => match t.as u x with
    | some x' => eqT u y x'
    | none => false
  | .dptr u y, .dptr t x => match t.as u x with
    | some x' => eqT u y x'
    | none => false
  | .nsl, .nsl => true
  | .nilp, .nilp => true
  | .nili, .nili => true
  | .nni, .nni => true
  | .und, .und => true
  | .ptr k i, .ptr k' i' => Nat.beq k k' && Nat.beq i i'
  | .eptr k i, .eptr k' i' => Nat.beq k k' && Nat.beq i i'
  | .own k o n, .own k' o' n' => Nat.beq k k' && Nat.beq o o' && Nat.beq n n'
  | .ox k o n, .ox k' o' n' => Nat.beq k k' && Nat.beq o o' && Nat.beq n n'
  | .sv k n, .sv k' n' => Nat.beq k k' && Nat.beq n n'
  | .mp k, .mp k' => Nat.beq k k'
  | .fn f x y, .fn f' x' y' => Nat.beq f f' && avsE x x' && avsE y y'
  | .ag l, .ag l' => avsE l l'
  | .tup l, .tup l' => avsE l l'
  | _, _ => false
def avsE : List AV → List AV → Bool
  | [], [] => true
  | b :: bs, a :: as => avE b a && avsE bs as
  | _, _ => false
end

theorem as_eqT {t u : Ty} {x : t.T} {y x' : u.T} (h : t.as u x = some x') (e : eqT u y x' = true) : (⟨u, y⟩ : (t : Ty) × t.T) = ⟨t, x⟩ := by
  obtain ⟨e1, e2⟩ := Ty.as_some h
  subst e1
  have := eqT_eq _ _ _ e
  subst this
  have e2 : x = y := e2
  rw [e2]

mutual
theorem avE_eq : ∀ (b a : AV), avE b a = true → b = a
  | .no, .no, _ => rfl
  | .d u y, .d t x, h => by
    simp only [avE] at h
    split at h
    · rename_i x' hx
      have := as_eqT hx h
      injection this with h1 h2
      subst h1
      rw [eq_of_heq h2]
    · cases h
  | .dptr u y, .dptr t x, h => by
    simp only [avE] at h
    split at h
    · rename_i x' hx
      have := as_eqT hx h
      injection this with h1 h2
      subst h1
      rw [eq_of_heq h2]
    · cases h
  | .nsl, .nsl, _ => rfl
  | .nilp, .nilp, _ => rfl
  | .nili, .nili, _ => rfl
  | .nni, .nni, _ => rfl
  | .und, .und, _ => rfl
  | .ptr k i, .ptr k' i', h => by
    simp only [avE, Bool.and_eq_true] at h
    rw [Nat.eq_of_beq_eq_true h.1, Nat.eq_of_beq_eq_true h.2]
  | .eptr k i, .eptr k' i', h => by
    simp only [avE, Bool.and_eq_true] at h
    rw [Nat.eq_of_beq_eq_true h.1, Nat.eq_of_beq_eq_true h.2]
  | .own k o n, .own k' o' n', h => by
    simp only [avE, Bool.and_eq_true] at h
    rw [Nat.eq_of_beq_eq_true h.1.1, Nat.eq_of_beq_eq_true h.1.2, Nat.eq_of_beq_eq_true h.2]
  | .ox k o n, .ox k' o' n', h => by
    simp only [avE, Bool.and_eq_true] at h
    rw [Nat.eq_of_beq_eq_true h.1.1, Nat.eq_of_beq_eq_true h.1.2, Nat.eq_of_beq_eq_true h.2]
  | .sv k n, .sv k' n', h => by
    simp only [avE, Bool.and_eq_true] at h
    rw [Nat.eq_of_beq_eq_true h.1, Nat.eq_of_beq_eq_true h.2]
  | .mp k, .mp k', h => by
    simp only [avE] at h
    rw [Nat.eq_of_beq_eq_true h]
  | .fn f x y, .fn f' x' y', h => by
    simp only [avE, Bool.and_eq_true] at h
    rw [Nat.eq_of_beq_eq_true h.1.1, avsE_eq _ _ h.1.2, avsE_eq _ _ h.2]
  | .ag l, .ag l', h => by rw [avsE_eq l l' h]
  | .tup l, .tup l', h => by rw [avsE_eq l l' h]
theorem avsE_eq : ∀ (bs as : List AV), avsE bs as = true → bs = as
  | [], [], _ => rfl
  | b :: bs, a :: as, h => by
    simp only [avsE, Bool.and_eq_true] at h
    rw [avE_eq b a h.1, avsE_eq bs as h.2]
  | [], _ :: _, h => by cases h
  | _ :: _, [], h => by cases h
end

def slotsE : List (Nat × AV) → List (Nat × AV) → Bool
  | [], [] => true
  | (t, b) :: r, (t', b') :: r' => match Nat.beq t t' with
    | true => match avE b b' with
      | true => slotsE r r'
      | false => false
    | false => false
  | _, _ => false
theorem slotsE_eq : ∀ {l l' : List (Nat × AV)}, slotsE l l' = true → l = l'
  | [], [], _ => rfl
  | [], _ :: _, h => by cases h
  | _ :: _, [], h => by cases h
  | (t, b) :: r, (t', b') :: r', h => by
    simp only [slotsE] at h
    split at h
    · rename_i h1
      split at h
      · rename_i h2
        rw [Nat.eq_of_beq_eq_true h1, avE_eq _ _ h2, slotsE_eq h]
      · cases h
    · cases h
def dicE : List (Int × AV) → List (Int × AV) → Bool
  | [], [] => true
  | (t, b) :: r, (t', b') :: r' => match eqD.eqI t t' with
    | true => match avE b b' with
      | true => dicE r r'
      | false => false
    | false => false
  | _, _ => false
theorem dicE_eq : ∀ {l l' : List (Int × AV)}, dicE l l' = true → l = l'
  | [], [], _ => rfl
  | [], _ :: _, h => by cases h
  | _ :: _, [], h => by cases h
  | (t, b) :: r, (t', b') :: r', h => by
    simp only [dicE] at h
    split at h
    · rename_i h1
      split at h
      · rename_i h2
        rw [eqI_eq h1, avE_eq _ _ h2, dicE_eq h]
      · cases h
    · cases h
def bkE : Bk → Bk → Bool
  | .any, .any => true
  | .dic k l, .dic k' l' => match decide (k = k') with
    | true => dicE l l'
    | false => false
  | .vars e cells, .vars e' cells' => Nat.beq e e' && avsE cells cells'
  | .row e t l, .row e' t' l' => Nat.beq e e' && match (t'.sl).as (.sl t) l' with
    | some z => eqT (.sl t) l z
    | none => false
  | _, _ => false
theorem bkE_eq : ∀ (b a : Bk), bkE b a = true → b = a
  | .any, .any, _ => rfl
  | .dic k l, .dic k' l', h => by
    simp only [bkE] at h
    split at h
    · rename_i h1
      rw [of_decide_eq_true h1, dicE_eq h]
    · cases h
  | .vars e cells, .vars e' cells', h => by
    simp only [bkE, Bool.and_eq_true] at h
    rw [Nat.eq_of_beq_eq_true h.1, avsE_eq _ _ h.2]
  | .row e t l, .row e' t' l', h => by
    simp only [bkE, Bool.and_eq_true] at h
    have h2 := h.2
    split at h2
    · rename_i z hz
      have := as_eqT hz h2
      injection this with g1 g2
      injection g1 with g1
      subst g1
      rw [Nat.eq_of_beq_eq_true h.1, eq_of_heq g2]
    · cases h2
def heapE : Heap → Heap → Bool
  | [], [] => true
  | (t, b) :: r, (t', b') :: r' => match Nat.beq t t' with
    | true => match bkE b b' with
      | true => heapE r r'
      | false => false
    | false => false
  | _, _ => false
theorem heapE_eq : ∀ {l l' : Heap}, heapE l l' = true → l = l'
  | [], [], _ => rfl
  | [], _ :: _, h => by cases h
  | _ :: _, [], h => by cases h
  | (t, b) :: r, (t', b') :: r', h => by
    simp only [heapE] at h
    split at h
    · rename_i h1
      split at h
      · rename_i h2
        rw [Nat.eq_of_beq_eq_true h1, bkE_eq _ _ h2, heapE_eq h]
      · cases h
    · cases h
def stE (σ σ' : St) : Bool := Nat.beq σ.n σ'.n && Nat.beq σ.next σ'.next && slotsE σ.slots σ'.slots && heapE σ.H σ'.H
theorem stE_eq {σ σ' : St} (h : stE σ σ' = true) : σ = σ' := by
  simp only [stE, Bool.and_eq_true] at h
  obtain ⟨⟨⟨h1, h2⟩, h3⟩, h4⟩ := h
  cases σ; cases σ'
  simp only at h1 h2 h3 h4
  rw [Nat.eq_of_beq_eq_true h1, Nat.eq_of_beq_eq_true h2, slotsE_eq h3, heapE_eq h4]

/-! The newest slot and the newest block go behind those of lower numbers. -/
def insS : Nat → Nat → AV → List (Nat × AV) → List (Nat × AV)
  | 0, t, v, l => (t, v) :: l
  | _ + 1, t, v, [] => [(t, v)]
  | n + 1, t, v, (k, a) :: r => match Nat.blt k t with
    | true => (k, a) :: insS n t v r
    | false => (t, v) :: (k, a) :: r
theorem look_insS (u : Nat) : ∀ (n t : Nat) (v : AV) (l : List (Nat × AV)), look (insS n t v l) u = look ((t, v) :: l) u
  | 0, _, _, _ => rfl
  | _ + 1, _, _, [] => rfl
  | n + 1, t, v, (k, a) :: r => by
    simp only [insS]
    cases hb : Nat.blt k t with
    | false => rfl
    | true =>
      have hlt : k < t := Nat.le_of_ble_eq_true hb
      have ih := look_insS u n t v r
      simp only [look] at ih ⊢
      cases h1 : Nat.beq k u with
      | true =>
        have := Nat.eq_of_beq_eq_true h1
        subst this
        have h2 : Nat.beq t k = false := ne_beq (by omega)
        simp only [h2]
      | false => simp only; exact ih
def insH (lo : Nat) (k : Nat) (b : Bk) : Heap → Heap
  | [] => [(k, b)]
  | (j, c) :: r => match Nat.blt lo j && Nat.blt j k with
    | true => (j, c) :: insH lo k b r
    | false => (k, b) :: (j, c) :: r
theorem insH_perm (lo k : Nat) (b : Bk) : ∀ l : Heap, (insH lo k b l).Perm ((k, b) :: l)
  | [] => .refl _
  | (j, c) :: r => by
    simp only [insH]
    split
    · exact ((insH_perm lo k b r).cons _).trans (.swap _ _ _)
    · exact .refl _
def sortS (n : Nat) : List (Nat × AV) → List (Nat × AV)
  | [] => []
  | (t, v) :: r => insS n t v r
def sortH (lo : Nat) : Heap → Heap
  | [] => []
  | (k, b) :: r => insH lo k b r
def St.sort (n lo : Nat) (σ : St) : St := { σ with slots := sortS n σ.slots, H := sortH lo σ.H }
theorem sortH_perm (lo : Nat) : ∀ l : Heap, (sortH lo l).Perm l
  | [] => .refl _
  | (_, _) :: _ => insH_perm ..
theorem look_sortS (n u : Nat) : ∀ l : List (Nat × AV), look (sortS n l) u = look l u
  | [] => rfl
  | (_, _) :: _ => look_insS ..
theorem SRel.sort {ρ : Nat → Nat} {σ : St} {a : Act} {w : World} (hs : SRel C ρ σ a w) (n lo : Nat) : SRel C ρ (σ.sort n lo) a w ∧ ∀ m, Fr C m ρ σ.H w ρ (σ.sort n lo).H w := by
  have hp := sortH_perm lo σ.H
  obtain ⟨h1, h2⟩ := hs.m.perm (H' := sortH lo σ.H) (fun x => hp.mem_iff.symm) ((hp.map _).nodup_iff.2 hs.m.nodup)
  refine ⟨⟨h1, fun t => ?_, hs.size, hs.defers.mono h2.data h2.size⟩, fun m => h2.fr (fun k _ hk => ((hp.map _).mem_iff).1 hk)⟩
  show VR C ρ (sortH lo σ.H) w (look (sortS n σ.slots) t) _
  rw [look_sortS]
  exact h2.vr (hs.slots t)
theorem leads_canon (n k p lo : Nat) (σ : St) (r : List (Nat × Nat)) (hn : σ.next ≤ (((σ.rekeysK n r).sort p lo).raise k).next) : Leads n σ (((σ.rekeysK n r).sort p lo).raise k) := by
  intro C ρ a w hs
  obtain ⟨ρ', h1, h2⟩ := SRel.rekeysK (n := n) r hs
  obtain ⟨h3, h4⟩ := h1.sort p lo
  exact ⟨ρ', h3.raise k, h2.trans (Nat.le_refl _) (h4 n), hn⟩
end
end Go.Vg
