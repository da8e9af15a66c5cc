/-
  The engine, part DC: a deferred closure by the evaluator. Own work; no condition.
-/
import Derived.Test.YtbdojimkdgajgaaGreatDoorEngDB
namespace Go.Vg
open Go Go.RowKit

section
variable {C : Ctx} {P : Program} {G : World → Prop}

theorem SRel.wh {ρ : Nat → Nat} {σ : St} {a : Act} {w : World} (hs : SRel C ρ σ a w) (hlo : C.lo ≤ w.heap.size) {us : List Deferred} (hd : a.defers = us) : SRel (C.wh C.lo C.hlo us (some [])) ρ σ a w :=
  ⟨hs.m.wh, fun t => (hs.slots t).wh, hs.size, hlo, [], by rw [hd]; rfl, List.nodup_nil, fun _ h => (by cases h), fun x hx => Option.some.inj hx⟩
theorem SRel.whN {ρ : Nat → Nat} {σ : St} {a : Act} {w : World} (hs : SRel C ρ σ a w) (hlo : C.lo ≤ w.heap.size) {us : List Deferred} (hd : a.defers = us) : SRel (C.wh C.lo C.hlo us none) ρ σ a w :=
  ⟨hs.m.wh, fun t => (hs.slots t).wh, hs.size, hlo, [], by rw [hd]; rfl, List.nodup_nil, fun _ h => (by cases h), fun x hx => (by cases hx)⟩

/-- The value of a chain of one panic is as its abstract value says. -/
theorem ofChain_vr {ρ : Nat → Nat} {H : Heap} {w : World} {ch : List PanicEntry} {x : AV} (h : ofChain ch = some x) : ∃ v, ch = [⟨v, false, false⟩] ∧ VR C ρ H w x v := by
  unfold ofChain at h
  split at h
  · rename_i v
    refine ⟨v, rfl, ?_⟩
    unfold ofValue at h
    split at h
    · rename_i k kk n
      split at h
      · rename_i hb
        rw [Bool.and_eq_true] at hb
        injection h with h
        subst h
        exact .ifc ⟨_, ⟨_, _, rfl, ⟨rfl, of_decide_eq_true hb.1, of_decide_eq_true hb.2⟩, rfl⟩, rfl⟩
      · cases h
    · rename_i k kk n
      split at h
      · rename_i hb
        rw [Bool.and_eq_true] at hb
        injection h with h
        subst h
        exact .ifc ⟨_, ⟨rfl, of_decide_eq_true hb.1, of_decide_eq_true hb.2⟩, rfl⟩
      · cases h
    · cases h
  · cases h

/-- Behind a deferred closure's first region. -/
def closQ (P : Program) (G : World → Prop) (Γ : Cons) (call : CallT) (l : Nat) (B : Code) (K : Heap → Nat → Prop) : Fi → Prop
  | .go σ => exec P G Γ call (some l) B σ fun e σ' => (e = .normal ∨ e = .ret) ∧ K σ'.H σ'.next
  | .pan _ _ => False

theorem clos_sound (hG : GMono G) (hmix : P.follows .mixedOrders = true) (hC : G C.w0) {Γ : Cons} (hΓ : Γ.ok P G) {call : CallT} (hcall : CallSat P G call) {g : FuncId} {gn : Func} {id : Nat} {ops : Array Oper} {o : Oper} {B : Code}
    (hg : P.funcs[g]? = some gn) (hb : gn.body = some (.seq (.region id ops false) B)) (h0 : ops.toList[0]? = some o) (hrec : isRecover o = true) (hsim : ∀ x ∈ ops.toList.drop 1, simpleOp x = true) (hres : gn.results = #[])
    {ρ : Nat → Nat} {H : Heap} {next : Nat} {w : World} (hm : MRel C ρ H next w) {caps : List AV} {vc : List Value} (hcaps : VRs C ρ H w caps vc) (hn : Nat.ble caps.length gn.ntmps = true) {u u' : FrameMode} {v : Value} {x : AV} (hv : Rec u v u') (hx : VR C ρ H w x v)
    {K : Heap → Nat → Prop} (h : execSeq P Γ call ops (ops.toList.drop 1) (({ slots := numbered 0 caps, H := H, next := next + 1, n := gn.ntmps } : St).put o.dst x) (closQ P G Γ call next B K)) :
    CallsDIn (wideR none) 0 P g ⟨vc⟩ u w fun e u1 w' => (∃ r, e = .returned r) ∧ u1 = u' ∧ ∃ ρ' H' n', K H' n' ∧ MRel C ρ' H' n' w' ∧ Fr C next ρ H w ρ' H' w' ∧ next ≤ n' := by
  have hw0 : C.w0.heap.size ≤ w.heap.size := hm.below.size
  have hne : next ∉ H.keys := fun hk => absurd (hm.lt _ hk) (Nat.lt_irrefl _)
  refine closure_calls (K := fun w' => ∃ ρ' H' n', K H' n' ∧ MRel C ρ' H' n' w' ∧ Fr C next ρ H w ρ' H' w' ∧ next ≤ n') hg hb h0 hrec hsim hres hv ?_
  have hs0 := entry_rel (C := C.at w.heap.size hw0) rfl rfl (hm.mono (Nat.le_succ next)).at (Nat.le_refl _) hcaps.at (Nat.le_of_ble_eq_true hn)
  have hs1 := (hs0.put (dst := o.dst) (by exact hx.at)).wh (us := []) (Nat.le_refl _) (by rw [put_defers])
  refine execSeq_sound (C := (C.at w.heap.size hw0).wh (C.at w.heap.size hw0).lo (C.at w.heap.size hw0).hlo [] (some [])) hG hC hΓ hcall _ hs1 h (fun a' w' hr => ?_) (fun ch a' w' hr => ?_) none
  · obtain ⟨ρ', σ', h1, h2, h3, h4⟩ := hr
    rw [St.put_H, St.put_next] at h3
    rw [St.put_next] at h4
    have h4 : next + 1 ≤ σ'.next := h4
    have hnk : next ∉ σ'.H.keys := fun hk => hne (h3.keys next (Nat.lt_succ_self _) hk).1
    refine wpIn_mono (exec_sound hG hmix hΓ hcall B σ' _ h1 ((C.at w.heap.size hw0).wh (C.at w.heap.size hw0).lo (C.at w.heap.size hw0).hlo [] (some [])) hC ρ' a' w' h2 none ⟨h4, fun hk => absurd hk hnk⟩) ?_
    rintro e a2 w2 ⟨ρ2, σ2, ⟨he, hK⟩, g2, g3, g4⟩
    refine ⟨he, ?_, ρ2, σ2.H, σ2.next, hK, ?_, ?_, by omega⟩
    · obtain ⟨-, ds, e1, -, -, e2⟩ := g2.defers
      have : ds = [] := e2 [] rfl
      subst this
      exact e1
    · have q := MRel.wh (C := (C.at w.heap.size hw0).wh (C.at w.heap.size hw0).lo (C.at w.heap.size hw0).hlo [] (some [])) (n := C.lo) (hn := C.hlo) (us := C.us) (ms := C.mks) g2.m
      exact q
    · have f := h3.trans h4 g3
      exact ⟨f.data, fun k hk hkm => f.keys k (Nat.lt_succ_of_lt hk) hkm, fun k e t l hk hkm hkn => f.rows k e t l (Nat.lt_succ_of_lt hk) hkm hkn, f.size⟩
  · obtain ⟨ρ', σ', h1, h2, h3, h4⟩ := hr
    exact h1.elim
end
end Go.Vg
