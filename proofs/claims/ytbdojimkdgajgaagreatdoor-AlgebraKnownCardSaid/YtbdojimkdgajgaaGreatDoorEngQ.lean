/-
  The engine, part Q: a region's operations in their turn. Own work; no condition.
-/
import Derived.Test.YtbdojimkdgajgaaGreatDoorEngO
import Derived.Tactics
namespace Go.Vg
open Go Go.RowKit

section
variable {C : Ctx} {P : Program} {G : World → Prop}

theorem evM_plain {Γ : Cons} {K : Nat} {H : Heap} {arg : Operand → AV} {o : Oper} {x : AV × List (Nat × Bk)} (h : (evM P Γ K H arg o).Leaf x) : ∀ c, o.op ≠ .defer c := by
  intro c e
  simp only [evM, evP, e] at h
  obtain ⟨_, h1, _⟩ := T.Leaf.bind h
  cases h1

theorem opS_plain {Γ : Cons} {call : CallT} {o : Oper} {σ : St} {K : Fi → Prop} (h : opS P Γ call o σ K) : ∀ c, o.op ≠ .defer c := by
  intro c e
  simp only [opS, evM, evP, e] at h
  exact h

theorem opS_sound (hG : GMono G) (hC : G C.w0) {Γ : Cons} (hΓ : Γ.ok P G) {call : CallT} (hcall : CallSat P G call) {ρ : Nat → Nat} {σ : St} {a : Act} {w : World} {o : Oper} {K : Fi → Prop} {nx : Act → World → Prop} {Q : Exit → Act → World → Prop}
    (hs : SRel C ρ σ a w) (h : opS P Γ call o σ K) (hnx : ∀ a' w', Reach C σ ρ w (fun σ' => K (.go σ')) a' w' → nx a' w') (hP : ∀ ch a' w', Reach C σ ρ w (fun σ' => K (.pan ch σ')) a' w' → Q (.panic ch) a' w') (rnd : Option Nat) : o.wpIn (wideR rnd) 0 P a w nx Q := by
  have hnd := opS_plain h
  unfold opS at h
  split at h
  · rename_i t x y ho
    obtain ⟨σ', h1, h2⟩ := T.leaf h
    unfold storeOp at h1
    have fin : ∀ (σ1 : St), SRel C ρ σ1 a w → Fr C σ.next ρ σ.H w ρ σ1.H w → σ1.next = σ.next → (storeSt P σ1 t (σ1.eval x) (σ1.eval y)).Leaf σ' → o.wpIn (wideR rnd) 0 P a w nx Q := by
      intro σ1 hs1 hf1 hn1 h1
      obtain ⟨w', h3, h4, h5, h6⟩ := storeSt_sound h1 hs1 (hs1.eval x) (hs1.eval y)
      refine wpIn_of_wp hnd ?_
      unfold Oper.wp
      rw [show (execOp a.eval o).run P w = .ok .skip w' by simp [execOp, ho, h3]]
      exact hnx _ _ ⟨ρ, _, h2, h4.put .und, by rw [St.put_H]; exact hf1.trans (by rw [hn1]; exact Nat.le_refl _) h5, by rw [St.put_next, h6, hn1]; exact Nat.le_refl _⟩
    split at h1
    · obtain ⟨g1, g2, g3⟩ := St.freed_sound hs (σ.eval y)
      exact fin _ g1 g2 g3 h1
    · exact fin σ hs (Fr.refl _ _ _ _ _) rfl h1
  · rename_i t n ps ho
    obtain ⟨h1, h2, h3⟩ := St.freed_sound hs (.ag (ps.toList.map fun x => σ.eval x.2))
    exact wpIn_of_wp hnd <| evM_reach (K := fun σ' => K (.go σ')) hG hC hΓ h1 h (fun a' w' hr => hnx a' w' (hr.trans h2 (by rw [h3]; exact Nat.le_refl _)))
  · rename_i bt args ts ho
    split at h
    · rename_i r hr
      obtain ⟨σ', h1, h2⟩ := T.leaf h
      unfold builtinOp at hr
      split at hr
      · split at hr
        · rename_i s x t u hargs hts
          have e1 : args.map a.eval = #[a.eval s, a.eval x] := by apply Array.ext'; simp [hargs]
          have e2 : ts = #[t, u] := by apply Array.ext'; simp [hts]
          split at hr
          · rename_i hb
            have hb := beq_true hb
            subst hb
            injection hr with hr
            subst hr
            obtain ⟨v, w', ρ', h3, h4, h5, h6⟩ := appendSt_sound (ty := o.type) h1 hs (hs.eval s) (hs.eval x).soft
            refine wpIn_of_wp hnd ?_
            unfold Oper.wp
            rw [show (execOp a.eval o).run P w = .ok (.value v) w' by subst e2; simp [execOp, ho, resolve, invoke, builtin, e1, h3]]
            exact hnx _ _ ⟨ρ', _, h2, h4, h5, h6⟩
          · have key : ∀ v w' ρ', (Builtin.append_ #[t, u] o.type #[a.eval s, a.eval x]).run P w = .ok v w' → SRel C ρ' σ' (a.put o.dst v) w' → Fr C σ.next ρ σ.H w ρ' σ'.H w' → σ.next ≤ σ'.next → o.wpIn (wideR rnd) 0 P a w nx Q := by
              intro v w' ρ' h3 h4 h5 h6
              refine wpIn_of_wp hnd ?_
              unfold Oper.wp
              rw [show (execOp a.eval o).run P w = .ok (.value v) w' by subst e2; simp [execOp, ho, resolve, invoke, builtin, e1, h3]]
              exact hnx _ _ ⟨ρ', _, h2, h4, h5, h6⟩
            split at hr
            · injection hr with hr
              subst hr
              obtain ⟨v, w', ρ', h3, h4, h5, h6⟩ := appendZ_sound (ty := o.type) h1 hs (hs.eval s) (hs.eval x)
              exact key v w' ρ' h3 h4 h5 h6
            injection hr with hr
            subst hr
            obtain ⟨v, w', ρ', h3, h4, h5, h6⟩ := appendStr_sound (ty := o.type) h1 hs (hs.eval s) (hs.eval x)
            exact key v w' ρ' h3 h4 h5 h6
        · injection hr with hr; subst hr; cases h1
      · split at hr
        · rename_i d x t u hargs hts
          have e1 : args.map a.eval = #[a.eval d, a.eval x] := by apply Array.ext'; simp [hargs]
          have e2 : ts = #[t, u] := by apply Array.ext'; simp [hts]
          split at hr
          · injection hr with hr
            subst hr
            obtain ⟨v, w', h3, h4, h5, h6⟩ := copySt_sound (t2 := u) (ty := o.type) h1 hs (hs.eval d).soft (hs.eval x).soft
            refine wpIn_of_wp hnd ?_
            unfold Oper.wp
            rw [show (execOp a.eval o).run P w = .ok (.value v) w' by subst e2; simp [execOp, ho, resolve, invoke, builtin, e1, h3]]
            exact hnx _ _ ⟨ρ, _, h2, h4, h5, by rw [h6]; exact Nat.le_refl _⟩
          · injection hr with hr; subst hr; cases h1
        · injection hr with hr; subst hr; cases h1
      · split at hr
        · rename_i p n pt it hargs hts
          have e1 : args.map a.eval = #[a.eval p, a.eval n] := by apply Array.ext'; simp [hargs]
          have e2 : ts = #[pt, it] := by apply Array.ext'; simp [hts]
          injection hr with hr
          subst hr
          obtain ⟨v, w', h3, h4, h5, h6⟩ := unsafeStr_sound (it := it) (ty := o.type) h1 hs (hs.eval p) (hs.eval n)
          refine wpIn_of_wp hnd ?_
          unfold Oper.wp
          rw [show (execOp a.eval o).run P w = .ok (.value v) w' by subst e2; simp [execOp, ho, resolve, invoke, builtin, e1, h3]]
          exact hnx _ _ ⟨ρ, _, h2, h4, h5, by rw [h6]; exact Nat.le_refl _⟩
        · injection hr with hr; subst hr; cases h1
      · cases hr
    · exact wpIn_of_wp hnd <| evM_reach (K := fun σ' => K (.go σ')) hG hC hΓ hs h hnx
  · rename_i f args ts ho
    split at h
    · rename_i g first caps hf
      split at h
      · rename_i c hc
        split at h
        · obtain ⟨h1, h2, h3⟩ := St.thaws_sound (ownKeysL (args.toList.map σ.eval)) hs
          rw [← h3] at h
          exact wpIn_of_wp hnd <| evM_reach (K := fun σ' => K (.go σ')) hG hC hΓ h1 h (fun a' w' hr => hnx a' w' (hr.trans h2 (by rw [h3]; exact Nat.le_refl _)))
        · exact wpIn_of_wp hnd <| evM_reach (K := fun σ' => K (.go σ')) hG hC hΓ hs h hnx
      · split at h
        · rename_i hne
          split at h
          · rename_i x hargs
            have hfv := hs.eval f
            rw [hf] at hfv
            generalize hvf : a.eval f = vf at hfv
            cases hfv with
            | fn h1 h2 =>
              cases h1
              cases h2
              refine wpIn_of_wp hnd ?_
              unfold Oper.wp
              have e1 : args.map a.eval = #[a.eval x] := by apply Array.ext'; simp [hargs]
              rw [show (execOp a.eval o).run P w = .ok (.value (a.eval x)) w by
                simp only [execOp, ho, resolve, Deferred.ofValue, hvf, Sem.run_bind, Sem.run_pure, Result.andThen_ok, invoke]
                rw [e1]
                exact noEsc_run hne _ w]
              exact hnx _ _ ⟨ρ, _, h, hs.put (hs.eval x), by rw [St.put_H]; exact Fr.refl _ _ _ _ _, by rw [St.put_next]; exact Nat.le_refl _⟩
          · exact h.elim
        · have hfv := hs.eval f
          rw [hf] at hfv
          generalize hvf : a.eval f = vf at hfv
          cases hfv with
          | fn h1 h2 =>
            obtain ⟨he, hcl⟩ := hcall.fn _ _ _ _ _ h C ρ w _ hC hs.m ((h1.append (VRs.ofMap (fun x => hs.eval x) args.toList)).append h2)
            refine wpIn_of_wp hnd ?_
            unfold Oper.wp
            rw [call_run ho hvf he]
            show Calls P g _ w _
            refine hcl.mono ?_
            rintro e w' ⟨ρ', r, H', n', hK, hm', hfr, hn, hend⟩
            have hmap : ∀ x v, VR C ρ σ.H w x v → VR C ρ' H' w' (x.map (hasKey H') dead) v := by
              intro x v hx
              refine VR.map hfr.data (fun k hk hp => ⟨hasKey_iff.1 hp, (hfr.keys k (hs.m.lt k hk) (hasKey_iff.1 hp)).2⟩) (fun k e t l hk hp => ?_) (fun _ _ _ _ _ _ => .no) hx
              exact hfr.rows k e t l (hs.m.lt k (mem_keys hk)) hk (hasKey_iff.1 hp)
            rcases hend with ⟨v, rfl, hp, hv⟩ | ⟨x, ch, rfl, hc, rfl⟩
            · simp only [afterC, hp] at hK
              exact hnx _ _ ⟨ρ', _, hK, (hs.keepTo hm' hmap hfr.data hfr.size).put hv, by rw [St.put_H]; exact hfr, by rw [St.put_next]; exact hn⟩
            · simp only [afterC, isPan, panE, hc] at hK
              exact hP ch _ _ ⟨ρ', _, hK, hs.keepTo hm' hmap hfr.data hfr.size, hfr, hn⟩
    · rename_i l hf
      have hfv := hs.eval f
      rw [hf] at hfv
      generalize hvf : a.eval f = vf at hfv
      cases hfv with
      | yld hl =>
        obtain ⟨fn, tmps, assign, body, hy, hr⟩ := hcall.yld _ _ _ _ _ h C ρ w _ hC hs.m (VRs.ofMap (fun x => hs.eval x) args.toList)
        refine ⟨fun _ _ => trivial, ?_⟩
        rw [Oper.semAt_eq _ _ _ hnd]
        rw [show (execOp a.eval o).run P w = .ok (.round (ρ l) fn tmps assign body) w by
          simp only [execOp, ho, resolve, Deferred.ofValue, hvf, Sem.run_bind, Sem.run_pure, Result.andThen_ok, invoke]
          have e1 : #[] ++ args.map a.eval ++ #[] = ⟨args.toList.map a.eval⟩ := by apply Array.ext'; simp
          simp only [Array.empty_append, Array.append_empty] at e1 ⊢
          rw [e1]; exact hy]
        refine ⟨fun h => (by cases h), ?_⟩
        refine RoundIn.mono hr ?_
        rintro e w' ⟨ρ', r, H', n', hK, hm', hfr, hn, hend⟩
        have hmap : ∀ x v, VR C ρ σ.H w x v → VR C ρ' H' w' (x.map (hasKey H') dead) v := by
          intro x v hx
          refine VR.map hfr.data (fun k hk hp => ⟨hasKey_iff.1 hp, (hfr.keys k (hs.m.lt k hk) (hasKey_iff.1 hp)).2⟩) (fun k e t l hk hp => ?_) (fun _ _ _ _ _ _ => .no) hx
          exact hfr.rows k e t l (hs.m.lt k (mem_keys hk)) hk (hasKey_iff.1 hp)
        rcases hend with ⟨v, rfl, hp, hv⟩ | ⟨x, ch, rfl, hc, rfl⟩
        · simp only [afterC, hp] at hK
          exact hnx _ _ ⟨ρ', _, hK, (hs.keepTo hm' hmap hfr.data hfr.size).put hv, by rw [St.put_H]; exact hfr, by rw [St.put_next]; exact hn⟩
        · simp only [afterC, isPan, panE, hc] at hK
          exact hP ch _ _ ⟨ρ', _, hK, hs.keepTo hm' hmap hfr.data hfr.size, hfr, hn⟩
    · exact h.elim
  · rename_i x ho
    split at h
    · rename_i ch hch
      obtain ⟨e1, k, u, e2⟩ := chainOf_sound hch (hs.eval x)
      refine wpIn_of_wp hnd ?_
      unfold Oper.wp
      rw [show (execOp a.eval o).run P w = .halt (.panic (a.eval x)) w by simp [execOp, ho, Instr.panic, e2, goPanic]]
      have := hP ch a w ⟨ρ, σ, h, hs, Fr.refl _ _ _ _ _, Nat.le_refl _⟩
      rw [e1] at this
      exact this
    · exact h.elim
  · rename_i t y lo hi mx ho
    obtain ⟨h1, h2, h3⟩ := St.freed_sound hs (σ.eval y)
    exact wpIn_of_wp hnd <| evM_reach (K := fun σ' => K (.go σ')) hG hC hΓ h1 h (fun a' w' hr => hnx a' w' (hr.trans h2 (by rw [h3]; exact Nat.le_refl _)))
  · rename_i t m i x ho
    obtain ⟨σ', h1, h2⟩ := T.leaf h
    obtain ⟨w', h3, h4, h5, h6⟩ := mapSt_sound h1 hs (hs.eval m) (hs.eval i) (hs.eval x)
    refine wpIn_of_wp hnd ?_
    unfold Oper.wp
    rw [show (execOp a.eval o).run P w = .ok .skip w' by simp [execOp, ho, h3]]
    exact hnx _ _ ⟨ρ, _, h2, h4.put .und, by rw [St.put_H]; exact h5, by rw [St.put_next, h6]; exact Nat.le_refl _⟩
  · rename_i t m i x ho
    obtain ⟨σ', h1, h2⟩ := T.leaf h
    obtain ⟨w', h3, h4, h5, h6⟩ := mapSt_sound h1 hs (hs.eval m) (hs.eval i) (hs.eval x)
    refine wpIn_of_wp hnd ?_
    unfold Oper.wp
    rw [show (execOp a.eval o).run P w = .ok .skip w' by simp [execOp, ho, h3]]
    exact hnx _ _ ⟨ρ, _, h2, h4.put .und, by rw [St.put_H]; exact h5, by rw [St.put_next, h6]; exact Nat.le_refl _⟩
  · exact wpIn_of_wp hnd <| evM_reach (K := fun σ' => K (.go σ')) hG hC hΓ hs h hnx

theorem tmps_get {ρ : Nat → Nat} {σ : St} {a : Act} {w : World} (hs : SRel C ρ σ a w) {t : Nat} {b : Bool} (h : look σ.slots t = .d .bool b) : a.tmps[t]? = some (.bool b) := by
  have := hs.slots t
  rw [h] at this
  have e := bool_value this
  rw [Array.getD_eq_getD_getElem?] at e
  cases hg : a.tmps[t]? with
  | none => rw [hg] at e; cases e
  | some v => rw [hg] at e; simp at e; rw [e]

theorem yielded_bool {ρ : Nat → Nat} {σ : St} {a : Act} {w : World} (hs : SRel C ρ σ a w) {ops : Array Oper} {j t : Nat} (ht : guardSlot ops j = some t) {b : Bool} (h : look σ.slots t = .d .bool b) : yielded ops a.tmps j = some b := by
  unfold yielded
  unfold guardSlot at ht
  rw [ht]
  simp [tmps_get hs h]

theorem yielded_und {ρ : Nat → Nat} {σ : St} {a : Act} {w : World} (hs : SRel C ρ σ a w) {ops : Array Oper} {j t : Nat} (ht : guardSlot ops j = some t) (h : look σ.slots t = .und) : yielded ops a.tmps j = none := by
  unfold yielded
  unfold guardSlot at ht
  rw [ht]
  have := hs.slots t
  rw [h] at this
  have e : a.tmps.getD t undef = undef := by generalize a.tmps.getD t undef = v at this; cases this; rfl
  rw [Array.getD_eq_getD_getElem?] at e
  simp only [Option.bind_some]
  cases hg : a.tmps[t]? with
  | none => rfl
  | some v => rw [hg] at e; simp at e; rw [e]; rfl

/-- A slot may be written as what it is. -/
theorem SRel.refine {ρ : Nat → Nat} {σ : St} {a : Act} {w : World} (hs : SRel C ρ σ a w) {t : Nat} {x : AV} (h : look σ.slots t = x) : SRel C ρ (σ.put (some t) x) a w := by
  refine ⟨by rw [St.put_H, St.put_next]; exact hs.m, fun u => ?_, ?_, by rw [St.put_H]; exact hs.defers⟩
  · rw [St.put_H]
    simp only [St.put]
    split
    · simp only [look]
      cases hu : Nat.beq t u with
      | true => have := beq_true hu; subst this; simp only; rw [← h]; exact hs.slots t
      | false => simp only; rw [look_del_ne (beq_false hu)]; exact hs.slots u
    · exact hs.slots u
  · simp only [St.put]; split <;> exact hs.size

/-- The first of several operations. -/
theorem execSeq_step (hG : GMono G) (hC : G C.w0) {Γ : Cons} (hΓ : Γ.ok P G) {call : CallT} (hcall : CallSat P G call) {ops : Array Oper} {Q : Exit → Act → World → Prop} {K : Fi → Prop} {o : Oper} {rest : List Oper}
    {ρ : Nat → Nat} {σ : St} {a : Act} {w : World} {nx : Act → World → Prop} (hs : SRel C ρ σ a w) (h : execSeq P Γ call ops (o :: rest) σ K)
    (hnx : ∀ a' w', Reach C σ ρ w (fun σ' => execSeq P Γ call ops rest σ' K) a' w' → nx a' w') (hP : ∀ ch a' w', Reach C σ ρ w (fun σ' => K (.pan ch σ')) a' w' → Q (.panic ch) a' w') (rnd : Option Nat) :
    if Region.wanted o (yielded ops a.tmps) then o.wpIn (wideR rnd) 0 P a w nx Q else (∀ f, o.about P w a.eval = some f → (wideR rnd).fn f) ∧ nx (a.put o.dst undef) w := by
  have run : ∀ {ρ1 : Nat → Nat} {σ1 : St}, SRel C ρ1 σ1 a w → Fr C σ.next ρ σ.H w ρ1 σ1.H w → σ.next ≤ σ1.next → (opS P Γ call o σ1 (seqF (fun σ' => execSeq P Γ call ops rest σ' K) K)) → o.wpIn (wideR rnd) 0 P a w nx Q := by
    intro ρ1 σ1 hs1 hf1 hn1 h1
    exact opS_sound hG hC hΓ hcall hs1 h1 (fun a' w' hr => hnx a' w' (hr.trans hf1 hn1)) (fun ch a' w' hr => hP ch a' w' (hr.trans hf1 hn1)) rnd
  have skip : ∀ {ρ1 : Nat → Nat} {σ1 : St}, SRel C ρ1 σ1 a w → Fr C σ.next ρ σ.H w ρ1 σ1.H w → σ.next ≤ σ1.next → execSeq P Γ call ops rest (σ1.put o.dst .und) K → (∀ f, o.about P w a.eval = some f → (wideR rnd).fn f) ∧ nx (a.put o.dst undef) w := by
    intro ρ1 σ1 hs1 hf1 hn1 h1
    exact ⟨fun _ _ => trivial, hnx _ _ ⟨ρ1, _, h1, hs1.put .und, by rw [St.put_H]; exact hf1, by rw [St.put_next]; exact hn1⟩⟩
  have hput : ∀ (t : Nat) (x : AV), (σ.put (some t) x).H = σ.H ∧ (σ.put (some t) x).next = σ.next := fun t x => ⟨St.put_H _ _ _, St.put_next _ _ _⟩
  simp only [execSeq] at h
  split at h
  · rename_i hg
    rw [if_pos (by simp [Region.wanted, hg])]
    exact (run hs (Fr.refl _ _ _ _ _) (Nat.le_refl _) h)
  · rename_i j want hg
    split at h
    · rename_i t ht
      split at h
      · rename_i x hx
        cases x with
        | true =>
          have hy := yielded_bool hs ht hx
          have hs' := hs.refine hx
          have hf' : Fr C σ.next ρ σ.H w ρ (σ.put (some t) (.d .bool true)).H w := by rw [(hput t _).1]; exact Fr.refl _ _ _ _ _
          have hn' : σ.next ≤ (σ.put (some t) (.d .bool true)).next := by rw [(hput t _).2]; exact Nat.le_refl _
          cases want with
          | true =>
            rw [if_pos (by simp [Region.wanted, hg, hy])]
            exact (run hs' hf' hn' h)
          | false =>
            rw [if_neg (by simp [Region.wanted, hg, hy])]
            exact skip hs' hf' hn' h
        | false =>
          have hy := yielded_bool hs ht hx
          have hs' := hs.refine hx
          have hf' : Fr C σ.next ρ σ.H w ρ (σ.put (some t) (.d .bool false)).H w := by rw [(hput t _).1]; exact Fr.refl _ _ _ _ _
          have hn' : σ.next ≤ (σ.put (some t) (.d .bool false)).next := by rw [(hput t _).2]; exact Nat.le_refl _
          cases want with
          | true =>
            rw [if_neg (by simp [Region.wanted, hg, hy])]
            exact skip hs' hf' hn' h
          | false =>
            rw [if_pos (by simp [Region.wanted, hg, hy])]
            exact (run hs' hf' hn' h)
      · rename_i hx
        have hy := yielded_und hs ht hx
        rw [if_neg (by simp [Region.wanted, hg, hy])]
        exact skip hs (Fr.refl _ _ _ _ _) (Nat.le_refl _) h
      · exact h.elim
    · exact h.elim

theorem execSeq_sound (hG : GMono G) (hC : G C.w0) {Γ : Cons} (hΓ : Γ.ok P G) {call : CallT} (hcall : CallSat P G call) {ops : Array Oper} {Q : Exit → Act → World → Prop} {K : Fi → Prop} :
    ∀ (l : List Oper) {ρ : Nat → Nat} {σ : St} {a : Act} {w : World}, SRel C ρ σ a w → execSeq P Γ call ops l σ K → (∀ a' w', Reach C σ ρ w (fun σ' => K (.go σ')) a' w' → Q .normal a' w') → (∀ ch a' w', Reach C σ ρ w (fun σ' => K (.pan ch σ')) a' w' → Q (.panic ch) a' w') → ∀ rnd : Option Nat, wpListIn (wideR rnd) 0 P ops Q l a w
  | [], ρ, σ, a, w, hs, h, hQ, hP, rnd => wpListIn_nil (hQ a w ⟨ρ, σ, h, hs, Fr.refl _ _ _ _ _, Nat.le_refl _⟩)
  | o :: rest, ρ, σ, a, w, hs, h, hQ, hP, rnd => by
    unfold wpListIn
    refine execSeq_step hG hC hΓ hcall hs h ?_ hP rnd
    rintro a' w' ⟨ρ', σ', h2, h3, h4, h5⟩
    exact execSeq_sound hG hC hΓ hcall rest h3 h2 (fun a'' w'' hr => hQ a'' w'' (hr.trans h4 h5)) (fun ch a'' w'' hr => hP ch a'' w'' (hr.trans h4 h5)) rnd
end
end Go.Vg
