/-
  The runner, part B: what it computes is what the code does. Own work; no condition.
-/
import Derived.Test.YtbfajgbedclfeaaGreatDoorRunA
namespace Go.Vg
open Go Go.RowKit

/-- The contract at one argument. -/
def At (P : Program) (G : World → Prop) (f : Nat) (A R : Ty) (x : A.T) (y : R.T) : Prop := Con.ok P G f { args := A, res := R, pre := fun z => z = x, fn := fun _ => y }

def PureOk (P : Program) (G : World → Prop) (pf : PureT) : Prop := ∀ f A R x y, pf f A R x = some y → At P G f A R x y

def conOf (pf : PureT) (g : Nat) (A R : Ty) : Con := { args := A, res := R, pre := fun x => (pf g A R x).isSome = true, fn := fun x => (pf g A R x).getD R.dflt, dec := fun _ => inferInstance }

def consOf (pf : PureT) : Sig → Cons
  | [] => []
  | (g, c) :: r => (g, conOf pf g c.1 c.2) :: consOf pf r

def callOf (cr : CallR) : CallT := fun t args H n K => ∃ x, cr t args H n = some x ∧ K x.1 x.2.1 x.2.2

section
variable {P : Program} {G : World → Prop} {sig : Sig} {pf : PureT} {cr : CallR}

theorem consOf_find (g : Nat) : ∀ sig : Sig, (consOf pf sig).find g = (sig.find g).map fun c => conOf pf g c.1 c.2
  | [] => rfl
  | (h, c) :: r => by
    simp only [consOf, Cons.find, Sig.find]
    cases hb : Nat.beq h g with
    | true => have := beq_true hb; subst this; rfl
    | false => exact consOf_find g r

theorem consOf_ok (h : PureOk P G pf) : ∀ sig : Sig, (∀ x ∈ sig, enters P x.1 = true) → (consOf pf sig).ok P G
  | [], _ => trivial
  | (g, c) :: r, he => by
    refine ⟨⟨he _ List.mem_cons_self, fun w ok vs x hG hok hvs hp => ?_⟩, consOf_ok h r (fun x hx => he x (List.mem_cons_of_mem _ hx))⟩
    have hp' : (pf g c.1 c.2 x).isSome = true := hp
    obtain ⟨y, hy⟩ := Option.isSome_iff_exists.1 hp'
    have := (h g c.1 c.2 x y hy).2 w ok vs x hG hok hvs rfl
    show Calls P g ⟨vs⟩ w fun e w' => ∃ rs, e = .returned (resV rs) ∧ RdVs (okNew ok w w') w' c.2 ((pf g c.1 c.2 x).getD c.2.dflt) rs ∧ Below w.heap.size w w'
    rw [hy]
    exact this

theorem evM_other {Γ Γ' : Cons} {K : Nat} {H : Heap} {arg : Operand → AV} {o : Oper} (ht : Cons.twice Γ = Cons.twice Γ') (h : ∀ f args ts, o.op ≠ .call ⟨.value f, args, ts⟩) : evM P Γ K H arg o = evM P Γ' K H arg o := by
  cases ho : o.op with
  | call c =>
    obtain ⟨callee, args, ts⟩ := c
    cases callee with
    | value f => exact absurd ho (h f args ts)
    | builtin b => cases b <;> simp only [evM, ho]
    | _ => simp only [evM, ho]
  | makeMap t r => cases r <;> simp only [evM, ho]
  | buildSlice t n ps => simp only [evM, ho, ht]
  | _ => simp only [evM, ho]

theorem twice_cons : ∀ sig : Sig, Cons.twice (consOf pf sig) = Cons.twice (flagC (sigTwice sig))
  | [] => rfl
  | [_] => rfl
  | (a, _) :: (b, _) :: r => by
    show Nat.beq a b = Cons.twice (flagC (Nat.beq a b))
    cases Nat.beq a b <;> rfl

theorem evR_sound {K : Nat} {H : Heap} {arg : Operand → AV} {o : Oper} {x : AV × List (Nat × Bk)} {Q : AV × List (Nat × Bk) → Prop} (h : evR P sig pf K H arg o = some x) (hq : Q x) : (evM P (consOf pf sig) K H arg o).holds Q := by
  unfold evR at h
  split at h
  · rename_i f args ts ho
    split at h
    · rename_i g first caps hf
      split at h
      · rename_i c hc
        split at h
        · rename_i hb
          split at h
          · rename_i z hz
            split at h
            · rename_i y hy
              injection h with h
              subst h
              have hfind : (consOf pf sig).find g = some (conOf pf g c.1 c.2) := by rw [consOf_find, hc]; rfl
              have h1 : (noSl (conOf pf g c.1 c.2).res || !(anyOwn (first ++ args.toList.map arg ++ caps))) = true := hb
              have h2 : toArgs H (conOf pf g c.1 c.2).args (first ++ args.toList.map arg ++ caps) = some z := hz
              simp only [evM, ho, hf, hfind, h1, h2, T.holds]
              refine ⟨by show (pf g c.1 c.2 z).isSome = true; rw [hy]; rfl, ?_⟩
              have h3 : (conOf pf g c.1 c.2).fn z = y := by show (pf g c.1 c.2 z).getD c.2.dflt = y; rw [hy]; rfl
              rw [h3]
              exact hq
            · cases h
          · cases h
        · cases h
      · cases h
    · cases h
  · rename_i hne
    rw [evM_other (twice_cons sig) (fun f args ts e => hne f args ts e)]
    exact T.holds_toO h hq

theorem opBuild_sound {o : Oper} {σ σ' : St} {K : St → Prop} (h : opBuild P sig pf o σ = some σ') (hk : K σ') : (evM P (consOf pf sig) σ.next σ.H σ.eval o).holds fun x => K (σ.grow o.dst x.1 x.2) := by
  unfold opBuild at h
  cases hx : evR P sig pf σ.next σ.H σ.eval o with
  | none => rw [hx] at h; cases h
  | some x =>
    rw [hx] at h
    injection h with h
    subst h
    exact evR_sound hx hk

theorem putR_sound {t : Tgt} {args : List AV} {σ σ' : St} {dst : Option Nat} {K : Fi → Prop} (h : putR σ dst (cr t args σ.H σ.next) = some σ') (hk : K (.go σ')) :
    callOf cr t args σ.H σ.next (afterC σ dst K) := by
  cases hx : cr t args σ.H σ.next with
  | none => rw [hx] at h; cases h
  | some x =>
    rw [hx] at h
    simp only [putR] at h
    split at h
    · rename_i hp
      injection h with h
      subst h
      refine ⟨x, hx, ?_⟩
      simp only [afterC, hp]
      exact hk
    · cases h

theorem putP_sound {t : Tgt} {args : List AV} {σ σ' : St} {ch : List PanicEntry} {dst : Option Nat} {K : Fi → Prop} (h : putP σ (cr t args σ.H σ.next) = some (ch, σ')) (hk : K (.pan ch σ')) :
    callOf cr t args σ.H σ.next (afterC σ dst K) := by
  cases hx : cr t args σ.H σ.next with
  | none => rw [hx] at h; cases h
  | some x =>
    rw [hx] at h
    simp only [putP] at h
    split at h
    · rename_i y hp
      split at h
      · rename_i c hc
        injection h with h
        injection h with h1 h2
        subst h1; subst h2
        refine ⟨x, hx, ?_⟩
        simp only [afterC, hp, hc]
        exact hk
      · cases h
    · cases h

theorem opR_sound {o : Oper} {σ σ' : St} {K : Fi → Prop} (h : opR P sig pf cr o σ = some σ') (hk : K (.go σ')) : opS P (consOf pf sig) (callOf cr) o σ K := by
  unfold opR at h
  split at h
  · rename_i t a x ho
    simp only [opS, ho]
    unfold opStore at h
    split at h
    · rename_i s hs
      injection h with h
      subst h
      exact T.holds_toO hs hk
    · cases h
  · rename_i ps ho
    simp only [opS, ho]
    exact opBuild_sound (K := fun s => K (.go s)) h hk
  · rename_i b args ts ho
    simp only [opS, ho]
    unfold opBuiltin at h
    split at h
    · rename_i r hr
      simp only [hr]
      exact T.holds_toO h hk
    · rename_i hr
      simp only [hr]
      exact opBuild_sound (K := fun s => K (.go s)) h hk
  · rename_i f args ts ho
    simp only [opS, ho]
    unfold opValue at h
    split at h
    · rename_i g first caps hf
      simp only [hf]
      unfold opFn at h
      split at h
      · rename_i c hc
        have hfind : (consOf pf sig).find g = some (conOf pf g c.1 c.2) := by rw [consOf_find, hc]; rfl
        have hres : (conOf pf g c.1 c.2).res = c.2 := rfl
        simp only [hfind, hres]
        unfold opSig at h
        split at h
        · rename_i hb
          simp only [hb]
          cases hx : evR P sig pf σ.next (σ.thaws (ownKeysL (args.toList.map σ.eval))).H (σ.thaws (ownKeysL (args.toList.map σ.eval))).eval o with
          | none => rw [hx] at h; cases h
          | some x =>
            rw [hx] at h
            injection h with h
            subst h
            exact evR_sound hx hk
        · rename_i hb
          simp only [hb]
          exact opBuild_sound (K := fun s => K (.go s)) h hk
      · rename_i hc
        have hfind : (consOf pf sig).find g = none := by rw [consOf_find, hc]; rfl
        simp only [hfind]
        unfold opEnter at h
        split at h
        · rename_i he
          simp only [he]
          split at h
          · rename_i x hx
            injection h with h
            subst h
            simp only [hx]
            exact hk
          · cases h
        · rename_i he
          simp only [he]
          exact putR_sound h hk
    · rename_i l hl
      simp only [hl]
      exact putR_sound h hk
    · cases h
  · rename_i t y lo hi mx ho
    simp only [opS, ho]
    exact opBuild_sound (K := fun s => K (.go s)) h hk
  · rename_i t m i x ho
    simp only [opS, ho]
    unfold opMap at h
    split at h
    · rename_i s hs
      injection h with h
      subst h
      exact T.holds_toO hs hk
    · cases h
  · rename_i t m i x ho
    simp only [opS, ho]
    unfold opMap at h
    split at h
    · rename_i s hs
      injection h with h
      subst h
      exact T.holds_toO hs hk
    · cases h
  · rename_i h1 h2 h3 h4 h5 h6 h7
    unfold opS
    split
    · rename_i t a x ho; exact absurd ho (h1 t a x)
    · rename_i a b ps ho; exact absurd ho (h2 a b ps)
    · rename_i b args ts ho; exact absurd ho (h3 b args ts)
    · rename_i f args ts ho; exact absurd ho (h4 f args ts)
    · rename_i x ho
      exfalso
      unfold opBuild evR at h
      simp only [ho, evM, evP] at h
      cases h
    · rename_i t y lo hi mx ho; exact absurd ho (h5 t y lo hi mx)
    · rename_i t m i x ho; exact absurd ho (h6 t m i x)
    · rename_i t m i x ho; exact absurd ho (h7 t m i x)
    · exact opBuild_sound (K := fun s => K (.go s)) h hk

theorem opP_sound {o : Oper} {σ σ' : St} {ch : List PanicEntry} {K : Fi → Prop} (h : opP P sig cr o σ = some (ch, σ')) (hk : K (.pan ch σ')) : opS P (consOf pf sig) (callOf cr) o σ K := by
  unfold opP at h
  split at h
  · rename_i x ho
    simp only [opS, ho]
    split at h
    · rename_i c hc
      injection h with h
      injection h with h1 h2
      subst h1; subst h2
      simp only [hc]
      exact hk
    · cases h
  · rename_i f args ts ho
    simp only [opS, ho]
    split at h
    · rename_i g first caps hf
      simp only [hf]
      split at h
      · cases h
      · rename_i hc
        have hfind : (consOf pf sig).find g = none := by rw [consOf_find, hc]; rfl
        simp only [hfind]
        split at h
        · cases h
        · rename_i he
          simp only [he]
          exact putP_sound h hk
    · cases h
  · cases h

end
end Go.Vg
