/-
  A runner over the evaluator, and calls that have been run. Own work; no condition.
-/
import Derived.Test.YteidbklnpgfldaaGreatDoorClR1
set_option linter.unusedVariables false
set_option linter.unusedSimpArgs false
namespace Go.Vg
open Go Go.RowKit
def At (P : Program) (G : World → Prop) (f : Nat) (A R : Ty) (x : A.T) (y : R.T) : Prop := Con.ok P G f { args := A, res := R, pre := fun z => z = x, fn := fun _ => y }
def adP (P : Program) (G : World → Prop) (pf : aa4) : Prop := ∀ f A R x y, pf f A R x = some y → At P G f A R x y
def aA4 (pf : aa4) (g : Nat) (A R : Ty) : Con := { args := A, res := R, pre := fun x => (pf g A R x).isSome = true, fn := fun x => (pf g A R x).getD R.dflt, dec := fun _ => inferInstance }
def aaT (pf : aa4) : Sig → Cons
 | [] => []
 | (g, c) :: r => (g, aA4 pf g c.1 c.2) :: aaT pf r
def aa9 (cr : ad2) : abN := fun t args H n K => ∃ x, cr t args H n = some x ∧ K x.1 x.2.1 x.2.2
section
variable {P : Program} {G : World → Prop} {sig : Sig} {pf : aa4} {cr : ad2}
theorem aeH (g : Nat) : ∀ sig : Sig, (aaT pf sig).find g = (sig.find g).map fun c => aA4 pf g c.1 c.2
 | [] => rfl
 | (h, c) :: r => by
  simp only [aaT, Cons.find, Sig.find]
  cases hb : Nat.beq h g with
  | true => have := aaD hb; subst this; rfl
  | false => exact aeH g r
theorem aA3 (h : adP P G pf) : ∀ sig : Sig, (∀ x ∈ sig, acM P x.1 = true) → (aaT pf sig).ok P G
 | [], _ => trivial
 | (g, c) :: r, he => by
  refine ⟨⟨he _ zG, fun w ok vs x hG hok hvs hp => ?_⟩, aA3 h r (fun x hx => he x (zu _ hx))⟩
  have hp' : (pf g c.1 c.2 x).isSome = true := hp
  obtain ⟨y, hy⟩ := xo.1 hp'
  have := (h g c.1 c.2 x y hy).2 w ok vs x hG hok hvs rfl
  show Calls P g ⟨vs⟩ w fun e w' => ∃ rs, e = .returned (aJX rs) ∧ RdVs (aEW ok w w') w' c.2 ((pf g c.1 c.2 x).getD c.2.dflt) rs ∧ Below w.heap.size w w'
  rw [hy]
  exact this
theorem aIS {Γ Γ' : Cons} {K : Nat} {H : Heap} {arg : Operand → AV} {o : Oper} (ht : Cons.twice Γ = Cons.twice Γ') (h : ∀ f args ts, o.op ≠ .call ⟨.value f, args, ts⟩) : evM P Γ K H arg o = evM P Γ' K H arg o := by
 cases ho : o.op with
 | call c =>
  obtain ⟨callee, args, ts⟩ := c
  cases callee with
  | value f => exact absurd ho (h f args ts)
  | builtin b => cases b <;> simp only [evM, ho]
  | _ => simp only [evM, ho]
 | makeMap t r => cases r <;> simp only [evM, ho]
 | buildSlice t n ps => simp only [evM, ho, ht]
 | _ => simp only [evM, ho]
theorem aEs : ∀ sig : Sig, Cons.twice (aaT pf sig) = Cons.twice (aIK (apZ sig))
 | [] => rfl
 | [_] => rfl
 | (a, _) :: (b, _) :: r => by
  show Nat.beq a b = Cons.twice (aIK (Nat.beq a b))
  cases Nat.beq a b <;> rfl
theorem asO {K : Nat} {H : Heap} {arg : Operand → AV} {o : Oper} {x : AV × List (Nat × Bk)} {Q : AV × List (Nat × Bk) → Prop} (h : evR P sig pf K H arg o = some x) (hq : Q x) : (evM P (aaT pf sig) K H arg o).holds Q := by
 unfold evR at h
 split at h
 ·rename_i f args ts ho
  split at h
  ·rename_i g first caps hf
   split at h
   ·rename_i c hc
    split at h
    ·rename_i hb
     split at h
     ·rename_i z hz
      split at h
      ·rename_i y hy
       injection h with h
       subst h
       have hfind : (aaT pf sig).find g = some (aA4 pf g c.1 c.2) := by rw [aeH, hc]; rfl
       have h1 : (noSl (aA4 pf g c.1 c.2).res || !(apN (first ++ args.toList.map arg ++ caps))) = true := hb
       have h2 : ahB H (aA4 pf g c.1 c.2).args (first ++ args.toList.map arg ++ caps) = some z := hz
       simp only [evM, ho, hf, hfind, h1, h2, T.holds]
       refine ⟨by show (pf g c.1 c.2 z).isSome = true; rw [hy]; rfl, ?_⟩
       have h3 : (aA4 pf g c.1 c.2).fn z = y := by show (pf g c.1 c.2 z).getD c.2.dflt = y; rw [hy]; rfl
       rw [h3]
       exact hq
      ·cases h
     ·cases h
    ·cases h
   ·cases h
  ·cases h
 ·rename_i hne
  rw [aIS (aEs sig) (fun f args ts e => hne f args ts e)]
  exact T.holds_toO h hq
theorem ad9 {o : Oper} {σ σ' : St} {K : St → Prop} (h : ae3 P sig pf o σ = some σ') (hk : K σ') : (evM P (aaT pf sig) σ.next σ.H σ.eval o).holds fun x => K (σ.grow o.dst x.1 x.2) := by
 unfold ae3 at h
 cases hx : evR P sig pf σ.next σ.H σ.eval o with
 | none => rw [hx] at h; cases h
 | some x =>
  rw [hx] at h
  injection h with h
  subst h
  exact asO hx hk
theorem auZ {t : Tgt} {args : List AV} {σ σ' : St} {dst : Option Nat} {K : Fi → Prop} (h : aQJ σ dst (cr t args σ.H σ.next) = some σ') (hk : K (.go σ')) :
  aa9 cr t args σ.H σ.next (ak4 σ dst K) := by
 cases hx : cr t args σ.H σ.next with
 | none => rw [hx] at h; cases h
 | some x =>
  rw [hx] at h
  simp only [aQJ] at h
  split at h
  ·rename_i hp
   injection h with h
   subst h
   refine ⟨x, hx, ?_⟩
   simp only [ak4, hp]
   exact hk
  ·cases h
theorem aEN {t : Tgt} {args : List AV} {σ σ' : St} {ch : List PanicEntry} {dst : Option Nat} {K : Fi → Prop} (h : aRn σ (cr t args σ.H σ.next) = some (ch, σ')) (hk : K (.pan ch σ')) :
  aa9 cr t args σ.H σ.next (ak4 σ dst K) := by
 cases hx : cr t args σ.H σ.next with
 | none => rw [hx] at h; cases h
 | some x =>
  rw [hx] at h
  simp only [aRn] at h
  split at h
  ·rename_i y hp
   split at h
   ·rename_i c hc
    injection h with h
    injection h with h1 h2
    subst h1; subst h2
    refine ⟨x, hx, ?_⟩
    simp only [ak4, hp, hc]
    exact hk
   ·cases h
  ·cases h
theorem ajJ {o : Oper} {σ σ' : St} {K : Fi → Prop} (h : opR P sig pf cr o σ = some σ') (hk : K (.go σ')) : opS P (aaT pf sig) (aa9 cr) o σ K := by
 unfold opR at h
 split at h
 ·rename_i t a x ho
  simp only [opS, ho]
  unfold aGW at h
  split at h
  ·rename_i s hs
   injection h with h
   subst h
   exact T.holds_toO hs hk
  ·cases h
 ·rename_i ps ho
  simp only [opS, ho]
  exact ad9 (K := fun s => K (.go s)) h hk
 ·rename_i b args ts ho
  simp only [opS, ho]
  unfold az1 at h
  split at h
  ·rename_i r hr
   simp only [hr]
   exact T.holds_toO h hk
  ·rename_i hr
   simp only [hr]
   exact ad9 (K := fun s => K (.go s)) h hk
 ·rename_i f args ts ho
  simp only [opS, ho]
  unfold aGV at h
  split at h
  ·rename_i g first caps hf
   simp only [hf]
   unfold aRR at h
   split at h
   ·rename_i c hc
    have hfind : (aaT pf sig).find g = some (aA4 pf g c.1 c.2) := by rw [aeH, hc]; rfl
    have hres : (aA4 pf g c.1 c.2).res = c.2 := rfl
    simp only [hfind, hres]
    unfold aPU at h
    split at h
    ·rename_i hb
     simp only [hb]
     cases hx : evR P sig pf σ.next (σ.thaws (ab4 (args.toList.map σ.eval))).H (σ.thaws (ab4 (args.toList.map σ.eval))).eval o with
     | none => rw [hx] at h; cases h
     | some x =>
      rw [hx] at h
      injection h with h
      subst h
      exact asO hx hk
    ·rename_i hb
     simp only [hb]
     exact ad9 (K := fun s => K (.go s)) h hk
   ·rename_i hc
    have hfind : (aaT pf sig).find g = none := by rw [aeH, hc]; rfl
    simp only [hfind]
    unfold aG0 at h
    split at h
    ·rename_i he
     simp only [he]
     split at h
     ·rename_i x hx
      injection h with h
      subst h
      simp only [hx]
      exact hk
     ·cases h
    ·rename_i he
     simp only [he]
     exact auZ h hk
  ·rename_i l hl
   simp only [hl]
   exact auZ h hk
  ·cases h
 ·rename_i t y lo hi mx ho
  simp only [opS, ho]
  exact ad9 (K := fun s => K (.go s)) h hk
 ·rename_i t m i x ho
  simp only [opS, ho]
  unfold aKI at h
  split at h
  ·rename_i s hs
   injection h with h
   subst h
   exact T.holds_toO hs hk
  ·cases h
 ·rename_i t m i x ho
  simp only [opS, ho]
  unfold aKI at h
  split at h
  ·rename_i s hs
   injection h with h
   subst h
   exact T.holds_toO hs hk
  ·cases h
 ·rename_i h1 h2 h3 h4 h5 h6 h7
  unfold opS
  split
  ·rename_i t a x ho; exact absurd ho (h1 t a x)
  ·rename_i a b ps ho; exact absurd ho (h2 a b ps)
  ·rename_i b args ts ho; exact absurd ho (h3 b args ts)
  ·rename_i f args ts ho; exact absurd ho (h4 f args ts)
  ·rename_i x ho
   exfalso
   unfold ae3 evR at h
   simp only [ho, evM, evP] at h
   cases h
  ·rename_i t y lo hi mx ho; exact absurd ho (h5 t y lo hi mx)
  ·rename_i t m i x ho; exact absurd ho (h6 t m i x)
  ·rename_i t m i x ho; exact absurd ho (h7 t m i x)
  ·exact ad9 (K := fun s => K (.go s)) h hk
theorem aGY {o : Oper} {σ σ' : St} {ch : List PanicEntry} {K : Fi → Prop} (h : opP P sig cr o σ = some (ch, σ')) (hk : K (.pan ch σ')) : opS P (aaT pf sig) (aa9 cr) o σ K := by
 unfold opP at h
 split at h
 ·rename_i x ho
  simp only [opS, ho]
  split at h
  ·rename_i c hc
   injection h with h
   injection h with h1 h2
   subst h1; subst h2
   simp only [hc]
   exact hk
  ·cases h
 ·rename_i f args ts ho
  simp only [opS, ho]
  split at h
  ·rename_i g first caps hf
   simp only [hf]
   split at h
   ·cases h
   ·rename_i hc
    have hfind : (aaT pf sig).find g = none := by rw [aeH, hc]; rfl
    simp only [hfind]
    split at h
    ·cases h
    ·rename_i he
     simp only [he]
     exact aEN h hk
  ·cases h
 ·cases h
end
end Go.Vg
