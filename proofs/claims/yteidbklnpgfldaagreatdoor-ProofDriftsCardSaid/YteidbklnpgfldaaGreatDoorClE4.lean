/-
  An evaluator of Go code over plain data, proved sound against the model. Own work; no condition.
-/
import Derived.Test.YteidbklnpgfldaaGreatDoorClE3
import Derived.RecoverIn
set_option linter.unusedVariables false
set_option linter.unusedSimpArgs false
namespace Go.Vg
open Go Go.RowKit
def aQF (pre : List Oper) (us : List Out) (nt : Nat) (f0 : Nat → AV) (ls : Nat → Bool) (t : Nat) (x : AV) : Prop :=
 (∃ (j : Nat) (o : Oper) (u : Out), pre[j]? = some o ∧ us[j]? = some u ∧ o.dst = some t ∧ t < nt ∧ ls j = true ∧ x = u.av) ∨
 ((∀ (j : Nat) (o : Oper), pre[j]? = some o → o.dst = some t → t < nt → ls j = false) ∧ x = f0 t)
def SkInv (C : Ctx) (ρ : Nat → Nat) (Hd : Heap) (w : World) (Hs : Heap) (sk : List (Nat × Nat)) (base : Nat) (us : List Out) (ls : Nat → Bool) : Prop :=
  ∀ K k, (K, k) ∈ sk → base ≤ K ∧ ∃ e cells, Hs.find k = some (.vars e cells) ∧ (k ∈ Hd.keys → (k, Bk.any) ∈ Hd ∧
    ((∃ b, us[K - base]? = some (.st k b) ∧ ls (K - base) = true ∧ BkR C ρ Hd w (ρ k) b) ∨
     ((ls (K - base) = false ∨ us[K - base]? = some .skip) ∧ BkR C ρ Hd w (ρ k) (.vars e cells))))
def AInv (C : Ctx) (ρ0 : Nat → Nat) (ws : World) (σ0 : St) (Hs : Heap) (sk : List (Nat × Nat)) (base : Nat) (pre : List Oper) (us : List Out) (ls : Nat → Bool) (a : Act) (w : World) : Prop :=
 ∃ (ρ : Nat → Nat) (Hd : Heap), (∀ x, x ∈ Hd ↔ x ∈ σ0.H ∨ ∃ (j : Nat) (u : Out), us[j]? = some u ∧ ls j = true ∧ x ∈ u.new) ∧ MRel C ρ Hd σ0.next w ∧
  (∀ t x, aQF pre us σ0.n (acT σ0.slots) ls t x → VR C ρ Hd w x (a.tmps.getD t undef)) ∧ a.tmps.size = σ0.n ∧ Dfs C ρ Hd w a.defers ∧ Ext C ρ0 σ0.H ws ρ Hd w ∧ SkInv C ρ Hd w Hs sk base us ls
def am3 (ls : Nat → Bool) (i : Nat) : Nat → Bool := fun j => if j = i then true else ls j
section
variable {C : Ctx} {P : Program} {G : World → Prop} {Γ : Cons} {ops : Array Oper}
theorem aQ3 {H : Heap} {k : Nat} {b : Bk} (hn : H.keys.Nodup) (h : (k, b) ∈ H) : H.up k b = H := by
 induction H with
 | nil => rfl
 | cons x r ih =>
  obtain ⟨j, y⟩ := x
  have hn' := yA.1 hn
  simp only [Heap.up]
  cases hb : Nat.beq j k with
  | true =>
   have := aaD hb; subst this
   rcases zq.1 h with e | h
   ·injection e with _ e; rw [e]
   ·exact absurd (aaE h) hn'.1
  | false =>
   rcases zq.1 h with e | h
   ·injection e with e _; exact absurd e.symm (ab6 hb)
   ·simp only [ih hn'.2 h]
theorem aGj {ρ : Nat → Nat} {H : Heap} {next : Nat} {w : World} (hm : MRel C ρ H next w) {k off : Nat} {e : TypeId} {cells cs : List AV} {n : Nat} {t : TypeId} {y : AV} {vy : Value} (hk : (k, Bk.any) ∈ H)
  (hb : BkR C ρ H w (ρ k) (.vars e cells)) (hcs : cellsOf y = some cs) (hsz : aa6 P t = some n) (hlen : cs.length = n) (hle : off + n ≤ cells.length) (hy : VR C ρ H w y vy) :
  ∃ w', (Instr.storeAt t (.pointer (some ⟨ρ k, off, none⟩)) vy).run P w = .ok () w' ∧ MRel C ρ H next w' ∧ Ext C ρ H w ρ H w' ∧ BkR C ρ H w' (ρ k) (.vars e (over cells off cs)) ∧ (∀ j, j ≠ ρ k → w'.heap[j]? = w.heap[j]?) := by
 obtain ⟨c, h1, h2, h3⟩ := hb
 obtain ⟨hv, hv1⟩ := afD hcs hy
 have hl1 := hv.length
 have hl2 := h2.length
 have hcl : c.toList.length = c.size := zf
 have hvs : vy.cells.toList.length = n := zb
 have hrun := afO (P := P) (vs := vy.cells.toList) h1 (o := off) zb hv1
 have hovl : (over c.toList off vy.cells.toList).length = c.toList.length := aaV _ _ _ zb
 obtain ⟨hm', hext⟩ := hm.write (nb := .any) (c' := ⟨over c.toList off vy.cells.toList⟩) hk h1 (by simp [hovl]) (fun e t l h => by cases h) (fun H' w' _ hw' => ⟨_, hw'⟩)
 rw [aQ3 hm.nodup hk] at hm' hext
 refine ⟨_, ?_, hm', hext, ⟨_, setRow_heap _ _ _ _ _ _ h1, (h2.imp (fun _ _ => hext.vr)).over (hv.imp (fun _ _ => hext.vr)) off, ?_⟩, fun j hj => setRow_other _ _ _ _ hj⟩
 ·simp only [Instr.storeAt, Instr.sureAddr, Sem.run_bind, Sem.run_pure, Result.andThen_ok, storeVar, aaO hsz, Sem.run_ite]
  rw [if_neg (by simp at hl1; omega)]
  exact hrun
 ·intro v hv
  rcases agK hv with h | h
  ·exact h3 v h
  ·exact hv1 v h
theorem aiJ {a : Act} {dst : Option Nat} {v : Value} {t : Nat} : (a.put dst v).tmps.getD t undef = if dst = some t ∧ t < a.tmps.size then v else a.tmps.getD t undef := by
 cases dst with
 | none => simp [Act.put]
 | some d =>
  simp only [Act.put, zo]
  by_cases h : d = t
  ·subst h
   by_cases hlt : d < a.tmps.size
   ·simp [hlt]
   ·simp [hlt]
  ·rw [yH h]
   simp [h]
theorem ah5 {a : Act} {dst : Option Nat} {v : Value} : (a.put dst v).tmps.size = a.tmps.size := by cases dst <;> simp [Act.put]
theorem adR {a : Act} {dst : Option Nat} {v : Value} : (a.put dst v).defers = a.defers := by cases dst <;> rfl
theorem aj9 {t : Nat} : ∀ {l : List Operand}, .tmp t ∈ l → t ∈ ai7 l
 | [], h => by simp at h
 | x :: r, h => by
  rcases zq.1 h with e | h1
  ·subst e; simp [ai7]
  ·have := aj9 h1
   cases x <;> simp [ai7, this]
theorem aoT {o : Oper} {t : Nat} (h : t ∈ ai7 o.op.operands.toList) : t ∈ ajB ops o := by
 unfold ajB
 split
 ·exact h
 ·split
  ·exact zu _ h
  ·exact h
theorem alM {o : Oper} {j : Nat} {want : Bool} {t : Nat} (hg : o.guard = some (j, want)) (ht : abB ops j = some t) : t ∈ ajB ops o := by
 unfold ajB
 rw [hg]
 simp only [ht]
 exact zG
theorem aIQ {K : Nat} {H : Heap} {arg : Operand → AV} {o : Oper} {x : AV × List (Nat × Bk)} {t : TypeId} {p y : Operand} (ho : o.op = .store t p y) (h : (evM P Γ K H arg o).Leaf x) : False := by
 simp only [evM, evP, ho] at h
 obtain ⟨_, h1, _⟩ := T.Leaf.bind h
 cases h1
theorem aPe {sk : List (Nat × Nat)} (hn : (sk.map (·.2)).Nodup) {K K' k : Nat} (h : (K, k) ∈ sk) (h' : (K', k) ∈ sk) : K = K' := by
 induction sk with
 | nil => cases h
 | cons x r ih =>
  have hn' := yA.1 hn
  rcases zq.1 h with e | h1 <;> rcases zq.1 h' with e' | h2
  ·rw [← e] at e'; injection e' with e' _; exact e'.symm
  ·subst e; exact absurd (zH.2 ⟨_, h2, rfl⟩) hn'.1
  ·subst e'; exact absurd (zH.2 ⟨_, h1, rfl⟩) hn'.1
  ·exact ih hn'.2 h1 h2
structure SkOk (sk : List (Nat × Nat)) (base : Nat) (pre : List Oper) : Prop where
 nodup : (sk.map (·.2)).Nodup
 get : ∀ K k, (K, k) ∈ sk → at1 sk K = some k
 op : ∀ K k, (K, k) ∈ sk → ∃ o t a x, pre[K - base]? = some o ∧ o.op = .store t a x
 laid : ∀ K k, (K, k) ∈ sk → base ≤ k → ∃ o, pre[K - base]? = some o ∧ adG o (k - base) = true
theorem apJ {pre : List Oper} {base : Nat} : ∀ {sk : List (Nat × Nat)}, al0 pre base sk = true → ∀ K k, (K, k) ∈ sk → base ≤ k → ∃ o, pre[K - base]? = some o ∧ adG o (k - base) = true
 | [], _, _, _, hm, _ => by cases hm
 | (K', k') :: r, h, K, k, hm, hk => by
  simp only [al0, zl, xc] at h
  rcases zq.1 hm with e | hm
  ·injection e with e1 e2
   subst e1; subst e2
   rcases h.1 with h1 | h1
   ·have := Nat.le_of_ble_eq_true h1; omega
   ·split at h1
    ·rename_i o ho; exact ⟨o, ho, h1⟩
    ·cases h1
  ·exact apJ h.2 K k hm hk
theorem ay4 {sk : List (Nat × Nat)} {K k : Nat} (h : at1 sk K = some k) : (K, k) ∈ sk := by
 induction sk with
 | nil => cases h
 | cons x r ih =>
  obtain ⟨K', k'⟩ := x
  simp only [at1] at h
  cases hb : Nat.beq K' K with
  | true => rw [hb] at h; injection h with h; subst h; have := aaD hb; subst this; exact zG
  | false => rw [hb] at h; exact zu _ (ih h)
theorem skHas_iff {sk : List (Nat × Nat)} {k : Nat} : ajA sk k = true ↔ ∃ K, (K, k) ∈ sk := by
 induction sk with
 | nil => simp [ajA]
 | cons x r ih =>
  obtain ⟨K', j⟩ := x
  simp only [ajA]
  cases hb : Nat.beq j k with
  | true => have := aaD hb; subst this; exact ⟨fun _ => ⟨K', zG⟩, fun _ => rfl⟩
  | false =>
   rw [ih]
   have hne := ab6 hb
   constructor
   ·rintro ⟨K, h⟩; exact ⟨K, zu _ h⟩
   ·rintro ⟨K, h⟩
    rcases zq.1 h with e | h
    ·injection e with _ e; exact absurd e.symm hne
    ·exact ⟨K, h⟩
theorem MRel.reveal {ρ : Nat → Nat} {H H' : Heap} {next : Nat} {w : World} (hm : MRel C ρ H next w) (hk : ∀ k, k ∈ H.keys ↔ k ∈ H'.keys) (hr : ∀ k e t l, (k, Bk.row e t l) ∈ H → (k, Bk.row e t l) ∈ H') (hn : H'.keys.Nodup)
  (hb : ∀ k b, (k, b) ∈ H' → BkR C ρ H w (ρ k) b) : MRel C ρ H' next w ∧ Ext C ρ H w ρ H' w := by
 have hext : Ext C ρ H w ρ H' w := ⟨fun b ⟨h1, h2, h3⟩ => ⟨⟨h1, h2, fun k hk' => h3 k ((hk k).2 hk')⟩, rfl⟩, fun k hk' => ⟨(hk k).1 hk', rfl⟩, fun k e t l hm => ⟨l, hr k e t l hm, zj _, fun c fr hc => ⟨c, fr, hc, rfl⟩⟩, zj _⟩
 exact ⟨⟨hm.below, hn, fun k hk' => hm.lt k ((hk k).2 hk'), fun k hk1 k' hk2 => hm.inj k ((hk k).2 hk1) k' ((hk k').2 hk2), fun k hk' => hm.low k ((hk k).2 hk'), fun k b hb' => (hb k b hb').ext hext rfl⟩, hext⟩
theorem aaK (H : Heap) : ∀ l : List (Nat × Bk), (aaR H l).keys = H.keys
 | [] => rfl
 | (k, b) :: r => by simp only [aaR]; rw [Heap.keys_up, aaK H r]
theorem ac7 {H : Heap} (hn : H.keys.Nodup) : ∀ {l : List (Nat × Bk)} {k : Nat} {b : Bk}, (k, b) ∈ aaR H l → (k, b) ∈ l ∨ (∀ b', (k, b') ∉ l) ∧ (k, b) ∈ H
 | [], k, b, h => Or.inr ⟨(by intro b' hb; cases hb), h⟩
 | (j, y) :: r, k, b, h => by
  simp only [aaR] at h
  by_cases hj : k = j
  ·subst hj
   rw [Heap.mem_up_eq (by rw [aaK]; exact hn) h]
   exact Or.inl zG
  ·rcases ac7 hn ((Heap.mem_up_ne hj).1 h) with h | ⟨h1, h2⟩
   ·exact Or.inl (zu _ h)
   ·refine Or.inr ⟨fun b' hb' => ?_, h2⟩
    rcases zq.1 hb' with e | hb'
    ·injection e with e _; exact hj e
    ·exact h1 b' hb'
theorem abW {H : Heap} : ∀ {l : List (Nat × Bk)} {k : Nat} {b : Bk}, (k, b) ∈ H → (∀ b', (k, b') ∉ l) → (k, b) ∈ aaR H l
 | [], _, _, h, _ => h
 | (j, y) :: r, k, b, h, hl => by
  simp only [aaR]
  have hne : k ≠ j := fun e => hl y (by rw [e]; exact zG)
  exact (Heap.mem_up_ne hne).2 (abW h (fun b' hb' => hl b' (zu _ hb')))
theorem olds_mem {H : Heap} : ∀ {sk : List (Nat × Nat)} {k : Nat} {b : Bk}, (k, b) ∈ olds H sk ↔ (∃ K, (K, k) ∈ sk) ∧ H.find k = some b
 | [], k, b => by simp [olds]
 | (K', j) :: r, k, b => by
  simp only [olds]
  cases hf : H.find j with
  | none =>
   simp only [olds_mem, zq, Prod.mk.injEq]
   constructor
   ·rintro ⟨⟨K, h1⟩, h2⟩; exact ⟨⟨K, Or.inr h1⟩, h2⟩
   ·rintro ⟨⟨K, ⟨_, rfl⟩ | h1⟩, h2⟩
    ·rw [hf] at h2; cases h2
    ·exact ⟨⟨K, h1⟩, h2⟩
  | some y =>
   simp only [zq, olds_mem, Prod.mk.injEq]
   constructor
   ·rintro (⟨rfl, rfl⟩ | ⟨⟨K, h1⟩, h2⟩)
    ·exact ⟨⟨K', Or.inl ⟨rfl, rfl⟩⟩, hf⟩
    ·exact ⟨⟨K, Or.inr h1⟩, h2⟩
   ·rintro ⟨⟨K, ⟨_, rfl⟩ | h1⟩, h2⟩
    ·rw [hf] at h2; injection h2 with h2; exact Or.inl ⟨rfl, h2.symm⟩
    ·exact Or.inr ⟨⟨K, h1⟩, h2⟩
theorem agJ {H : Heap} : ∀ {l : List (Nat × Bk)} {k : Nat} {b : Bk}, k ∈ H.keys → (k, b) ∈ l → (∀ b', (k, b') ∈ l → b' = b) → (k, b) ∈ aaR H l
 | [], _, _, _, h, _ => by cases h
 | (j, y) :: r, k, b, hk, h, hu => by
  simp only [aaR]
  by_cases hj : k = j
  ·subst hj
   rw [hu y zG]
   exact Heap.mem_up_same (by rw [aaK]; exact hk)
  ·refine (Heap.mem_up_ne hj).2 (agJ hk ?_ (fun b' hb' => hu b' (zu _ hb')))
   rcases zq.1 h with e | h
   ·injection e with e _; exact absurd e hj
   ·exact h
theorem afW {pre : List Oper} {base i : Nat} : ∀ {sk : List (Nat × Nat)} {K k : Nat}, (K, k) ∈ adK pre base i sk → (K, k) ∈ sk ∧ ∃ o, pre[K - base]? = some o ∧ adG o i = true
 | [], _, _, h => by cases h
 | (K', k') :: r, K, k, h => by
  simp only [adK] at h
  split at h
  ·rename_i o ho
   split at h
   ·rename_i he
    rcases zq.1 h with e | h
    ·injection e with e1 e2; subst e1; subst e2; exact ⟨zG, o, ho, he⟩
    ·obtain ⟨h1, h2⟩ := afW h; exact ⟨zu _ h1, h2⟩
   ·obtain ⟨h1, h2⟩ := afW h; exact ⟨zu _ h1, h2⟩
  ·obtain ⟨h1, h2⟩ := afW h; exact ⟨zu _ h1, h2⟩
theorem aLz (pre : List Oper) (base : Nat) (sk : List (Nat × Nat)) (Hs H : Heap) (K : Nat) (N : Heap) : aCy pre base sk Hs H K N = aPR sk base N pre[K - base]? ++ aaR H (olds Hs (adK pre base (K - base) sk)) := by
 cases sk <;> rfl
theorem anT {sk : List (Nat × Nat)} {o : Oper} {base : Nat} : ∀ {N : Heap} {x : Nat × Bk}, x ∈ aGQ sk o base N → x ∈ N ∧ base ≤ x.1 ∧ adG o (x.1 - base) = true ∧ ajA sk x.1 = false
 | [], _, h => by cases h
 | (k, b) :: r, x, h => by
  simp only [aGQ] at h
  split at h
  ·rename_i hb
   split at h
   ·rename_i hc
    simp only [zl, zK] at hc
    rcases zq.1 h with rfl | h
    ·exact ⟨zG, Nat.le_of_ble_eq_true hb, hc⟩
    ·obtain ⟨h1, h2⟩ := anT h; exact ⟨zu _ h1, h2⟩
   ·obtain ⟨h1, h2⟩ := anT h; exact ⟨zu _ h1, h2⟩
  ·cases h
theorem SkInv.keep {ρ ρ' : Nat → Nat} {Hd new : Heap} {w w' : World} {Hs : Heap} {sk : List (Nat × Nat)} {base : Nat} {us : List Out} {ls : Nat → Bool} {i : Nat} (h : SkInv C ρ Hd w Hs sk base us ls) (he : Ext C ρ Hd w ρ' (new ++ Hd) w')
  (hb : ∀ k ∈ Hd.keys, w'.heap[ρ k]? = w.heap[ρ k]?) (hi : ∀ K k, (K, k) ∈ sk → K - base = i → us[i]? = some .skip)
  (hnew : ∀ K k e cells, (K, k) ∈ sk → Hs.find k = some (.vars e cells) → k ∈ Heap.keys new → (k, Bk.any) ∈ new ∧ ls (K - base) = false ∧ BkR C ρ' (new ++ Hd) w' (ρ' k) (.vars e cells)) : SkInv C ρ' (new ++ Hd) w' Hs sk base us (am3 ls i) := by
 intro K k hk
 obtain ⟨h0, e, cells, h1, h2⟩ := h K k hk
 refine ⟨h0, e, cells, h1, fun hkk => ?_⟩
 have hcase : k ∈ Heap.keys new ∨ k ∈ Hd.keys := by
  simp only [Heap.keys, xB, zE] at hkk
  exact hkk
 rcases hcase with hkk | hkk
 ·obtain ⟨g1, g2, g3⟩ := hnew K k e cells hk h1 hkk
  refine ⟨zE.2 (Or.inl g1), Or.inr ⟨?_, g3⟩⟩
  by_cases hi' : K - base = i
  ·rw [hi']; exact Or.inr (hi K k hk hi')
  ·exact Or.inl (by unfold am3; rw [if_neg hi']; exact g2)
 ·obtain ⟨h2, h3⟩ := h2 hkk
  have hr := (he.keys k hkk).2
  refine ⟨zE.2 (Or.inr h2), ?_⟩
  rw [hr]
  rcases h3 with ⟨b, g1, g2, g3⟩ | ⟨g1, g2⟩
  ·exact Or.inl ⟨b, g1, by unfold am3; split <;> first | rfl | exact g2, g3.ext he (hb k hkk)⟩
  ·refine Or.inr ⟨?_, g2.ext he (hb k hkk)⟩
   by_cases hi' : K - base = i
   ·rw [hi']; exact Or.inr (hi K k hk hi')
   ·rcases g1 with g1 | g1
    ·exact Or.inl (by unfold am3; rw [if_neg hi']; exact g1)
    ·exact Or.inr g1
theorem AInv.step (hG : acS G) (hC : G C.w0) (hΓ : Γ.ok P G) {ρ0 : Nat → Nat} {ws : World} {σ0 : St} {base : Nat} {l pre : List Oper} {us : List Out} {f' : Nat → AV} {ls : Nat → Bool} {a : Act} {w : World}
  {i : Nat} {o : Oper} {Q : Exit → Act → World → Prop} {nx : Act → World → Prop} (hops : ops.toList = l) (hpre : ∀ (j : Nat) (p : Oper), pre[j]? = some p → l[j]? = some p)
  {Hs : Heap} {sk : List (Nat × Nat)} (hsk : SkOk sk base pre) (htr : Tr P Γ ops sk Hs (aCy pre base sk Hs σ0.H) σ0.n pre base σ0.H (acT σ0.slots) us f') (hchk : as8 ops pre pre 0 = true) (hnd0 : σ0.H.keys.Nodup) (hbase : ∀ k ∈ σ0.H.keys, k < base) (hnext : base + pre.length ≤ σ0.next)
  (hinit : ∀ (i : Nat) (o : Oper) (e : TypeId) (zs : List AV), pre[i]? = some o → o.op = .alloc e → ab2 P e = some zs → Hs.find (base + i) = some (.vars e zs)) (hcl : awG l ls)
  (ho : pre[i]? = some o) (hls : ls i = false) (hedge : ∀ e ∈ o.after, acA e = true → ls e.on = true) (hinv : AInv C ρ0 ws σ0 Hs sk base pre us ls a w)
  (hnx : ∀ a' w', AInv C ρ0 ws σ0 Hs sk base pre us (am3 ls i) a' w' → nx a' w') (rnd : Option Nat) : wpOpIn (aaW rnd) 0 P ops Q i nx a w := by
 obtain ⟨ρ, Hd, hH, hm, hsl, hsz, hdf, hext, hski⟩ := hinv
 obtain ⟨u, fi, Ni, hu, htri, hst, hNi⟩ := htr.nth ho
 obtain ⟨hrd, hdst⟩ := as7 hchk ho
 rw [zp] at hrd hdst
 have hilt : i < pre.length := (zw.1 ho).1
 -- what the operation aPl
 have hread : ∀ t ∈ ajB ops o, VR C ρ Hd w (fi t) (a.tmps.getD t undef) := by
  intro t ht
  have hc := hrd t ht
  apply hsl t
  rcases htri.slot t with ⟨j, p, v, h1, h2, h3, h4, h5⟩ | ⟨h1, h2⟩
  ·have hji : j < i := by
    have := (zw.1 h1).1
    simp at this; omega
   rw [zR, if_pos hji] at h1 h2
   have h7 : adG o j = true := by
    have h7 := ajW hc h1 h3
    rw [zp] at h7
    rcases h7 with h7 | h7
    ·exact h7.2
    ·omega
   obtain ⟨e, he1, he2, he3⟩ := adW h7
   exact Or.inl ⟨j, p, v, h1, h2, h3, h4, by rw [← he3]; exact hedge e he1 he2, h5⟩
  ·refine Or.inr ⟨fun j p hp hd hlt => ?_, h2⟩
   have h6 := ajW hc hp hd
   rw [zp] at h6
   rcases h6 with ⟨h6, _⟩ | ⟨_, h6⟩
   ·exact absurd hlt (h1 j p (by rw [zR, if_pos h6]; exact hp) hd)
   ·obtain ⟨ed, d1, d2, d3⟩ := adW h6
    cases hb : ls j with
    | false => rfl
    | true =>
     have := hcl _ _ (hpre _ _ hp) hb ed d1 d2
     rw [d3, hls] at this
     cases this
 -- the keys of the new blocks
 have hnewk : ∀ (j : Nat) (v : Out), us[j]? = some v → ∀ x ∈ v.new, x.1 = base + j := by
  intro j v hj x hx
  have hjl : j < pre.length := by have := (zw.1 hj).1; rw [htr.length] at this; exact this
  obtain ⟨v', fj, _, h1, _, h3, _⟩ := htr.nth (i := j) (o := pre[j]) (by simp [hjl])
  rw [hj] at h1
  injection h1 with h1
  subst h1
  cases v with
  | ran r new =>
   rcases h3.2 with ⟨_, h3⟩ | ⟨_, _, _, _, _, rfl⟩
   ·exact amV h3 x hx
   ·simp only [Out.new, ye] at hx; subst hx; rfl
  | skip => cases hx
  | st k b => cases hx
 have hKn : base + i ∉ Hd.keys := by
  intro hk
  obtain ⟨x, hx, e⟩ := zH.1 hk
  rcases (hH x).1 hx with h | ⟨j, v, h1, h2, h3⟩
  ·have := hbase x.1 (zH.2 ⟨x, h, rfl⟩); omega
  ·have := hnewk j v h1 x h3
   have : j = i := zb
   subst this
   rw [hls] at h2; cases h2
 -- what holds behind it
 have done : ∀ (v : Value) (ρ' : Nat → Nat) (w' : World), MRel C ρ' (u.new ++ Hd) σ0.next w' → Ext C ρ Hd w ρ' (u.new ++ Hd) w' → VR C ρ' (u.new ++ Hd) w' u.av v → SkInv C ρ' (u.new ++ Hd) w' Hs sk base us (am3 ls i) → AInv C ρ0 ws σ0 Hs sk base pre us (am3 ls i) (a.put o.dst v) w' := by
  intro v ρ' w' hm' he hv hsk'
  refine ⟨ρ', u.new ++ Hd, fun x => ?_, hm', fun t x hx => ?_, by rw [ah5]; exact hsz, by rw [adR]; exact hdf.mono he.data he.size, hext.trans he, hsk'⟩
  ·rw [zE, hH]
   constructor
   ·rintro (h | h | ⟨j, v, h1, h2, h3⟩)
    ·exact Or.inr ⟨i, u, hu, by simp [am3], h⟩
    ·exact Or.inl h
    ·exact Or.inr ⟨j, v, h1, by unfold am3; split <;> first | rfl | exact h2, h3⟩
   ·rintro (h | ⟨j, v, h1, h2, h3⟩)
    ·exact Or.inr (Or.inl h)
    ·by_cases hj : j = i
     ·subst hj; rw [hu] at h1; injection h1 with h1; subst h1; exact Or.inl h3
     ·exact Or.inr (Or.inr ⟨j, v, h1, by unfold am3 at h2; rwa [if_neg hj] at h2, h3⟩)
  ·rw [aiJ]
   rcases hx with ⟨j, p, v', h1, h2, h3, h4, h5, h6⟩ | ⟨h1, h2⟩
   ·by_cases hj : j = i
    ·subst hj
     rw [ho] at h1; injection h1 with h1; subst h1
     rw [hu] at h2; injection h2 with h2; subst h2
     rw [if_pos ⟨h3, by rw [hsz]; exact h4⟩, h6]
     exact hv
    ·rw [if_neg]
     ·exact he.vr (hsl t x (Or.inl ⟨j, p, v', h1, h2, h3, h4, by unfold am3 at h5; rwa [if_neg hj] at h5, h6⟩))
     ·rintro ⟨hd, _⟩
      have := as9 (hdst t hd) h1 h3
      omega
   ·rw [if_neg]
    ·exact he.vr (hsl t x (Or.inr ⟨fun j p hp hd hlt => by
      have := h1 j p hp hd hlt
      unfold am3 at this
      split at this
      ·cases this
      ·exact this, h2⟩))
    ·rintro ⟨hd, hlt⟩
     have := h1 i o ho hd (by rw [← hsz]; exact hlt)
     simp [am3] at this
 have hoi : ops[i]? = some o := by
  have := hpre i o ho
  rw [← hops, zU] at this
  exact this
 unfold wpOpIn
 rw [hoi]
 simp only
 have hyield : ∀ (j t : Nat) (b : Bool), abB ops j = some t → fi t = .d .bool b → t ∈ ajB ops o → yielded ops a.tmps j = some b := by
  intro j t b ht hf hr
  have := hread t hr
  rw [hf] at this
  have e := adX this
  rw [zo] at e
  unfold yielded
  unfold abB at ht
  rw [ht]
  cases hg : a.tmps[t]? with
  | none => rw [hg] at e; cases e
  | some v => rw [hg] at e; simp at e; subst e; simp [hg]
 cases u with
 | skip =>
  obtain ⟨j, want, t, hg, ht, hor⟩ := hst
  have hr := alM hg ht
  rw [if_neg]
  ·exact ⟨fun _ _ => trivial, hnx _ _ (done undef ρ w hm (Ext.refl _ _ _ _) .und (hski.keep (new := []) (Ext.refl _ _ _ _) (fun _ _ => rfl) (fun _ _ _ _ => hu) (fun _ _ _ _ _ _ h => by cases h)))⟩
  ·rcases hor with hf | hf
   ·rw [show Region.wanted o (yielded ops a.tmps) = false by simp [Region.wanted, hg, hyield j t _ ht hf hr]]
    simp
   ·have := hread t hr
    rw [hf] at this
    have e : a.tmps.getD t undef = undef := by generalize a.tmps.getD t undef = v at this; cases this; rfl
    rw [zo] at e
    have hy : yielded ops a.tmps j = none := by
     unfold yielded
     unfold abB at ht
     rw [ht]
     simp only [wi]
     cases hg : a.tmps[t]? with
     | none => rfl
     | some v => rw [hg] at e; simp at e; rw [e]; rfl
    rw [show Region.wanted o (yielded ops a.tmps) = false by simp [Region.wanted, hg, hy]]
    simp
 | st k b =>
  obtain ⟨hw, hsg, t, pa, px, hop, hl⟩ := hst
  rw [if_pos]
  ·have hval : ∀ x ∈ o.op.operands, VR C ρ Hd w (axW fi x) (a.eval x) := by
    intro x hx
    cases x with
    | tmp t => exact hread t (aoT (aj9 (by simpa using hx)))
    | const v => exact afB v
    | func f => exact .fn .nil .nil
    | global g => exact .no
   have hva := hval pa (by rw [hop]; simp [Op.operands])
   have hvx := hval px (by rw [hop]; simp [Op.operands])
   have hmem := ay4 hsg
   obtain ⟨_, e0, cells0, hf0, hcond⟩ := hski _ _ hmem
   have hidx : base + i - base = i := zb
   rw [hidx] at hcond
   unfold stB at hl
   split at hl
   ·rename_i k' off hpa
    split at hl
    ·rename_i hbq
     have hbq := aaD hbq
     subst hbq
     split at hl
     ·rename_i e cells cs n hf hcs hsz'
      rw [hf0] at hf
      injection hf with hf
      injection hf with hf1 hf2
      subst hf1; subst hf2
      split at hl
      ·rename_i hc
       cases hl
       simp only [zl] at hc
       rw [hpa] at hva
       generalize hvp : a.eval pa = vp at hva
       cases hva with
       | ptr hkk =>
        obtain ⟨hany, hor⟩ := hcond hkk
        have hold : BkR C ρ Hd w (ρ k') (.vars e0 cells0) := by
         rcases hor with ⟨b', _, g, _⟩ | ⟨_, g⟩
         ·rw [hls] at g; cases g
         ·exact g
        obtain ⟨w', hrun, hm', hext', hnew, hoth⟩ := aGj (P := P) hm hany hold hcs hsz' (aaD hc.1) (Nat.le_of_ble_eq_true hc.2) hvx
        refine aaS (fun c e => by rw [hop] at e; cases e) ?_
        unfold Oper.wp
        rw [show (execOp a.eval o).run P w = .ok .skip w' by simp [execOp, hop, hvp, hrun]]
        refine hnx _ _ (done undef ρ w' hm' hext' .und ?_)
        intro K' k2 hk2
        obtain ⟨g0, e1, cells1, g1, g23⟩ := hski K' k2 hk2
        refine ⟨g0, e1, cells1, g1, fun hin => ?_⟩
        obtain ⟨g2, g3⟩ := g23 hin
        refine ⟨g2, ?_⟩
        by_cases hKi : K' - base = i
        ·have hKe : K' = base + i := zb
         subst hKe
         have := hsk.get _ _ hk2
         rw [hsg] at this
         injection this with this
         subst this
         rw [hidx]
         exact Or.inl ⟨_, hu, by simp [am3], hnew⟩
        ·have hne : k2 ≠ k' := by
          intro e
          subst e
          exact hKi (by rw [aPe hsk.nodup hk2 hmem]; exact hidx)
         have hheap : w'.heap[ρ k2]? = w.heap[ρ k2]? := hoth _ (fun e => hne (hm.inj _ (aaE g2) _ hkk e))
         rcases g3 with ⟨b, c1, c2, c3⟩ | ⟨c1, c2⟩
         ·exact Or.inl ⟨b, c1, by unfold am3; rw [if_neg hKi]; exact c2, c3.ext hext' hheap⟩
         ·exact Or.inr ⟨by unfold am3; rw [if_neg hKi]; exact c1, c2.ext hext' hheap⟩
      ·cases hl
     ·cases hl
    ·cases hl
   ·cases hl
  ·rcases hw with hg | ⟨j, want, t, hg, ht, hf⟩
   ·simp [Region.wanted, hg]
   ·simp [Region.wanted, hg, hyield j t _ ht hf (alM hg ht)]
 | ran r new =>
  obtain ⟨hw, hl⟩ := hst
  have hnst : ∀ K k, (K, k) ∈ sk → K - base = i → us[i]? = some .skip := by
   intro K k hk hKi
   exfalso
   obtain ⟨o', t', a', x', g1, g2⟩ := hsk.op K k hk
   rw [hKi, ho] at g1
   injection g1 with g1
   subst g1
   rcases hl with ⟨_, hl⟩ | ⟨e, zs, ho', _⟩
   ·exact aIQ g2 hl
   ·rw [ho'] at g2; cases g2
  rw [if_pos]
  ·rcases hl with ⟨hskf, hl⟩ | ⟨e, zs, hoe, hz, rfl, rfl⟩
   ·classical
    generalize hH0 : aCy pre base sk Hs σ0.H (base + i) Ni = H0 at hl
    rw [aLz, yS, ho] at hH0
    have hlate : ∀ k b, (k, b) ∈ olds Hs (adK pre base i sk) → k ∈ Hd.keys → (k, Bk.any) ∈ Hd ∧ (∃ e cells, b = .vars e cells) ∧ BkR C ρ Hd w (ρ k) b := by
     intro k b hb hkk
     obtain ⟨⟨K, hK⟩, hf⟩ := olds_mem.1 hb
     obtain ⟨hKs, o2, c1, c2⟩ := afW hK
     obtain ⟨_, e, cells, hf', g⟩ := hski K k hKs
     rw [hf] at hf'
     injection hf' with hf'
     obtain ⟨g1, g2⟩ := g hkk
     refine ⟨g1, ⟨e, cells, hf'⟩, ?_⟩
     obtain ⟨ed, d1, d2, d3⟩ := adW c2
     rcases g2 with ⟨b', _, g4, _⟩ | ⟨_, g3⟩
     ·have := hcl _ _ (hpre _ _ c1) g4 ed d1 d2
      rw [d3, hls] at this
      cases this
     ·rw [hf']; exact g3
    have hkeq : ∀ k, k ∈ Hd.keys ↔ k ∈ (aaR Hd (olds Hs (adK pre base i sk))).keys := fun k => by rw [aaK]
    obtain ⟨hm1, hx1⟩ := hm.reveal (H' := aaR Hd (olds Hs (adK pre base i sk))) hkeq (fun k e t l hk => abW hk (fun b' hb' => by
      have := Heap.mem_unique hm.nodup hk (hlate k b' hb' (aaE hk)).1
      cases this)) (by rw [aaK]; exact hm.nodup) (fun k b hb => by
      rcases ac7 hm.nodup hb with h | ⟨_, h⟩
      ·exact (hlate k b h ((hkeq k).2 (aaE hb))).2.2
      ·exact hm.mem k b h)
    have hsub : ∀ x ∈ H0, x ∈ aaR Hd (olds Hs (adK pre base i sk)) := by
     rintro ⟨k, b⟩ hx
     rw [← hH0] at hx
     rcases zE.1 hx with hx | hx
     ·obtain ⟨p1, p2, p3, p4⟩ := anT hx
      have p5 : (k, b) ∈ Hd := by
       rcases hNi _ p1 with h | ⟨j, v, h1, h2⟩
       ·exact (hH _).2 (Or.inl h)
       ·refine (hH _).2 (Or.inr ⟨j, v, h1, ?_, h2⟩)
        have hkj : k = base + j := hnewk j v h1 _ h2
        obtain ⟨ed, d1, d2, d3⟩ := adW p3
        have := hedge ed d1 d2
        rw [d3] at this
        rw [show k - base = j by omega] at this
        exact this
      refine abW p5 (fun b' hb' => ?_)
      obtain ⟨⟨K, hK⟩, _⟩ := olds_mem.1 hb'
      have p4 : ajA sk k = false := p4
      rw [skHas_iff.2 ⟨K, (afW hK).1⟩] at p4
      cases p4
     have hkk : k ∈ σ0.H.keys := by have := aaE hx; rwa [aaK] at this
     have hkd : k ∈ Hd.keys := by
      obtain ⟨y, hy, e⟩ := zH.1 hkk
      exact zH.2 ⟨y, (hH y).2 (Or.inl hy), e⟩
     by_cases hin : ∃ b', (k, b') ∈ olds Hs (adK pre base i sk)
     ·obtain ⟨b', hb'⟩ := hin
      have hu : ∀ b'', (k, b'') ∈ olds Hs (adK pre base i sk) → b'' = b' := fun b'' hb'' => by
       have h1 := (olds_mem.1 hb').2
       rw [(olds_mem.1 hb'').2] at h1
       injection h1
      have h1 : (k, b') ∈ aaR σ0.H (olds Hs (adK pre base i sk)) := agJ hkk hb' hu
      have hnd0 : (aaR σ0.H (olds Hs (adK pre base i sk))).keys.Nodup := by rw [aaK]; exact hnd0
      rw [Heap.mem_unique hnd0 hx h1]
      exact agJ hkd hb' hu
     ·have hno : ∀ b', (k, b') ∉ olds Hs (adK pre base i sk) := fun b' hb' => hin ⟨b', hb'⟩
      rcases ac7 hnd0 hx with h | ⟨_, h⟩
      ·exact absurd h (hno _)
      ·exact abW ((hH _).2 (Or.inl h)) hno
    have hcong : evM P Γ (base + i) H0 (axW fi) o = evM P Γ (base + i) H0 (fun x => if x ∈ o.op.operands then axW fi x else .no) o := aIT (fun x hx => by rw [if_pos hx])
    rw [hcong] at hl
    refine aaS (aIR hl) ?_
    refine aNv (H := aaR Hd (olds Hs (adK pre base i sk))) hsub hm1 (fun h => hKn ((hkeq _).2 h)) zb hΓ (hG _ _ hm.below hC) (fun x => ?_) hl (fun v ρ' w' hm' he hv hbl => ?_)
    ·refine hx1.vr ?_
     show VR C ρ Hd w (if x ∈ o.op.operands then axW fi x else .no) (a.eval x)
     split
     ·rename_i hx
      cases x with
      | tmp t => exact hread t (aoT (aj9 (by simpa using hx)))
      | const v => exact afB v
      | func f => exact .fn .nil .nil
      | global g => exact .no
     ·exact .no
    ·have hmk : ∀ k, k ∈ Heap.keys (new ++ aaR Hd (olds Hs (adK pre base i sk))) ↔ k ∈ Heap.keys (new ++ Hd) := fun k => by
      have := hkeq k
      simp only [Heap.keys, xB, zE] at this ⊢
      rw [this]
     have hndn : Heap.keys (new ++ Hd) = Heap.keys (new ++ aaR Hd (olds Hs (adK pre base i sk))) := by
      have := aaK Hd (olds Hs (adK pre base i sk))
      simp only [Heap.keys, xB] at this ⊢
      rw [this]
     obtain ⟨hm2, hx2⟩ := hm'.reveal (H' := new ++ Hd) hmk (fun k e t l hk => by
       rcases zE.1 hk with h | h
       ·exact zE.2 (Or.inl h)
       ·rcases ac7 hm.nodup h with h1 | ⟨_, h1⟩
        ·obtain ⟨_, ⟨e', cells, hb⟩, _⟩ := hlate k _ h1 ((hkeq k).2 (aaE h)); cases hb
        ·exact zE.2 (Or.inr h1)) (by rw [hndn]; exact hm'.nodup) (fun k b hb => by
       rcases zE.1 hb with h | h
       ·exact hm'.mem k b (zE.2 (Or.inl h))
       ·by_cases hin : ∃ b', (k, b') ∈ olds Hs (adK pre base i sk)
        ·obtain ⟨b', hb'⟩ := hin
         obtain ⟨g1, ⟨e', cells, rfl⟩, _⟩ := hlate k _ hb' (aaE h)
         rw [Heap.mem_unique hm.nodup h g1]
         exact (hm'.mem k _ (zE.2 (Or.inr (agJ (aaE h) hb' (fun b'' hb'' => by
          have h1 := (olds_mem.1 hb').2
          rw [(olds_mem.1 hb'').2] at h1
          injection h1))))).block
        ·exact hm'.mem k b (zE.2 (Or.inr (abW h (fun b' hb' => hin ⟨b', hb'⟩)))))
     have he2 : Ext C ρ Hd w ρ' (new ++ Hd) w' := hx1.trans (he.trans hx2)
     exact hnx _ _ (done v ρ' w' hm2 he2 (hx2.vr hv) (hski.keep he2 (fun k hk => hbl.block _ (hm.key_lt hk)) hnst (fun K k e cells hk _ hkn => by
      exfalso
      obtain ⟨x, hx, e⟩ := zH.1 hkn
      have := amV hl x hx
      rw [e] at this
      rw [skHas_iff.2 ⟨K, this ▸ hk⟩] at hskf
      cases hskf)))
   ·refine aaS (fun c e0 => by rw [hoe] at e0; cases e0) ?_
    obtain ⟨z, hz1, hz2, hz3⟩ := acN (C := C) (ρ := ρ) (H := Hd) (w := w) (P := P) hz
    obtain ⟨hm', hext'⟩ := hm.alloc (K := base + i) (c := z.cells) (e := e) (blk := .any) hKn zb (fun ρ' H' w' _ hw' => ⟨_, hw'⟩)
    unfold Oper.wp
    rw [show (execOp a.eval o).run P w = .ok (.value (.pointer (some ⟨w.heap.size, 0, none⟩))) (w.alloc (.cells z.cells e)) by
     simp [execOp, hoe, Instr.alloc, hz1, newVar]; rfl]
    refine hnx _ _ (done _ _ _ hm' hext' ?_ (hski.keep hext' (fun k hk => Below.heap_alloc _ _ _ (hm.key_lt hk)) hnst (fun K k e' cells hk hfk hkn => ?_)))
    ·have : VR C (upd ρ (base + i) w.heap.size) ((base + i, .any) :: Hd) (w.alloc (.cells z.cells e)) (.ptr (base + i) 0) (.pointer (some ⟨upd ρ (base + i) w.heap.size (base + i), 0, none⟩)) := .ptr zG
     rw [aaZ] at this
     exact this
    ·have hke : k = base + i := by simpa [Heap.keys, Out.new] using hkn
     subst hke
     obtain ⟨g0, _⟩ := hski K _ hk
     obtain ⟨o', t', a', x', g1, g2⟩ := hsk.op K _ hk
     refine ⟨ye.2 rfl, ?_, ?_⟩
     ·obtain ⟨o2, c1, c2⟩ := hsk.laid K _ hk (yB _ _)
      obtain ⟨ed, d1, d2, d3⟩ := adW c2
      cases hb : ls (K - base) with
      | false => rfl
      | true =>
       have := hcl _ _ (hpre _ _ c1) hb ed d1 d2
       rw [d3, yS, hls] at this
       cases this
     ·rw [aaZ]
      have hfi := hinit i o e zs ho hoe hz
      rw [hfi] at hfk
      injection hfk with hfk
      injection hfk with hf1 hf2
      subst hf1; subst hf2
      exact ⟨z.cells, by show (w.heap.push _)[w.heap.size]? = _; simp, hz2.imp (fun _ _ => hext'.vr), hz3⟩
  ·rcases hw with hg | ⟨j, want, t, hg, ht, hf⟩
   ·simp [Region.wanted, hg]
   ·simp [Region.wanted, hg, hyield j t _ ht hf (alM hg ht)]
theorem apY (hG : acS G) (hC : G C.w0) (hΓ : Γ.ok P G) {call : abN} (hcall : CallSat P G call) {Q : Exit → Act → World → Prop} {K : Fi → Prop} {l : List Oper} {m : Nat} (hops : ops.toList = l)
  (hed : acP l 0 = true) (htail : ag4 m (abI l []) 0 = true) : ∀ (rest : List Oper) (j fuel : Nat) (listed : Array Bool) {ρ : Nat → Nat} {σ : St} {a : Act} {w : World}, l.drop j = rest → m ≤ j → rest.length ≤ fuel → listed.size = ops.size →
   (∀ i, i < ops.size → listed.getD i false = decide (i < j)) → SRel C ρ σ a w → aa3 P Γ call ops rest σ K → (∀ a' w', Reach C σ ρ w (fun σ' => K (.go σ')) a' w' → Q .normal a' w') → (∀ ch a' w', Reach C σ ρ w (fun σ' => K (.pan ch σ')) a' w' → Q (.panic ch) a' w') → ∀ rnd : Option Nat, wpAnyIn (aaW rnd) 0 P .any ops Q fuel listed a w
 | rest, j, fuel, listed, ρ, σ, a, w, hd, hm, hf, hsz, hlist, hs, h, hQ, hP, rnd => by
  have hlen : l.length = ops.size := by rw [← hops]; simp
  have hlt : ∀ i, i < ops.size → listed.getD i true = decide (i < j) := by
   intro i hi
   have := hlist i hi
   rw [zo] at this ⊢
   rw [zW zb] at this ⊢
   simpa using this
  have hcl : awG l (fun i => listed.getD i false) := by
   intro i o ho hi e he hb
   have hio : i < ops.size := by rw [← hlen]; exact (zw.1 ho).1
   have hi' : listed.getD i false = true := hi
   rw [hlist i hio] at hi'
   have hlt' := abL hed ho e he hb
   rw [zp] at hlt'
   show listed.getD e.on false = true
   rw [hlist _ zb]
   simp at hi' ⊢
   omega
  have hready : ∀ i ∈ Region.ready .any ops listed, i = j ∧ i < ops.size := by
   intro i hi
   unfold Region.ready at hi
   rw [xC] at hi
   obtain ⟨h1, h2⟩ := hi
   have hi' : i < ops.size := by simpa using h1
   simp only [zl, zK] at h2
   rw [hlt i hi'] at h2
   simp at h2
   obtain ⟨h3, h4⟩ := h2
   refine ⟨?_, hi'⟩
   rcases zD j i with hji | hji
   ·exfalso
    rw [zW hi'] at h4
    simp only [xz, xm, yD] at h4
    have ho : l[i]? = some ops[i] := by rw [← hops]; simp [hi']
    obtain ⟨x, hx⟩ : ∃ x, (abI l [])[i]? = some x := ⟨_, zx (by rw [(adU l []).2]; simp; omega)⟩
    have hxe := agV htail hx zb
    rw [zp] at hxe
    have := aiS hcl hed i _ ho (fun e he hb => by
     have := h4 e he
     unfold acA at hb
     rw [hb] at this
     simpa using this) x j hx (by rw [hxe, xZ]; simpa using hji)
    have hjo : j < ops.size := zb
    have this' : listed.getD j false = true := this
    rw [hlist j hjo] at this'
    simp at this'
   ·omega
  cases rest with
  | nil =>
   have hj : ops.size ≤ j := by
    rw [← hlen]
    exact wN.1 hd
   have hnil : Region.ready .any ops listed = [] := by
    apply xQ.2
    intro i hi
    have := hready i hi
    omega
   have hend := hQ a w ⟨ρ, σ, h, hs, Fr.refl _ _ _ _ _, zj _⟩
   cases fuel with
   | zero => exact ⟨hnil, hend⟩
   | succ fuel => exact ⟨fun _ => hend, fun i hi => by rw [hnil] at hi; cases hi⟩
  | cons o rest =>
   obtain ⟨fuel, rfl⟩ : ∃ f, fuel = f + 1 := ⟨fuel - 1, by simp at hf; omega⟩
   have hjl : j < l.length := by
    rcases zD j l.length with h | h
    ·exact h
    ·rw [wN.2 h] at hd; cases hd
   have hlj : l[j]? = some o := by
    have := congrArg (fun x => x[0]?) hd
    simpa using this
   have hoj : ops[j]? = some o := by rw [← hops, zU] at hlj; exact hlj
   have hdr : l.drop (j + 1) = rest := by
    rw [yv hjl] at hd
    injection hd
   refine ⟨fun hnil => ?_, fun i hi => ?_⟩
   ·exfalso
    have hjin : j ∈ Region.ready .any ops listed := by
     unfold Region.ready
     rw [xC]
     refine ⟨by simp; omega, ?_⟩
     rw [hlt j zb, hoj]
     simp only [xz, xm, zl]
     refine ⟨by simp, ?_⟩
     rw [yD]
     intro e he
     cases hb : Region.binds .any e with
     | false => rfl
     | true =>
      have := abL hed hlj e he hb
      rw [zp] at this
      simp [hlist e.on zb, this]
    rw [hnil] at hjin
    cases hjin
   ·obtain ⟨rfl, _⟩ := hready i hi
    unfold wpOpIn
    rw [hoj]
    simp only
    refine ajU hG hC hΓ hcall hs h ?_ hP rnd
    rintro a' w' ⟨ρ', σ', h2, h3, h4, h5⟩
    refine apY hG hC hΓ hcall hops hed htail rest (i + 1) _ _ hdr zb (by simp at hf; omega) (by simp [hsz]) (fun k hk => ?_) h3 h2 (fun a'' w'' hr => hQ a'' w'' (hr.trans h4 h5)) (fun ch a'' w'' hr => hP ch a'' w'' (hr.trans h4 h5)) rnd
    rw [zo]
    by_cases hki : k = i
    ·subst hki
     rw [yY zb]
     simp
    ·rw [yH (Ne.symm hki), ← zo, hlist k hk]
     congr 1
     apply propext
     omega
 termination_by rest => rest.length
theorem aOG {K : Nat} {H : Heap} {arg : Operand → AV} {o : Oper} {r : AV} {new : List (Nat × Bk)} (h : (evM P Γ K H arg o).Leaf (r, new)) : new.length ≤ 1 := by
 unfold evM at h
 split at h
 ·obtain ⟨_, _, h⟩ := T.Leaf.bind h; cases h; exact ya _
 ·split at h <;> cases h; exact zj _
 ·split at h <;> cases h; exact zj _
 ·split at h <;> first | (cases h; done) | skip
  split at h <;> first | (cases h; done) | skip
  split at h <;> first | (cases h; done) | skip
  split at h <;> first | (cases h; done) | skip
  split at h <;> first | (cases h; done) | skip
  split at h
  ·cases h; exact ya _
  cases h; exact zj _
 ·split at h
  ·unfold al8 at h
   split at h <;> first | (cases h; done) | skip
   split at h <;> first | (cases h; done) | skip
   cases h; exact ya _
  ·obtain ⟨_, _, h⟩ := T.Leaf.bind h; cases h; exact ya _
 ·split at h <;> first | (cases h; done) | skip
  split at h <;> cases h
  exact zj _
 ·split at h <;> first | (cases h; done) | skip
  split at h <;> first | (cases h; done) | skip
  unfold aIe at h
  split at h <;> first | (cases h; done) | skip
  split at h <;> first | (cases h; done) | skip
  ·unfold aId at h
   split at h <;> first | (cases h; done) | skip
   split at h <;> first | (cases h; done) | skip
   cases h with
   | need _ h =>
    cases h; exact zj _
  split at h <;> first | (cases h; done) | skip
  split at h <;> first | (cases h; done) | skip
  cases h with
  | need _ h => cases h; exact zj _
 ·split at h <;> first | (cases h; done) | skip
  split at h <;> first | (cases h; done) | skip
  split at h <;> first | (cases h; done) | skip
  split at h <;> first | (cases h; done) | skip
  cases h with
  | need _ h => rw [show new = [] from avZ h]; exact ya _
 ·unfold ayK at h
  split at h <;> first | (cases h; done) | skip
  split at h <;> first | (cases h; done) | skip
  split at h <;> first | (cases h; done) | skip
  split at h <;> first | (cases h; done) | skip
  split at h <;> first | (cases h; done) | skip
  split at h <;> first | (cases h; done) | skip
  split at h <;> first | (cases h; done) | skip
  unfold ajZ at h
  cases h with
  | need _ h => cases h; exact ya _
 ·obtain ⟨_, _, h⟩ := T.Leaf.bind h; cases h; exact ya _
theorem MRel.perm {ρ : Nat → Nat} {H H' : Heap} {next : Nat} {w : World} (hm : MRel C ρ H next w) (h : ∀ x, x ∈ H ↔ x ∈ H') (hn : H'.keys.Nodup) : MRel C ρ H' next w ∧ Ext C ρ H w ρ H' w := by
 have hk : ∀ k, k ∈ H.keys ↔ k ∈ H'.keys := by
  intro k
  simp only [Heap.keys, zH, h]
 have hext : Ext C ρ H w ρ H' w := ⟨fun b ⟨h1, h2, h3⟩ => ⟨⟨h1, h2, fun k hk' => h3 k ((hk k).2 hk')⟩, rfl⟩, fun k hk' => ⟨(hk k).1 hk', rfl⟩, fun k e t l hm => ⟨l, (h _).1 hm, zj _, fun c fr hc => ⟨c, fr, hc, rfl⟩⟩, zj _⟩
 exact ⟨⟨hm.below, hn, fun k hk' => hm.lt k ((hk k).2 hk'), fun k hk1 k' hk2 => hm.inj k ((hk k).2 hk1) k' ((hk k').2 hk2), fun k hk' => hm.low k ((hk k).2 hk'), fun k b hb => (hm.mem k b ((h _).2 hb)).ext hext rfl⟩, hext⟩
theorem au1 {sk : List (Nat × Nat)} {Hs : Heap} : ∀ (l : List Oper) (K : Nat) (H0 : Nat → Heap → Heap) (σ : St) (s : List (Nat × Bk)) (z : St × List (Nat × Bk)), (ayU P Γ ops sk Hs H0 l K σ s).Leaf z → σ.H.keys.Nodup → (∀ k ∈ σ.H.keys, k < K) → z.1.H.keys.Nodup
 | [], K, H0, σ, s, z, h, hn, _ => by cases h; exact hn
 | o :: rest, K, H0, σ, s, z, h, hn, hk => by
  have key : ∀ (σ1 : St) (u : Out) (s' : List (Nat × Bk)), σ1.H = σ.H → (∀ x ∈ u.new, x.1 = K) → u.new.length ≤ 1 → (ayU P Γ ops sk Hs H0 rest (K + 1) (σ1.step o u) s').Leaf z → z.1.H.keys.Nodup := by
   intro σ1 u s' e1 hu hl hlf
   have hH : (σ1.step o u).H = u.new ++ σ.H := by unfold St.step; rw [St.put_H]; simp only [e1]
   refine au1 rest (K + 1) H0 _ _ z hlf ?_ ?_
   ·rw [hH]
    match hun : u.new, hl with
    | [], _ => exact hn
    | [x], _ =>
     refine yA.2 ⟨fun hm => ?_, hn⟩
     have h1 : x.1 < K := hk _ hm
     have := hu x (by rw [hun]; simp)
     omega
   ·rw [hH]
    intro k hkm
    obtain ⟨x, hx, e⟩ := zH.1 hkm
    subst e
    rcases zE.1 hx with hx | hx
    ·have := hu x hx; omega
    ·have := hk x.1 (zH.2 ⟨x, hx, rfl⟩); omega
  have run : ∀ (σ1 : St) (u : Out) (s' : List (Nat × Bk)), σ1.H = σ.H → (evS P Γ sk Hs K (H0 K σ.H) σ1.eval o).Leaf u → (ayU P Γ ops sk Hs H0 rest (K + 1) (σ1.step o u) s').Leaf z → z.1.H.keys.Nodup := by
   intro σ1 u s' e h1 h2
   unfold evS at h1
   split at h1
   ·split at h1
    ·obtain ⟨b, _, h4⟩ := T.Leaf.bind h1
     cases h4
     exact key σ1 _ s' e (by intro x hx; cases hx) (ya _) h2
    ·cases h1
   ·split at h1
    ·obtain ⟨y, h3, h4⟩ := T.Leaf.bind h1
     cases h4
     exact key σ1 (.ran y.1 y.2) s' e (amV h3) (aOG h3) h2
    ·split at h1
     ·split at h1
      ·cases h1
       exact key σ1 _ s' e (by intro x hx; simp only [Out.new, ye] at hx; subst hx; rfl) (zj _) h2
      ·cases h1
     ·cases h1
  have skp : ∀ (σ1 : St) (s' : List (Nat × Bk)), σ1.H = σ.H → (ayU P Γ ops sk Hs H0 rest (K + 1) (σ1.step o .skip) s').Leaf z → z.1.H.keys.Nodup :=
   fun σ1 s' e h2 => key σ1 .skip s' e (by intro x hx; cases hx) (ya _) h2
  simp only [ayU] at h
  split at h
  ·obtain ⟨y, h1, h2⟩ := T.Leaf.bind h
   exact run σ y _ rfl h1 h2
  ·rename_i j want hg
   split at h
   ·rename_i t ht
    split at h
    ·cases h with
     | t h =>
      cases want with
      | true => obtain ⟨y, h1, h2⟩ := T.Leaf.bind h; exact run _ y _ (St.put_H _ _ _) h1 h2
      | false => exact skp _ _ (St.put_H _ _ _) h
     | f h =>
      cases want with
      | true => exact skp _ _ (St.put_H _ _ _) h
      | false => obtain ⟨y, h1, h2⟩ := T.Leaf.bind h; exact run _ y _ (St.put_H _ _ _) h1 h2
    ·exact skp _ _ rfl h
    ·cases h
   ·cases h
theorem ao1 {l : List Nat} (h : amN l = true) : l.Nodup := by
 induction l with
 | nil => exact xU
 | cons k r ih =>
  simp only [amN, zl, zK] at h
  exact yA.2 ⟨by have := h.1; simpa using this, ih h.2⟩
theorem veil_mem {sk : List (Nat × Nat)} {H : Heap} {k : Nat} {b : Bk} : (k, b) ∈ veil sk H ↔ ∃ b', (k, b') ∈ H ∧ b = (match ajA sk k with | true => b'.veil | false => b') := by
 induction H with
 | nil => simp [veil]
 | cons x r ih =>
  obtain ⟨j, y⟩ := x
  simp only [veil, zq, ih]
  constructor
  ·rintro (e | ⟨b', h1, h2⟩)
   ·injection e with e1 e2; subst e1; exact ⟨y, Or.inl rfl, e2⟩
   ·exact ⟨b', Or.inr h1, h2⟩
  ·rintro ⟨b', h1 | h1, h2⟩
   ·injection h1 with e1 e2; subst e1; subst e2; exact Or.inl (by rw [h2] <;> cases ajA sk k <;> rfl)
   ·exact Or.inr ⟨b', h1, h2⟩
theorem aeS (sk : List (Nat × Nat)) (H : Heap) : (veil sk H).keys = H.keys := by
 induction H with
 | nil => rfl
 | cons x r ih => obtain ⟨j, y⟩ := x; simp only [veil, Heap.keys, List.map_cons] at ih ⊢; rw [ih]
theorem aJ3 (H : Heap) : veil [] H = H := by
 induction H with
 | nil => rfl
 | cons x r ih => obtain ⟨j, y⟩ := x; simp only [veil, ajA, ih]
theorem aJ4 (sk : List (Nat × Nat)) (H : Heap) : aBD sk H = veil sk H := by
 cases sk with
 | nil => exact (aJ3 H).symm
 | cons x r => rfl
theorem ay3 {σ : St} {pre : List Oper} {base : Nat} {Hx : Heap} : ∀ {l : List Oper} {K : Nat} {sk : List (Nat × Nat)}, aNQ σ pre base Hx l K = some sk → (∀ K' k, (K', k) ∈ sk → K ≤ K' ∧ ∃ o t a x, l[K' - K]? = some o ∧ o.op = .store t a x ∧ ∃ e cells, Hx.find k = some (.vars e cells)) ∧ (∀ K' k, (K', k) ∈ sk → at1 sk K' = some k)
 | [], K, sk, h => by
  injection h with h
  subst h
  exact ⟨(by intro _ _ h; cases h), (by intro _ _ h; cases h)⟩
 | o :: r, K, sk, h => by
  simp only [aNQ] at h
  split at h
  ·rename_i l hl
   obtain ⟨h1, h2⟩ := ay3 hl
   have shift : ∀ K' k, (K', k) ∈ l → K ≤ K' ∧ ∃ o' t a x, (o :: r)[K' - K]? = some o' ∧ o'.op = .store t a x ∧ ∃ e cells, Hx.find k = some (.vars e cells) := by
    intro K' k hm
    obtain ⟨g0, o', t, a, x, g1, g2⟩ := h1 K' k hm
    refine ⟨by omega, o', t, a, x, ?_, g2⟩
    rw [show K' - K = (K' - (K + 1)) + 1 by omega]
    simpa using g1
   split at h
   ·rename_i t a x ho
    split at h
    ·rename_i k hk
     split at h
     ·rename_i e cells hfk
      injection h with h
      subst h
      refine ⟨fun K' k' hm => ?_, fun K' k' hm => ?_⟩
      ·rcases zq.1 hm with e | hm
       ·injection e with e1 e2; subst e1; subst e2
        exact ⟨zj _, o, t, a, x, by simp, ho, _, _, hfk⟩
       ·exact shift K' k' hm
      ·rcases zq.1 hm with e | hm
       ·injection e with e1 e2; subst e1; subst e2
        simp [at1]
       ·have := (h1 K' k' hm).1
        simp only [at1, arX (show K ≠ K' by omega)]
        exact h2 K' k' hm
     ·cases h
    ·cases h
   ·injection h with h
    subst h
    exact ⟨shift, h2⟩
  ·cases h
theorem aiT : ∀ {l : List Oper} {K k : Nat}, k ∈ (acI P l K).keys → K ≤ k
 | [], _, _, h => by cases h
 | o :: r, K, k, h => by
  simp only [acI] at h
  split at h
  ·split at h
   ·rcases zq.1 h with e | h
    ·rw [e]; exact zj _
    ·have := aiT h; omega
   ·have := aiT h; omega
  ·have := aiT h; omega
theorem an8 {H H' : Heap} {k : Nat} (h : k ∉ H.keys) : Heap.find (H ++ H') k = H'.find k := by
 induction H with
 | nil => rfl
 | cons x r ih =>
  obtain ⟨j, b⟩ := x
  simp only [Heap.keys, List.map_cons, zq, not_or] at h
  simp only [xM, Heap.find, arX (Ne.symm h.1)]
  exact ih h.2
theorem atL {H : Heap} {e : TypeId} {zs : List AV} {o : Oper} : ∀ {l : List Oper} {K i : Nat}, l[i]? = some o → o.op = .alloc e → ab2 P e = some zs → Heap.find (acI P l K ++ H) (K + i) = some (.vars e zs)
 | [], _, _, h, _, _ => by cases h
 | p :: r, K, 0, h, ho, hz => by
  injection h with h
  subst h
  simp [acI, ho, hz, Heap.find]
 | p :: r, K, i + 1, h, ho, hz => by
  have ih := atL (H := H) (K := K + 1) (i := i) (l := r) (by simpa using h) ho hz
  rw [show K + (i + 1) = K + 1 + i by omega]
  simp only [acI]
  split
  ·split
   ·simp only [xM, Heap.find, arX (show K ≠ K + 1 + i by omega)]
    exact ih
   ·exact ih
  ·exact ih
end
open Go Go.RowKit
def ayY (ls : Nat → Bool) : Nat → Nat
 | 0 => 0
 | k + 1 => ayY ls k + (if ls k then 1 else 0)
theorem aJk (ls : Nat → Bool) : ∀ n, ayY ls n ≤ n
 | 0 => zj _
 | n + 1 => by have := aJk ls n; simp only [ayY]; split <;> omega
theorem ax9 {ls : Nat → Bool} {i : Nat} (hi : ls i = false) : ∀ {n}, i < n → ayY ls n < n
 | 0, h => by omega
 | n + 1, h => by
  simp only [ayY]
  by_cases hn : i = n
  ·subst hn
   have := aJk ls i
   rw [hi]; simp; omega
  ·have := ax9 hi (n := n) zb
   split <;> omega
theorem as5 {ls : Nat → Bool} {i : Nat} : ∀ {n}, n ≤ i → ayY (am3 ls i) n = ayY ls n
 | 0, _ => rfl
 | n + 1, h => by
  simp only [ayY]
  rw [as5 (n := n) zb]
  simp [am3, show ¬ n = i by omega]
theorem aqB {ls : Nat → Bool} {i : Nat} (hi : ls i = false) : ∀ {n}, i < n → ayY (am3 ls i) n = ayY ls n + 1
 | 0, h => by omega
 | n + 1, h => by
  simp only [ayY]
  by_cases hn : i = n
  ·subst hn
   rw [as5 (zj _), hi]
   simp [am3]
  ·rw [aqB hi (n := n) zb]
   simp [am3, show ¬ n = i by omega]
   omega
theorem aeI {ls : Nat → Bool} {m : Nat} (h1 : ∀ i, i < m → ls i = true) (h2 : ∀ i, m ≤ i → ls i = false) : ∀ {n}, ayY ls n = min n m
 | 0 => by simp [ayY]
 | n + 1 => by
  simp only [ayY]
  rw [aeI h1 h2 (n := n)]
  by_cases hn : n < m
  ·rw [h1 n hn]; simp; omega
  ·rw [h2 n zb]; simp; omega
section
variable {C : Ctx} {P : Program} {G : World → Prop} {Γ : Cons} {ops : Array Oper}
theorem amQ {ls : Nat → Bool} : ∀ {m : Nat}, (∃ i, i < m ∧ ls i = false) → ∃ i, i < m ∧ ls i = false ∧ ∀ j, j < i → ls j = true
 | 0, ⟨i, h, _⟩ => by omega
 | m + 1, ⟨i, h, hi⟩ => by
  by_cases hex : ∃ i, i < m ∧ ls i = false
  ·obtain ⟨k, h1, h2, h3⟩ := amQ hex
   exact ⟨k, by omega, h2, h3⟩
  ·refine ⟨i, h, hi, fun j hj => ?_⟩
   cases hb : ls j with
   | true => rfl
   | false => exact absurd ⟨j, by omega, hb⟩ hex
theorem aI3 (hG : acS G) (hC : G C.w0) (hΓ : Γ.ok P G) {call : abN} (hcall : CallSat P G call) {Q : Exit → Act → World → Prop} {K : Fi → Prop} {ρ : Nat → Nat} {σ : St} {a : Act} {w : World}
  (hs : SRel C ρ σ a w) {sk : List (Nat × Nat)} (hskof : aNQ σ (ops.toList.take (abU (abI ops.toList []))) σ.next (acI P (ops.toList.take (abU (abI ops.toList []))) σ.next ++ σ.H) (ops.toList.take (abU (abI ops.toList []))) σ.next = some sk) (hpre : as8 ops (ops.toList.take (abU (abI ops.toList []))) (ops.toList.take (abU (abI ops.toList []))) 0 = true)
  (hed : acP ops.toList 0 = true) (htail : ag4 (abU (abI ops.toList [])) (abI ops.toList []) 0 = true) (hml : abU (abI ops.toList []) ≤ ops.toList.length) (hsnd : amN (sk.map (·.2)) = true) (hlaid : al0 (ops.toList.take (abU (abI ops.toList []))) σ.next sk = true) {z : St × List (Nat × Bk)}
  (hleaf : (ayU P Γ ops sk (acI P (ops.toList.take (abU (abI ops.toList []))) σ.next ++ σ.H) (aCy (ops.toList.take (abU (abI ops.toList []))) σ.next sk (acI P (ops.toList.take (abU (abI ops.toList []))) σ.next ++ σ.H) (veil sk σ.H)) (ops.toList.take (abU (abI ops.toList []))) σ.next { σ with H := veil sk σ.H, next := σ.next + abU (abI ops.toList []) } []).Leaf z)
  (hex : aa3 P Γ call ops (ops.toList.drop (abU (abI ops.toList []))) (ai0 (acI P (ops.toList.take (abU (abI ops.toList []))) σ.next ++ σ.H) sk z) K) (hQ : ∀ a' w', Reach C σ ρ w (fun σ' => K (.go σ')) a' w' → Q .normal a' w') (hP : ∀ ch a' w', Reach C σ ρ w (fun σ' => K (.pan ch σ')) a' w' → Q (.panic ch) a' w') (rnd : Option Nat) :
  wpAnyIn (aaW rnd) 0 P .any ops Q ops.size (Array.replicate ops.size false) a { w with drawn := w.drawn + 1 } := by
 generalize hlg : ops.toList = l at *
 generalize hmg : abU (abI l []) = m at *
 have hxlt : ∀ k, k < σ.next → Heap.find (acI P (l.take m) σ.next ++ σ.H) k = σ.H.find k := fun k hk => an8 (fun hm => by have := aiT hm; omega)
 have hxnew : ∀ (i : Nat) (o : Oper) (e : TypeId) (zs : List AV), (l.take m)[i]? = some o → o.op = .alloc e → ab2 P e = some zs → Heap.find (acI P (l.take m) σ.next ++ σ.H) (σ.next + i) = some (.vars e zs) := fun i o e zs h1 h2 h3 => atL h1 h2 h3
 generalize acI P (l.take m) σ.next ++ σ.H = Hs at *
 have hlen : l.length = ops.size := by rw [← hlg]; simp
 have hplen : (l.take m).length = m := zg
 obtain ⟨us, htr, hH1, hn1, hn2, hsts⟩ := au0 _ _ _ _ _ hleaf
 have hulen : us.length = m := by rw [htr.length, hplen]
 have hnd : z.1.H.keys.Nodup := au1 _ _ _ _ _ _ hleaf (by show (veil sk σ.H).keys.Nodup; rw [aeS]; exact hs.m.nodup) (by show ∀ k ∈ (veil sk σ.H).keys, k < σ.next; rw [aeS]; exact hs.m.lt)
 obtain ⟨hsp1, hsp2⟩ := ay3 hskof
 have hskok : SkOk sk σ.next (l.take m) := ⟨ao1 hsnd, hsp2, fun K' k hk => by obtain ⟨_, o, t, a, x, g1, g2, _⟩ := hsp1 K' k hk; exact ⟨o, t, a, x, g1, g2⟩, apJ hlaid⟩
 -- the beginning
 obtain ⟨hmv, hextv⟩ := hs.m.reveal (H' := veil sk σ.H) (fun k => by rw [aeS]) (fun k e t l hk => veil_mem.2 ⟨_, hk, by cases ajA sk k <;> rfl⟩) (by rw [aeS]; exact hs.m.nodup) (fun k b hb => by
  obtain ⟨b', h1, h2⟩ := veil_mem.1 hb
  have hbr := hs.m.mem k b' h1
  subst h2
  cases ajA sk k with
  | false => exact hbr
  | true =>
   cases b' with
   | vars e cells => exact hbr.block
   | _ => exact hbr)
 obtain ⟨hmd, hextd⟩ := hmv.grow (w' := w.drew) ((Below.refl _ _).drew)
 have hstk : ∀ (j : Nat) (k : Nat) (b : Bk), us[j]? = some (.st k b) → (σ.next + j, k) ∈ sk := by
  intro j k b hj
  have hjl : j < (l.take m).length := by have := (zw.1 hj).1; omega
  obtain ⟨v', fj, _, h1, _, h3, _⟩ := htr.nth (i := j) (o := (l.take m)[j]) (by rw [zx hjl])
  rw [hj] at h1
  injection h1 with h1
  subst h1
  exact ay4 h3.2.1
 have huv : (ai0 Hs sk z).H = aaR (aaR z.1.H (olds Hs sk)) z.2 ∧ (ai0 Hs sk z).slots = z.1.slots ∧ (ai0 Hs sk z).next = z.1.next ∧ (ai0 Hs sk z).n = z.1.n := by
  cases hsk0 : sk with
  | nil =>
   have : z.2 = [] := by
    apply xQ.2
    intro x hx
    rcases (hsts x).1 hx with hx | ⟨j, u, h1, h2⟩
    ·cases hx
    ·cases u with
     | st k b => have := hstk j k b h1; rw [hsk0] at this; cases this
     | _ => cases h2
   simp only [ai0, olds, this, aaR, and_self]
  | cons y r => exact ⟨rfl, rfl, rfl, rfl⟩
 have hnewk : ∀ (j : Nat) (v : Out), us[j]? = some v → ∀ x ∈ v.new, x.1 = σ.next + j := by
  intro j v hj x hx
  have hjl : j < (l.take m).length := by have := (zw.1 hj).1; omega
  obtain ⟨v', fj, _, h1, _, h3, _⟩ := htr.nth (i := j) (o := (l.take m)[j]) (by rw [zx hjl])
  rw [hj] at h1
  injection h1 with h1
  subst h1
  cases v with
  | ran r new =>
   rcases h3.2 with ⟨_, h3⟩ | ⟨_, _, _, _, _, rfl⟩
   ·exact amV h3 x hx
   ·simp only [Out.new, ye] at hx; subst hx; rfl
  | skip => cases hx
  | st k b => cases hx
 have fin : ∀ (fuel : Nat) (listed : Array Bool) (a : Act) (w' : World), listed.size = ops.size → (∀ i, i < m → listed.getD i false = true) → (∀ j, m ≤ j → listed.getD j false = false) →
   AInv C ρ w.drew { σ with H := veil sk σ.H, next := σ.next + m } Hs sk σ.next (l.take m) us (fun i => listed.getD i false) a w' → ops.size - m ≤ fuel → wpAnyIn (aaW rnd) 0 P .any ops Q fuel listed a w' := by
  intro fuel listed a w' hsz hall hsuf hinv hfuel
  obtain ⟨ρ', Hd, hH, hm', hsl, hsz', hdf, hext, hski⟩ := hinv
  have hmem : ∀ x, x ∈ Hd ↔ x ∈ z.1.H := by
   intro x
   rw [hH, hH1]
   constructor
   ·rintro (hx | ⟨j, u, h1, _, h3⟩)
    ·exact Or.inl hx
    ·exact Or.inr ⟨j, u, h1, h3⟩
   ·rintro (hx | ⟨j, u, h1, h3⟩)
    ·exact Or.inl hx
    ·exact Or.inr ⟨j, u, h1, hall j (by have := (zw.1 h1).1; omega), h3⟩
  obtain ⟨hm1, hext1⟩ := hm'.perm hmem hnd
  have hkeys : ∀ k, k ∈ z.1.H.keys → k ∈ Hd.keys := fun k hk => by
   obtain ⟨x, hx, e⟩ := zH.1 hk
   exact zH.2 ⟨x, (hmem x).2 hx, e⟩
  have hanyk : ∀ K k, (K, k) ∈ sk → k ∈ z.1.H.keys → (k, Bk.any) ∈ z.1.H := fun K k hk hkk => by
   obtain ⟨_, e, cells, _, g⟩ := hski K k hk
   exact (hmem _).1 (g (hkeys k hkk)).1
  have hstsk : ∀ k b, (k, b) ∈ z.2 → ∃ j, us[j]? = some (.st k b) ∧ (σ.next + j, k) ∈ sk := by
   intro k b hkb
   rcases (hsts (k, b)).1 hkb with hx | ⟨j, u, h1, h2⟩
   ·cases hx
   ·cases u with
    | st k' b' =>
     have h2' : (k, b) ∈ [(k', b')] := h2
     simp only [ye] at h2'
     injection h2' with e1 e2
     subst e1; subst e2
     exact ⟨j, h1, hstk j _ _ h1⟩
    | ran r new => cases h2
    | skip => cases h2
  have hnd2 : (aaR (aaR z.1.H (olds Hs sk)) z.2).keys.Nodup := by rw [aaK, aaK]; exact hnd
  obtain ⟨hm2, hext2⟩ := hm1.reveal (H' := (ai0 Hs sk z).H) (fun k => by rw [huv.1, aaK, aaK]) (fun k e t l hk => by
    rw [huv.1]
    have no : ∀ K, (K, k) ∉ sk := fun K hK => by have := Heap.mem_unique hnd hk (hanyk K k hK (aaE hk)); cases this
    refine abW (abW hk (fun b' hb' => ?_)) (fun b' hb' => ?_)
    ·obtain ⟨⟨K, hK⟩, _⟩ := olds_mem.1 hb'; exact no K hK
    ·obtain ⟨j, _, hK⟩ := hstsk k b' hb'; exact no _ hK) (by rw [huv.1]; exact hnd2) (fun k b hb => by
    have hkk : k ∈ Hd.keys := by
     have := aaE hb
     rw [huv.1, aaK, aaK] at this
     exact hkeys k this
    rw [huv.1] at hb
    rcases ac7 (by rw [aaK]; exact hnd) hb with hb | ⟨hb1, hb2⟩
    ·obtain ⟨j, h1, h2⟩ := hstsk k b hb
     obtain ⟨_, e, cells, _, g⟩ := hski _ _ h2
     have g := (g hkk).2
     rw [show σ.next + j - σ.next = j by omega] at g
     rcases g with ⟨b', g1, g2, g3⟩ | ⟨g1, g2⟩
     ·rw [h1] at g1; injection g1 with g1; injection g1 with _ g1; subst g1
      exact g3.ext hext1 rfl
     ·exfalso
      rcases g1 with g1 | g1
      ·have := hall j (by have := (zw.1 h1).1; omega)
       have g1' : listed.getD j false = false := g1
       rw [this] at g1'; cases g1'
      ·rw [h1] at g1; cases g1
    ·rcases ac7 hnd hb2 with hb2 | ⟨hb3, hb4⟩
     ·obtain ⟨⟨K, hK⟩, hf⟩ := olds_mem.1 hb2
      obtain ⟨h0, e, cells, hf', g⟩ := hski _ _ hK
      have g := (g hkk).2
      rw [hf] at hf'
      injection hf' with hf'
      subst hf'
      rcases g with ⟨b', g1, _, _⟩ | ⟨_, g2⟩
      ·exact absurd ((hsts (k, b')).2 (Or.inr ⟨_, _, g1, ye.2 rfl⟩)) (hb1 b')
      ·exact g2.ext hext1 rfl
     ·exact hm1.mem k b hb4)
  have hs1 : SRel C ρ' (ai0 Hs sk z) a w' := by
   refine ⟨by rw [huv.2.2.1, hn1]; exact hm2, fun t => ?_, by rw [huv.2.2.2, hn2]; exact hsz', (hdf.mono hext1.data hext1.size).mono hext2.data hext2.size⟩
   rw [huv.2.1]
   refine hext2.vr (hext1.vr (hsl t _ ?_))
   rcases htr.slot t with ⟨j, o, u, h1, h2, h3, h4, h5⟩ | ⟨h1, h2⟩
   ·exact Or.inl ⟨j, o, u, h1, h2, h3, h4, hall j (by have := (zw.1 h2).1; omega), h5⟩
   ·exact Or.inr ⟨fun j o hj hd hlt => absurd hlt (h1 j o hj hd), h2⟩
  have hfr : Fr C σ.next ρ σ.H w ρ' (ai0 Hs sk z).H w' := (hextv.trans (hextd.trans (hext.trans (hext1.trans hext2)))).fr (fun k hk hkm => by
   rw [huv.1, aaK, aaK] at hkm
   obtain ⟨x, hx, e⟩ := zH.1 hkm
   rcases (hH1 x).1 hx with hx | ⟨j, u, h1, h3⟩
   ·have : x.1 ∈ (veil sk σ.H).keys := zH.2 ⟨x, hx, rfl⟩
    rw [aeS] at this
    exact e ▸ this
   ·have := hnewk j u h1 x h3
    omega)
  refine apY hG hC hΓ hcall hlg hed htail (l.drop m) m fuel listed rfl (zj _) zg hsz (fun i hi => ?_) hs1 hex (fun a'' w'' hr => hQ a'' w'' (hr.trans hfr (by rw [huv.2.2.1, hn1]; exact yB _ _))) (fun ch a'' w'' hr => hP ch a'' w'' (hr.trans hfr (by rw [huv.2.2.1, hn1]; exact yB _ _))) rnd
  by_cases him : i < m
  ·rw [hall i him]; simp [him]
  ·rw [hsuf i zb]; simp [him]
 have key : ∀ (fuel : Nat) (listed : Array Bool) (a : Act) (w' : World), listed.size = ops.size → awG l (fun i => listed.getD i false) → (∀ j, m ≤ j → listed.getD j false = false) →
   AInv C ρ w.drew { σ with H := veil sk σ.H, next := σ.next + m } Hs sk σ.next (l.take m) us (fun i => listed.getD i false) a w' → ops.size ≤ fuel + ayY (fun i => listed.getD i false) ops.size → wpAnyIn (aaW rnd) 0 P .any ops Q fuel listed a w' := by
  intro fuel
  induction fuel with
  | zero =>
   intro listed a w' hsz hcl hsuf hinv hcnt
   by_cases hall : ∃ i, i < m ∧ listed.getD i false = false
   ·obtain ⟨i, hi, hi'⟩ := hall
    have := ax9 (ls := fun i => listed.getD i false) hi' (n := ops.size) zb
    omega
   ·have hall' : ∀ i, i < m → listed.getD i false = true := fun i hi => by
     cases hb : listed.getD i false with
     | true => rfl
     | false => exact absurd ⟨i, hi, hb⟩ hall
    have hc := aeI (ls := fun i => listed.getD i false) hall' hsuf (n := ops.size)
    exact fin 0 listed a w' hsz hall' hsuf hinv zb
  | succ fuel ih =>
   intro listed a w' hsz hcl hsuf hinv hcnt
   by_cases hall : ∃ i, i < m ∧ listed.getD i false = false
   ·have hlt : ∀ i, i < ops.size → listed.getD i true = listed.getD i false := by
     intro i hi
     rw [zo, zo, zW zb]
     rfl
    refine ⟨fun hnil => ?_, fun i hi => ?_⟩
    ·exfalso
     obtain ⟨i, hi1, hi2, hi3⟩ := amQ (ls := fun i => listed.getD i false) hall
     have hio : i < ops.size := zb
     have hil : l[i]? = some ops[i] := by rw [← hlg]; simp [hio]
     have : i ∈ Region.ready .any ops listed := by
      unfold Region.ready
      rw [xC]
      refine ⟨by simpa using hio, ?_⟩
      rw [hlt i hio, show listed.getD i false = false from hi2, zW hio]
      simp only [xz, xm, Bool.not_false, Bool.true_and]
      rw [yD]
      intro e he
      cases hb : Region.binds .any e with
      | false => rfl
      | true =>
       have := abL hed hil e he hb
       rw [zp] at this
       have h3 : listed.getD e.on false = true := hi3 e.on this
       simp [h3]
     rw [hnil] at this
     cases this
    ·unfold Region.ready at hi
     rw [xC] at hi
     obtain ⟨h1, h2⟩ := hi
     have hio : i < ops.size := by simpa using h1
     have hil : l[i]? = some ops[i] := by rw [← hlg]; simp [hio]
     rw [hlt i hio, zW hio] at h2
     simp only [zl, zK, xz, xm, yD] at h2
     obtain ⟨h3, h4⟩ := h2
     have hedge : ∀ e ∈ ops[i].after, acA e = true → listed.getD e.on false = true := by
      intro e he hb
      have := h4 e he
      unfold acA at hb
      rw [hb] at this
      simpa using this
     by_cases him : i < m
     ·have hpi : (l.take m)[i]? = some ops[i] := by rw [zR, if_pos him]; exact hil
      refine AInv.step hG hC hΓ (l := l) (σ0 := { σ with H := veil sk σ.H, next := σ.next + m }) (base := σ.next) hlg (fun j p hp => by
       have hjm : j < m := by have := (zw.1 hp).1; omega
       rw [zR, if_pos hjm] at hp; exact hp) hskok htr hpre (by show (veil sk σ.H).keys.Nodup; rw [aeS]; exact hs.m.nodup) (by show ∀ k ∈ (veil sk σ.H).keys, k < σ.next; rw [aeS]; exact hs.m.lt) (by rw [hplen]; exact zj _) hxnew hcl hpi h3 hedge hinv (fun a'' w'' hinv'' => ?_) rnd
      have hfun : (fun j => (listed.setIfInBounds i true).getD j false) = am3 (fun j => listed.getD j false) i := by
       funext j
       unfold am3
       by_cases hj : j = i
       ·subst hj
        rw [if_pos rfl, zo, yY zb]
        rfl
       ·rw [if_neg hj, zo, yH (Ne.symm hj), ← zo]
      refine ih _ a'' w'' (by simp [hsz]) ?_ ?_ (by rw [hfun]; exact hinv'') ?_
      ·rw [hfun]
       intro j o hj hlj e he hb
       unfold am3 at hlj ⊢
       split
       ·rfl
       ·split at hlj
        ·rename_i hji
         subst hji
         rw [hil] at hj
         injection hj with hj
         subst hj
         exact hedge e he hb
        ·exact hcl j o hj hlj e he hb
      ·intro j hj
       have : (listed.setIfInBounds i true).getD j false = am3 (fun j => listed.getD j false) i j := congrFun hfun j
       rw [this]
       unfold am3
       rw [if_neg zb]
       exact hsuf j hj
      ·rw [hfun, aqB h3 hio]
       omega
     ·exfalso
      obtain ⟨k, hk1, hk2⟩ := hall
      obtain ⟨x, hx⟩ : ∃ x, (abI l [])[i]? = some x := ⟨_, zx (by rw [(adU l []).2]; simp; omega)⟩
      have hxe := agV htail hx zb
      rw [zp] at hxe
      have := aiS hcl hed i _ hil hedge x k hx (by rw [hxe, xZ]; simp; omega)
      have this' : listed.getD k false = true := this
      rw [hk2] at this'
      cases this'
   ·have hall' : ∀ i, i < m → listed.getD i false = true := fun i hi => by
     cases hb : listed.getD i false with
     | true => rfl
     | false => exact absurd ⟨i, hi, hb⟩ hall
    have hc := aeI (ls := fun i => listed.getD i false) hall' hsuf (n := ops.size)
    exact fin (fuel + 1) listed a w' hsz hall' hsuf hinv zb
 refine key _ _ _ _ zf ?_ ?_ ?_ zb
 ·intro j o _ hj
  exfalso
  have hj' : (Array.replicate ops.size false).getD j false = true := hj
  rw [zo] at hj'
  by_cases hjs : j < ops.size
  ·simp [hjs] at hj'
  ·simp [hjs] at hj'
 ·intro j _
  rw [zo]
  by_cases hjs : j < ops.size
  ·simp [hjs]
  ·simp [hjs]
 ·refine ⟨ρ, veil sk σ.H, fun x => ?_, hmd.mono (yB _ _), fun t x hx => ?_, hs.size, (hs.defers.mono hextv.data hextv.size).mono hextd.data hextd.size, Ext.refl _ _ _ _, ?_⟩
  ·constructor
   ·exact Or.inl
   ·rintro (hx | ⟨j, u, _, hj, _⟩)
    ·exact hx
    ·exfalso
     have hj' : (Array.replicate ops.size false).getD j false = true := hj
     rw [zo] at hj'
     by_cases hjs : j < ops.size
     ·simp [hjs] at hj'
     ·simp [hjs] at hj'
  ·rcases hx with ⟨j, o, u, _, _, _, _, hj, _⟩ | ⟨_, hx⟩
   ·exfalso
    have hj' : (Array.replicate ops.size false).getD j false = true := hj
    rw [zo] at hj'
    by_cases hjs : j < ops.size
    ·simp [hjs] at hj'
    ·simp [hjs] at hj'
   ·rw [hx]; exact hextd.vr (hextv.vr (hs.slots t))
  ·intro K' k hk
   obtain ⟨h0, o, t, a', x, g1, g2, e, cells, hf⟩ := hsp1 K' k hk
   refine ⟨h0, e, cells, hf, fun hkk => ?_⟩
   rw [aeS] at hkk
   rw [hxlt k (hs.m.lt k hkk)] at hf
   refine ⟨veil_mem.2 ⟨_, Heap.find_mem hf, by rw [skHas_iff.2 ⟨K', hk⟩]; rfl⟩, Or.inr ⟨Or.inl ?_, ?_⟩⟩
   ·show (Array.replicate ops.size false).getD (K' - σ.next) false = false
    rw [zo]
    by_cases hjs : K' - σ.next < ops.size
    ·simp [hjs]
    ·simp [hjs]
   ·exact ((hs.m.mem k _ (Heap.find_mem hf)).ext hextv rfl).ext hextd rfl
theorem akY (hG : acS G) (hC : G C.w0) (hΓ : Γ.ok P G) {call : abN} (hcall : CallSat P G call) {Q : Exit → Act → World → Prop} {K : Fi → Prop} {ρ : Nat → Nat} {σ : St} {a : Act} {w : World}
  (hs : SRel C ρ σ a w) (h : agR P Γ call ops σ K) (hQ : ∀ a' w', Reach C σ ρ w (fun σ' => K (.go σ')) a' w' → Q .normal a' w') (hP : ∀ ch a' w', Reach C σ ρ w (fun σ' => K (.pan ch σ')) a' w' → Q (.panic ch) a' w') (rnd : Option Nat) :
  wpAnyIn (aaW rnd) 0 P .any ops Q ops.size (Array.replicate ops.size false) a { w with drawn := w.drawn + 1 } := by
 unfold agR at h
 simp only at h
 split at h
 ·rename_i sk hskof
  split at h
  ·rename_i hchk
   simp only [zl] at hchk
   obtain ⟨⟨⟨⟨⟨hpre, hed⟩, htail⟩, hml⟩, hsnd⟩, hlaid⟩ := hchk
   have hml := Nat.le_of_ble_eq_true hml
   obtain ⟨z, hleaf, hex⟩ := T.leaf h
   rw [aJ4] at hleaf
   exact aI3 hG hC hΓ hcall hs hskof hpre hed htail hml hsnd hlaid hleaf hex hQ hP rnd
  ·exact h.elim
 ·exact h.elim
end
open Go Go.RowKit
def dLe (u : Ty) (y : u.T) : AV → Prop
 | .d t x => match t.as u x with
  | some x' => x' = y
  | none => False
 | .nsl => match aH4 u with
  | some z => z = y
  | none => False
 | .ag l => match toD u (.ag l) with
  | some z => z = y
  | none => False
 | _ => False
def aRY (u : Ty) (y : u.T) : AV → Prop
 | .dptr t x => match t.as u x with
  | some x' => x' = y
  | none => False
 | _ => False
def aRU (k : TypeId) (u : Ty) (y : u.T) : AV → Prop
 | .ifc k' t x => k' = k ∧ match t.as u x with
  | some x' => x' = y
  | none => False
 | _ => False
mutual
/-- The first says no more than the second; it refers to blocks of which p holds alone. -/
def apS (p : Nat → Bool) : AV → AV → Prop
 | .no, _ => True
 | .d u y, a => dLe u y a
 | .dptr u y, a => aRY u y a
 | .nsl, a => match a with | .nsl => True | _ => False
 | .nilp, a => match a with | .nilp => True | _ => False
 | .nili, a => match a with | .nili => True | _ => False
 | .nni, a => match a with | .nni => True | _ => False
 | .ifc k u y, a => aRU k u y a
 | .und, a => match a with | .und => True | _ => False
 | .ptr k i, a => match a with | .ptr k' i' => k' = k ∧ i' = i ∧ p k = true | _ => False
 | .eptr k i, a => match a with | .eptr k' i' => k' = k ∧ i' = i ∧ p k = true | _ => False
 | .efp k i f, a => match a with | .efp k' i' f' => k' = k ∧ i' = i ∧ f' = f ∧ p k = true | _ => False
 | .own k o n, a => match a with | .own k' o' n' => k' = k ∧ o' = o ∧ n' = n ∧ p k = true | _ => False
 | .ox k o n, a => match a with | .ox k' o' n' => k' = k ∧ o' = o ∧ n' = n ∧ p k = true | _ => False
 | .sv k o n c, a => match a with | .sv k' o' n' c' => k' = k ∧ o' = o ∧ n' = n ∧ c' = c ∧ p k = true | _ => False
 | .fn f x y, a => match a with | .fn f' x' y' => f' = f ∧ apW p x x' ∧ apW p y y' | _ => False
 | .yld l, a => match a with | .yld l' => l' = l ∧ p l = true | _ => False
 | .mp k, a => match a with | .mp k' => k' = k ∧ p k = true | _ => False
 | .ag l, a => match a with | .ag l' => apW p l l' | _ => False
 | .tup l, a => match a with | .tup l' => apW p l l' | _ => False
def apW (p : Nat → Bool) : List AV → List AV → Prop
 | [], as => match as with | [] => True | _ :: _ => False
 | b :: bs, as => match as with | [] => False | a :: as => apS p b a ∧ apW p bs as
end
def anJ (p : Nat → Bool) (s : List (Nat × AV)) : List (Nat × AV) → Prop
 | [] => True
 | (t, b) :: r => apS p b (acT s t) ∧ anJ p s r
def aQH (p : Nat → Bool) (r r' : LoopA) : Prop := r'.st = r.st ∧ r'.pend = r.pend ∧ r'.n = r.n ∧ r'.ps = r.ps ∧ r'.assign = r.assign ∧ r'.body = r.body ∧ anJ p r'.slots r.slots
def aOL (p : Nat → Bool) : List (DK × AV) → List (DK × AV) → Prop
 | [], [] => True
 | x :: l, y :: m => x.1 = y.1 ∧ apS p x.2 y.2 ∧ aOL p l m
 | _, _ => False
def aSb (p : Nat → Bool) : Bk → Bk → Prop
 | .loop r, .loop r' => aQH p r r'
 | .dic k l, .dic k' l' => k' = k ∧ aOL p l l'
 | .dicv k _ l, .dic k' l' => k' = k ∧ (match l' with | [] => l = [] | _ :: _ => False)
 | .dicv k t l, .dicv k' t' l' => k' = k ∧ match (Ty.sl (.pair k'.ty t')).as (.sl (.pair k.ty t)) l' with
  | some z => z = l
  | none => False
 | .any, .any => True
 | .vars e cells, .vars e' cells' => e' = e ∧ apW p cells cells'
 | .row e t l, .row e' t' l' => e' = e ∧ match (t'.sl).as (.sl t) l' with
  | some z => z = l
  | none => False
 | _, _ => False
def aAu (p : Nat → Bool) (H : Heap) (n : Nat) : Heap → Prop
 | [] => True
 | (k, b) :: r => (match H.find k with
  | some b' => aSb p b b'
  | none => False) ∧ Nat.blt k n = true ∧ aAu p H n r
def Le (σ σ' : St) : Prop := σ'.n = σ.n ∧ anJ (abE σ'.H) σ.slots σ'.slots ∧ aAu (abE σ'.H) σ.H σ'.next σ'.H ∧ amN σ'.H.keys = true
section
variable {C : Ctx} {P : Program} {G : World → Prop}
theorem aF1 {ρ : Nat → Nat} {H H' : Heap} {w : World} {p : Nat → Bool} (hd : ∀ b, Ok C ρ H w b → Ok C ρ H' w b) (hk : ∀ k, p k = true → k ∈ H'.keys)
  (hr : ∀ k e t l, p k = true → (k, Bk.row e t l) ∈ H → (k, Bk.row e t l) ∈ H') :
  (∀ b a v, apS p b a → VR C ρ H w a v → VR C ρ H' w b v) := by
 have hd' : ∀ b, Ok C ρ H w b → Ok C ρ H' w b ∧ w.heap[b]? = w.heap[b]? := fun b h => ⟨hd b h, rfl⟩
 have dat : ∀ (u : Ty) (y : u.T) (a : AV) (v : Value), dLe u y a → VR C ρ H w a v → VR C ρ H' w (.d u y) v := by
  intro u y a v h hv
  unfold dLe at h
  split at h
  ·split at h
   ·rename_i z hz; subst h; exact .d ((VR.as hv hz).mono hd')
   ·exact h.elim
  ·split at h
   ·rename_i z hz; subst h; cases hv; exact .d (RdV.of_scalar (aAc hz) (alG hz))
   ·exact h.elim
  ·split at h
   ·rename_i z hz; subst h; exact .d ((ad5 hz hv).mono hd')
   ·exact h.elim
  ·exact h.elim
 intro b
 refine AV.rec (motive_1 := fun b => ∀ a v, apS p b a → VR C ρ H w a v → VR C ρ H' w b v) (motive_2 := fun bs => ∀ as vs, apW p bs as → VRs C ρ H w as vs → VRs C ρ H' w bs vs)
  ?_ ?_ ?_ ?_ ?_ ?_ ?_ ?_ ?_ ?_ ?_ ?_ ?_ ?_ ?_ ?_ ?_ ?_ ?_ ?_ ?_ ?_ b
 ·intro t x a v h hv; exact dat t x a v h hv
 ·intro k i a v h hv
  simp only [apS] at h
  split at h
  ·obtain ⟨rfl, rfl, hp⟩ := h; cases hv; exact .ptr (hk _ hp)
  ·exact h.elim
 ·intro k i a v h hv
  simp only [apS] at h
  split at h
  ·obtain ⟨rfl, rfl, hp⟩ := h
   cases hv with
   | eptr hm hi => exact .eptr (hr _ _ _ _ hp hm) hi
  ·exact h.elim
 ·intro k i f a v h hv
  simp only [apS] at h
  split at h
  ·obtain ⟨rfl, rfl, rfl, hp⟩ := h
   cases hv with
   | efp hm hi ho => exact .efp (hr _ _ _ _ hp hm) hi ho
  ·exact h.elim
 ·intro t x a v h hv
  simp only [apS, aRY] at h
  split at h
  ·split at h
   ·rename_i t' x' _ z hz
    subst h
    obtain ⟨e, he⟩ := Ty.as_some hz
    subst e
    subst he
    cases hv with
    | dptr hb hc ho hrd => exact .dptr (hd _ hb) hc ho (Rd.mono hd' _ _ _ hrd)
   ·exact h.elim
  ·exact h.elim
 ·intro k o n a v h hv
  simp only [apS] at h
  split at h
  ·obtain ⟨rfl, rfl, rfl, hp⟩ := h
   cases hv with
   | own hm hl hc hmx hb hs ha => exact .own (hr _ _ _ _ hp hm) hl hc hmx hb hs ha
  ·exact h.elim
 ·intro k o n a v h hv
  simp only [apS] at h
  split at h
  ·obtain ⟨rfl, rfl, rfl, hp⟩ := h
   cases hv with
   | ox hm hl hmx hb hs ha => exact .ox (hr _ _ _ _ hp hm) hl hmx hb hs ha
  ·exact h.elim
 ·intro k o n c a v h hv
  simp only [apS] at h
  split at h
  ·obtain ⟨rfl, rfl, rfl, rfl, hp⟩ := h
   cases hv with
   | sv hm hn hc => exact .sv (hk _ hp) hn hc
  ·exact h.elim
 ·intro a v h hv
  simp only [apS] at h
  split at h
  ·cases hv; exact .nsl
  ·exact h.elim
 ·intro a v h hv
  simp only [apS] at h
  split at h
  ·cases hv; exact .nilp
  ·exact h.elim
 ·intro a v h hv
  simp only [apS] at h
  split at h
  ·cases hv; exact .nili
  ·exact h.elim
 ·intro a v h hv
  simp only [apS] at h
  split at h
  ·cases hv; exact .nni
  ·exact h.elim
 ·intro k t x a v h hv
  simp only [apS, aRU] at h
  split at h
  ·obtain ⟨rfl, h⟩ := h
   split at h
   ·rename_i z hz
    subst h
    obtain ⟨e, he⟩ := Ty.as_some hz
    subst e
    subst he
    cases hv with
    | ifc hr => exact .ifc (hr.mono hd')
   ·exact h.elim
  ·exact h.elim
 ·intro f x y hx hy a v h hv
  simp only [apS] at h
  split at h
  ·obtain ⟨rfl, h1, h2⟩ := h
   cases hv with
   | fn h3 h4 => exact .fn (hx _ _ h1 h3) (hy _ _ h2 h4)
  ·exact h.elim
 ·intro l a v h hv
  simp only [apS] at h
  split at h
  ·obtain ⟨rfl, hp⟩ := h; cases hv; exact .yld (hk _ hp)
  ·exact h.elim
 ·intro k a v h hv
  simp only [apS] at h
  split at h
  ·obtain ⟨rfl, hp⟩ := h; cases hv; exact .mp (hk _ hp)
  ·exact h.elim
 ·intro l hl a v h hv
  simp only [apS] at h
  split at h
  ·cases hv with
   | ag h3 h4 => exact .ag (hl _ _ h h3) h4
  ·exact h.elim
 ·intro l hl a v h hv
  simp only [apS] at h
  split at h
  ·cases hv with
   | tup h3 => exact .tup (hl _ _ h h3)
  ·exact h.elim
 ·intro a v h hv
  simp only [apS] at h
  split at h
  ·cases hv; exact .und
  ·exact h.elim
 ·intro a v _ _; exact .no
 ·intro as vs h hv
  simp only [apW] at h
  split at h
  ·cases hv; exact .nil
  ·exact h.elim
 ·intro b bs hb hbs as vs h hv
  simp only [apW] at h
  split at h
  ·exact h.elim
  ·cases hv with
   | cons h1 h2 => exact .cons (hb _ _ h.1 h1) (hbs _ _ h.2 h2)
theorem atW {ρ : Nat → Nat} {H H' : Heap} {w : World} {p : Nat → Bool} (h : ∀ b a v, apS p b a → VR C ρ H w a v → VR C ρ H' w b v) : ∀ (bs as : List AV) (vs : List Value), apW p bs as → VRs C ρ H w as vs → VRs C ρ H' w bs vs
 | [], as, vs, hl, hv => by
  simp only [apW] at hl
  split at hl
  ·cases hv; exact .nil
  ·exact hl.elim
 | b :: bs, as, vs, hl, hv => by
  simp only [apW] at hl
  split at hl
  ·exact hl.elim
  ·cases hv with
   | cons h1 h2 => exact .cons (h _ _ _ hl.1 h1) (atW h bs _ _ hl.2 h2)
theorem asZ {ρ : Nat → Nat} {H H' : Heap} {w : World} {p : Nat → Bool} {k : KK} (h : ∀ b a v, apS p b a → VR C ρ H w a v → VR C ρ H' w b v) : ∀ {l l' : List (DK × AV)} {es : List MapEntry}, aOL p l l' → MapR (VR C ρ H w) k l' es → MapR (VR C ρ H' w) k l es
 | [], [], [], _, _ => trivial
 | _ :: _, _ :: _, _ :: _, ⟨e, h1, h2⟩, ⟨g1, g2, g3⟩ => ⟨by rw [e]; exact g1, h _ _ _ h1 g2, asZ h h2 g3⟩
 | [], [], _ :: _, _, h => h.elim
 | [], _ :: _, _, h, _ => h.elim
 | _ :: _, [], _, h, _ => h.elim
 | _ :: _, _ :: _, [], _, h => h.elim
theorem avJ {p : Nat → Bool} {H : Heap} {n : Nat} : ∀ {H' : Heap}, aAu p H n H' → ∀ k b, (k, b) ∈ H' → k < n ∧ ∃ b', (k, b') ∈ H ∧ aSb p b b'
 | [], _, k, b, hm => by cases hm
 | (j, c) :: r, h, k, b, hm => by
  simp only [aAu] at h
  rcases zq.1 hm with e | hm
  ·injection e with e1 e2; subst e1; subst e2
   refine ⟨Nat.le_of_ble_eq_true h.2.1, ?_⟩
   cases hf : H.find k with
   | none => rw [hf] at h; exact h.1.elim
   | some b' => rw [hf] at h; exact ⟨b', Heap.find_mem hf, h.1⟩
  ·exact avJ h.2.2 k b hm
theorem ai9 {p : Nat → Bool} {s : List (Nat × AV)} : ∀ {s' : List (Nat × AV)}, anJ p s s' → ∀ t, acT s' t = .no ∨ apS p (acT s' t) (acT s t)
 | [], _, t => Or.inl rfl
 | (u, b) :: r, h, t => by
  simp only [anJ] at h
  simp only [acT]
  cases hb : Nat.beq u t with
  | true => have := aaD hb; subst this; exact Or.inr h.1
  | false => exact ai9 h.2 t
theorem SRel.weaken {ρ : Nat → Nat} {σ σ' : St} {a : Act} {w : World} (hs : SRel C ρ σ a w) (h : Le σ σ') : SRel C ρ σ' a w ∧ ∀ n, Fr C n ρ σ.H w ρ σ'.H w := by
 obtain ⟨hn, hsl, hh, hnd⟩ := h
 have hm := hs.m
 have hmem := fun k b hk => avJ hh k b hk
 have hkeys : ∀ k, k ∈ σ'.H.keys → k ∈ σ.H.keys := by
  intro k hk
  obtain ⟨x, hx, e⟩ := zH.1 hk
  obtain ⟨_, b', hb', _⟩ := hmem x.1 x.2 hx
  exact e ▸ aaE hb'
 have hrow : ∀ k e t l, k ∈ σ'.H.keys → (k, Bk.row e t l) ∈ σ.H → (k, Bk.row e t l) ∈ σ'.H := by
  intro k e t l hk hkm
  obtain ⟨x, hx, rfl⟩ := zH.1 hk
  obtain ⟨_, b', hb', hle⟩ := hmem x.1 x.2 hx
  have := Heap.mem_unique hm.nodup hkm hb'
  subst this
  obtain ⟨k, b⟩ := x
  cases b with
  | vars e' cells => exact hle.elim
  | loop r => exact hle.elim
  | dic k l => exact hle.elim
  | dicv k t l => exact hle.elim
  | any => exact hle.elim
  | row e' t' l' =>
   obtain ⟨h1, h2⟩ := hle
   subst h1
   split at h2
   ·rename_i z hz
    obtain ⟨e1, e2⟩ := Ty.as_some hz
    injection e1 with e1
    subst e1
    have e2' : l = z := e2
    have h2' : z = l' := h2
    subst e2'; subst h2'
    exact hx
   ·exact h2.elim
 have hd : ∀ b, Ok C ρ σ.H w b → Ok C ρ σ'.H w b := fun b ⟨h1, h2, h3⟩ => ⟨h1, h2, fun k hk => h3 k (hkeys k hk)⟩
 have hd' : ∀ b, Ok C ρ σ.H w b → Ok C ρ σ'.H w b ∧ w.heap[b]? = w.heap[b]? := fun b h => ⟨hd b h, rfl⟩
 have hav := aF1 (C := C) (ρ := ρ) (H := σ.H) (H' := σ'.H) (w := w) (p := abE σ'.H) hd (fun k hk => hasKey_iff.1 hk) (fun k e t l hp hk => hrow k e t l (hasKey_iff.1 hp) hk)
 refine ⟨⟨⟨hm.below, ao1 hnd, ?_, fun k hk k' hk' => hm.inj k (hkeys k hk) k' (hkeys k' hk'), fun k hk => hm.low k (hkeys k hk), ?_⟩, fun t => ?_, by rw [hn]; exact hs.size, hs.defers.mono hd' (zj _)⟩, fun n => ⟨hd', fun k _ hk => ⟨hkeys k hk, rfl⟩, fun k e t l _ hkm hk => ⟨l, hrow k e t l hk hkm, zj _, fun c fr hc => ⟨c, fr, hc, rfl⟩⟩, zj _⟩⟩
 ·intro k hk
  obtain ⟨x, hx, e⟩ := zH.1 hk
  exact e ▸ (hmem x.1 x.2 hx).1
 ·intro k b hb
  obtain ⟨_, b', hb', hle⟩ := hmem k b hb
  have hbr := hm.mem k b' hb'
  cases b with
  | vars e cells =>
   cases b' with
   | row e' t' l' => exact hle.elim
   | loop r => exact hle.elim
   | dic k l => exact hle.elim
   | dicv k t l => exact hle.elim
   | any => exact hle.elim
   | vars e' cells' =>
    obtain ⟨h1, h2⟩ := hle
    subst h1
    obtain ⟨c, g1, g2, g3⟩ := hbr
    exact ⟨c, g1, atW hav _ _ _ h2 g2, g3⟩
  | row e t l =>
   cases b' with
   | vars e' cells' => exact hle.elim
   | loop r => exact hle.elim
   | dic k l => exact hle.elim
   | dicv k t l => exact hle.elim
   | any => exact hle.elim
   | row e' t' l' =>
    obtain ⟨h1, h2⟩ := hle
    subst h1
    split at h2
    ·rename_i z hz
     obtain ⟨e1, e2⟩ := Ty.as_some hz
     injection e1 with e1
     subst e1
     have e2' : l' = z := e2
     have h2' : z = l := h2
     subst e2'; subst h2'
     obtain ⟨c, g1, g2, g3, g4, g5⟩ := hbr
     exact ⟨c, g1, g2, g3, RdL.mono (fun x cs => Rd.mono hd' _ x cs) _ _ g4, g5⟩
    ·exact h2.elim
  | loop r =>
   cases b' with
   | vars e' cells' => exact hle.elim
   | row e' t' l' => exact hle.elim
   | dic k l => exact hle.elim
   | dicv k t l => exact hle.elim
   | any => exact hle.elim
   | loop r' =>
    obtain ⟨h1, h2, h3, h4, h5, h6, h7⟩ := hle
    obtain ⟨fn, tmps, d, g1, g2, g3⟩ := hbr
    refine ⟨fn, tmps, d, by rw [← h1, ← h2, ← h4, ← h5, ← h6]; exact g1, by rw [← h3]; exact g2, fun t => ?_⟩
    rcases ai9 h7 t with h | h
    ·rw [h]; exact .no
    ·exact hav _ _ _ h (g3 t)
  | any =>
   cases b' with
   | any => exact hbr
   | vars e' cells' => exact hle.elim
   | row e' t' l' => exact hle.elim
   | loop r' => exact hle.elim
   | dic k l => exact hle.elim
   | dicv k t l => exact hle.elim
  | dic k l =>
   cases b' with
   | any => exact hle.elim
   | vars e' cells' => exact hle.elim
   | row e' t' l' => exact hle.elim
   | loop r' => exact hle.elim
   | dicv k' t' l' => exact hle.elim
   | dic k' l' =>
    obtain ⟨rfl, h2⟩ := hle
    obtain ⟨es, n, g1, g2⟩ := hbr
    exact ⟨es, n, g1, asZ hav h2 g2⟩
  | dicv k t l =>
   have hdat : ∀ (u : Ty) (x : u.T) v, VR C ρ σ.H w (.d u x) v → VR C ρ σ'.H w (.d u x) v := fun u x v h => by
    cases h with
    | d h => exact .d (h.mono hd')
   cases b' with
   | any => exact hle.elim
   | vars e' cells' => exact hle.elim
   | row e' t' l' => exact hle.elim
   | loop r' => exact hle.elim
   | dic k' l' =>
    obtain ⟨rfl, h2⟩ := hle
    obtain ⟨es, n, g1, g2⟩ := hbr
    cases l' with
    | nil =>
     subst h2
     refine ⟨es, n, g1, ?_⟩
     cases hes : es.toList with
     | nil => trivial
     | cons x r => rw [hes] at g2; exact g2.elim
    | cons x r => exact h2.elim
   | dicv k' t' l' =>
    obtain ⟨rfl, h2⟩ := hle
    obtain ⟨es, n, g1, g2⟩ := hbr
    split at h2
    ·rename_i z hz
     obtain ⟨e1, e2⟩ := Ty.as_some hz
     injection e1 with e1
     injection e1 with _ e1
     subst e1
     have e2' : l' = z := e2
     have h2' : z = l := h2
     subst e2'; subst h2'
     exact ⟨es, n, g1, g2.impD fun x => hdat _ x⟩
    ·exact h2.elim
 ·rcases ai9 hsl t with h | h
  ·rw [h]; exact .no
  ·exact hav _ _ _ h (hs.slots t)
def RdOk (C : Ctx) (rd : Option Nat) (rnd : Option Nat) (next : Nat) (H : Heap) (ρ : Nat → Nat) : Prop :=
 match rd with
 | none => rnd = none ∧ C.mks = none
 | some l => l < next ∧ (l ∈ H.keys → rnd = some (ρ l))
theorem RdOk.fr {rd rnd : Option Nat} {next next' : Nat} {H H' : Heap} {ρ ρ' : Nat → Nat} {w w' : World} (h : RdOk C rd rnd next H ρ) (hf : Fr C next ρ H w ρ' H' w') (hn : next ≤ next') : RdOk C rd rnd next' H' ρ' := by
 cases rd with
 | none => exact h
 | some l =>
  refine ⟨zZ h.1 hn, fun hl => ?_⟩
  obtain ⟨h1, h2⟩ := hf.keys l h.1 hl
  rw [h2]; exact h.2 h1
def Sat (P : Program) (G : World → Prop) (rd : Option Nat) (c : Code) (σ : St) (Q : Exit → St → Prop) : Prop :=
 ∀ (C : Ctx), G C.w0 → ∀ (ρ : Nat → Nat) (a : Act) (w : World), SRel C ρ σ a w → ∀ rnd : Option Nat, RdOk C rd rnd σ.next σ.H ρ → c.wpIn (aaW rnd) 0 P (fun e a' w' => Reach C σ ρ w (Q e) a' w') a w
end
structure LoopP (P : Program) (G : World → Prop) (rd : Option Nat) (c : Code) (σ : St) (Q : Exit → St → Prop) : Prop where
 sat : Sat P G rd (.loop c) σ Q
def aPf (X : St → (Exit → St → Prop) → Prop) (Q : Exit → St → Prop) : Exit → St → Prop
 | .normal, σ => X σ Q
 | e, σ => Q e σ
def atE (id : Nat) (Q : Exit → St → Prop) : Exit → St → Prop
 | .exit j, σ => match Nat.beq j id with
  | true => Q .normal σ
  | false => Q (.exit j) σ
 | e, σ => Q e σ
def aMk (Q : Exit → St → Prop) : Exit → St → Prop
 | .goto _, _ => False
 | e, σ => Q e σ
def St.lay (σ : St) (K : Nat) (ps : Array Tmp) (assign body : Code) : Heap :=
 (K, .loop { st := .ready, pend := none, slots := σ.slots, n := σ.n, ps := ps, assign := assign, body := body }) :: σ.H
def akB : Option Code → Option Exit
 | none => some .normal
 | some .ret => some .ret
 | some (.exit id) => some (.exit id)
 | some _ => none
def akV (σ : St) (l : Nat) (Q : Exit → St → Prop) (x : AV) (H : Heap) (n : Nat) : Prop :=
 match alK x with
 | none => match H.find l with
  | some (.loop r) => match r.st, akB r.pend with
   | .busy, _ => False
   | _, some e => Q e { slots := aa1 (abE (H.up l (.loop { r with st := .exhausted }))) aeG σ.slots, H := H.up l (.loop { r with st := .exhausted }), next := n, n := σ.n }
   | _, none => False
  | _ => False
 | some _ => False
def ay9 (Q : Exit → St → Prop) : Fi → Prop
 | .go σ => Q .normal σ
 | .pan ch σ => Q (.panic ch) σ
def exec (P : Program) (G : World → Prop) (Γ : Cons) (call : abN) (rd : Option Nat) : Code → St → (Exit → St → Prop) → Prop
 | .skip, σ, Q => Q .normal σ
 | .region id ops draw, σ, Q => match draw with
  | false => aa3 P Γ call ops ops.toList σ (ay9 Q)
  | true => agR P Γ call ops (σ.forDraw (aEz Γ) ops.toList) (ay9 Q) ∨ Sat P G rd (.region id ops true) σ Q
 | .seq x y, σ, Q => exec P G Γ call rd x σ (aPf (exec P G Γ call rd y) Q)
 | .cond c x y, σ, Q => match σ.eval c with
  | .d .bool b => al1 b (exec P G Γ call rd x σ Q) (exec P G Γ call rd y σ Q)
  | _ => False
 | .block id c, σ, Q => exec P G Γ call rd c σ (atE id Q)
 | .loop c, σ, Q => LoopP P G rd c σ Q
 | .exit id, σ, Q => Q (.exit id) σ
 | .ret, σ, Q => Q .ret σ
 | .label _, σ, Q => Q .normal σ
 | .scope c, σ, Q => exec P G Γ call rd c σ (aMk Q)
 | .rangeFunc g ps assign body, σ, Q => match σ.eval g with
  | .fn f first caps => match rd with
   | none => call (.fn f) (first ++ .yld σ.next :: caps) (σ.lay σ.next ps assign body) (σ.next + 1) (akV σ σ.next Q)
   | some l0 => match σ.H.find l0 with
    | some (.loop _) => call (.fn f) (first ++ .yld σ.next :: caps) (σ.lay σ.next ps assign body) (σ.next + 1) (akV σ σ.next Q)
    | _ => False
  | _ => False
 | _, _, _ => False
section
variable {P : Program} {G : World → Prop}
def aNl (Q : Exit → Act → World → Prop) : Exit → Act → World → Prop
 | .goto _, _, _ => False
 | e, a, w => Q e a w
theorem anF {F : Fence} {n : Nat} {Q : Exit → Act → World → Prop} {a : Act} {w : World} {c : Code} (h : c.wpIn F n P (aNl Q) a w) : (Code.scope c).wpIn F n P Q a w := by
 intro b k cs hro hb hr
 have h0 : (lone (b.atR a (.code (.scope c) :: k)) cs w).fenced P F := fenced_calm hb hr rfl
 have s1 : step P (lone (b.atR a (.code (.scope c) :: k)) cs w) = .next (lone (b.atR a (.code c :: .inScope c :: k)) cs w) := step_lone_go (by simp [stepG, stepG.exec, Frame.atR])
 obtain ⟨e, a₁, w₁, hq, harr⟩ := h b (.inScope c :: k) cs hro hb hr
 have s2 : step P (lone (b.atR a₁ (.inScope c :: k)) cs w₁) = .next (lone (b.atR a₁ k) cs w₁) := step_lone_go (by simp [stepG, stepG.exec, Frame.atR])
 cases e with
 | normal => exact ⟨.normal, a₁, w₁, hq, .head h0 s1 (StepsIn.trans harr (.one (fenced_calm hb hr rfl) s2))⟩
 | exit id =>
  have hx : exitTo id (.inScope c :: k) = exitTo id k := by simp [exitTo]
  exact ⟨.exit id, a₁, w₁, hq, fun k' hk => .head h0 s1 (harr.1 k' (by rw [hx]; exact hk)),
   fun hr' hk => let ⟨k₁, h1, h2⟩ := harr.2 hr' (by rw [hx]; exact hk); ⟨k₁, h1, .head h0 s1 h2⟩⟩
 | goto l => exact hq.elim
 | ret => exact ⟨_, a₁, w₁, hq, .of_steps (.one h0 s1) harr⟩
 | panic ch => exact ⟨_, a₁, w₁, hq, .of_steps (.one h0 s1) harr⟩
 | outgrown => exact ⟨_, a₁, w₁, hq, .of_steps (.one h0 s1) harr⟩
theorem aO7 {H : Heap} {l : Nat} {r : LoopA} (hf : H.find l = some (.loop r)) (hn : H.keys.Nodup) {k : Nat} {e : TypeId} {t : Ty} {m : List t.T} (r' : LoopA) (h : (k, Bk.row e t m) ∈ H) : (k, Bk.row e t m) ∈ H.up l (.loop r') := by
 refine (Heap.mem_up_ne ?_).2 h
 intro e
 subst e
 have := Heap.mem_unique hn h (Heap.find_mem hf)
 cases this
theorem MRel.turn {C : Ctx} {ρ : Nat → Nat} {H : Heap} {next : Nat} {w : World} (hm : MRel C ρ H next w) {l : Nat} {r : LoopA} (hf : H.find l = some (.loop r)) (st : LoopState) (pe : Option Code)
  {fn : FuncId} {tmps : Array Value} {d : Nat} (hl : w.heap[ρ l]? = some (.loop { state := r.st, pending := r.pend, fn := fn, tmps := tmps, params := r.ps, assign := r.assign, body := r.body, defers := d }))
  (hsz : tmps.size = r.n) (hsl : ∀ t, VR C ρ H w (acT r.slots t) (tmps.getD t undef)) :
  MRel C ρ (H.up l (.loop { r with st := st, pend := pe })) next (w.putObj (ρ l) (.loop { state := st, pending := pe, fn := fn, tmps := tmps, params := r.ps, assign := r.assign, body := r.body, defers := d })) ∧
   Ext C ρ H w ρ (H.up l (.loop { r with st := st, pend := pe })) (w.putObj (ρ l) (.loop { state := st, pending := pe, fn := fn, tmps := tmps, params := r.ps, assign := r.assign, body := r.body, defers := d })) := by
 have hk := Heap.find_mem hf
 have hkk := aaE hk
 have hlt := ac1 hl
 generalize hO : Obj.loop { state := st, pending := pe, fn := fn, tmps := tmps, params := r.ps, assign := r.assign, body := r.body, defers := d } = O
 have hext : Ext C ρ H w ρ (H.up l (.loop { r with st := st, pend := pe })) (w.putObj (ρ l) O) := by
  refine ⟨fun b hb => ?_, fun j hj => ⟨by rw [Heap.keys_up]; exact hj, rfl⟩, fun j e' t m hmem => ?_, by simp⟩
  ·obtain ⟨h1, h2, h3⟩ := hb
   exact ⟨⟨h1, by simpa using h2, fun j hj => h3 j (by rwa [Heap.keys_up] at hj)⟩, World.putObj_heap_other (fun e => h3 l hkk e.symm)⟩
  ·refine ⟨m, aO7 hf hm.nodup _ hmem, zj _, fun c fr hc => ⟨c, fr, ?_, rfl⟩⟩
   rw [World.putObj_heap_other]; exact hc
   intro e
   rw [e, hl] at hc
   cases hc
 refine ⟨⟨?_, ?_, ?_, ?_, ?_, ?_⟩, hext⟩
 ·exact hm.below.trans ⟨rfl, rfl, rfl, by simp, fun i hi => World.putObj_heap_other (fun e => by have := hm.low l hkk; omega)⟩
 ·rw [Heap.keys_up]; exact hm.nodup
 ·rw [Heap.keys_up]; exact hm.lt
 ·rw [Heap.keys_up]; exact hm.inj
 ·rw [Heap.keys_up]; exact hm.low
 ·intro j b hjb
  by_cases hj : j = l
  ·subst hj
   rw [Heap.mem_up_eq hm.nodup hjb]
   exact ⟨fn, tmps, d, by rw [World.putObj_heap_same hlt, hO], hsz, fun t => hext.vr (hsl t)⟩
  ·have hjb' := (Heap.mem_up_ne hj).1 hjb
   exact (hm.mem j b hjb').ext hext (World.putObj_heap_other (fun e => hj (hm.inj j (aaE hjb') l hkk e)))
theorem ar4 {rnd : Option Nat} {j : Code} {e : Exit} (h : akB (some j) = some e) {Q : Exit → Act → World → Prop} {a : Act} {w : World} (hq : Q e a w) : j.wpIn (aaW rnd) 0 P Q a w := by
 cases j <;> simp only [akB] at h <;> first | (cases h; done) | (injection h with h; subst h)
 ·exact wpIn_exit hq
 ·exact wpIn_ret hq
theorem Dfs.push {C : Ctx} {ρ ρ' : Nat → Nat} {H H' : Heap} {w w' : World} {l : List Deferred} (hmk : C.mks = none) (h : Dfs C ρ H w l) (hd : ∀ b, Ok C ρ H w b → Ok C ρ' H' w' b ∧ w'.heap[b]? = w.heap[b]?) (hsz : w.heap.size ≤ w'.heap.size) {d : Nat} (hnew : w.heap.size ≤ d)
  (hk : ∀ k ∈ H'.keys, ρ' k ≠ d) (hb : w'.heap[d]? = some (.deferred (some []))) : Dfs C ρ' H' w' ({ target := .collected d, args := #[] } :: l) := by
 obtain ⟨h0, ds, h1, h2, h3, -⟩ := h.mono hd hsz
 obtain ⟨g0, ds0, g1, g2, g3, -⟩ := h
 refine ⟨h0, d :: ds, by rw [h1]; rfl, yA.2 ⟨fun hm => ?_, h2⟩, fun x hx => ?_, fun x hx => by rw [hmk] at hx; cases hx⟩
 ·have e : ds0 = ds := by
   have := List.append_cancel_right (g1.symm.trans h1)
   exact List.map_inj_right (fun a b h => by injection h with h; injection h) |>.1 this
  subst e
  have := ac1 (g3 d hm).2
  omega
 ·rcases zq.1 hx with rfl | hx
  ·exact ⟨⟨zt g0 hnew, hk⟩, hb⟩
  ·exact h3 x hx
theorem ab3 (hG : acS G) (hmix : P.follows .mixedOrders = true) {Γ : Cons} (hΓ : Γ.ok P G) {call : abN} (hcall : CallSat P G call) {rd : Option Nat} : ∀ (c : Code) (σ : St) (Q : Exit → St → Prop), exec P G Γ call rd c σ Q → Sat P G rd c σ Q
 | .skip, σ, Q, h => fun C hC ρ a w hs rnd hrd => wpIn_skip ⟨ρ, σ, h, hs, Fr.refl _ _ _ _ _, zj _⟩
 | .region id ops draw, σ, Q, h => fun C hC ρ a w hs rnd hrd => by
  cases draw with
  | false => exact wpIn_region_list (ac8 hG hC hΓ hcall _ hs h (fun a' w' hr => hr) (fun ch a' w' hr => hr) rnd)
  | true =>
   obtain ⟨h1, h2, h3⟩ := St.thaws_sound (aiO (aEz Γ) σ ops.toList ops.toList) hs
   rcases h with h | h
   ·exact wpIn_region_any hmix (akY hG hC hΓ hcall h1 h (fun a' w' hr => hr.trans h2 (xN h3.symm)) (fun ch a' w' hr => hr.trans h2 (xN h3.symm)) rnd)
   ·exact h C hC ρ a w hs rnd hrd
 | .seq x y, σ, Q, h => fun C hC ρ a w hs rnd hrd => by
  refine wpIn_seq (wpIn_mono (ab3 hG hmix hΓ hcall x σ _ h C hC ρ a w hs rnd hrd) ?_)
  rintro e a' w' ⟨ρ', σ', h1, h2, h3, h4⟩
  cases e with
  | normal => exact wpIn_mono (ab3 hG hmix hΓ hcall y σ' Q h1 C hC ρ' a' w' h2 rnd (hrd.fr h3 h4)) (fun e a'' w'' hr => hr.trans h3 h4)
  | _ => exact ⟨ρ', σ', h1, h2, h3, h4⟩
 | .cond c x y, σ, Q, h => fun C hC ρ a w hs rnd hrd => by
  simp only [exec] at h
  split at h
  ·rename_i b hb
   have hv := hs.eval c
   rw [hb] at hv
   have hbv := adX hv
   cases b with
   | true => exact wpIn_cond_true hbv (ab3 hG hmix hΓ hcall x σ Q h C hC ρ a w hs rnd hrd)
   | false => exact wpIn_cond_false hbv (ab3 hG hmix hΓ hcall y σ Q h C hC ρ a w hs rnd hrd)
  ·exact h.elim
 | .block id c, σ, Q, h => fun C hC ρ a w hs rnd hrd => by
  refine wpIn_block (wpIn_mono (ab3 hG hmix hΓ hcall c σ _ h C hC ρ a w hs rnd hrd) ?_)
  rintro e a' w' ⟨ρ', σ', h1, h2, h3, h4⟩
  cases e with
  | exit j =>
   simp only [Exit.inBlock]
   cases hb : Nat.beq j id with
   | true => simp only [atE, hb] at h1; rw [if_pos (aaD hb)]; exact ⟨ρ', σ', h1, h2, h3, h4⟩
   | false => simp only [atE, hb] at h1; rw [if_neg (ab6 hb)]; exact ⟨ρ', σ', h1, h2, h3, h4⟩
  | _ => exact ⟨ρ', σ', h1, h2, h3, h4⟩
 | .loop c, σ, Q, h => h.sat
 | .exit id, σ, Q, h => fun C hC ρ a w hs rnd hrd => wpIn_exit ⟨ρ, σ, h, hs, Fr.refl _ _ _ _ _, zj _⟩
 | .ret, σ, Q, h => fun C hC ρ a w hs rnd hrd => wpIn_ret ⟨ρ, σ, h, hs, Fr.refl _ _ _ _ _, zj _⟩
 | .label l, σ, Q, h => fun C hC ρ a w hs rnd hrd => wpIn_label ⟨ρ, σ, h, hs, Fr.refl _ _ _ _ _, zj _⟩
 | .scope c, σ, Q, h => fun C hC ρ a w hs rnd hrd => by
  refine anF (wpIn_mono (ab3 hG hmix hΓ hcall c σ _ h C hC ρ a w hs rnd hrd) ?_)
  rintro e a' w' ⟨ρ', σ', h1, h2, h3, h4⟩
  cases e with
  | goto l => exact h1.elim
  | _ => exact ⟨ρ', σ', h1, h2, h3, h4⟩
 | .rangeFunc g ps assign body, σ, Q, h => fun C hC ρ a w hs rnd hrd => by
  simp only [exec] at h
  split at h
  ·rename_i f first caps hg
   have hv := hs.eval g
   rw [hg] at hv
   generalize hvg : a.eval g = vg at hv
   cases hv with
   | @fn _ _ _ vf vc h1 h2 =>
    have hKn : σ.next ∉ σ.H.keys := fun h => absurd (hs.m.lt _ h) (xp _)
    -- the call of the iterator, and what lies behind it
    have main : ∀ (fn : FuncId) (W0 : World) (mark : List Deferred) (dd : Nat), (mark ≠ [] → C.mks = none) → Below w.heap.size w W0 → (∀ x ∈ mark, ∃ d, x = { target := .collected d, args := #[] } ∧ mark = [x] ∧ w.heap.size ≤ d ∧ W0.heap[d]? = some (.deferred (some []))) →
      (Instr.enterLoop fn a.tmps ps assign body rnd).run P w = .ok (W0.heap.size, mark) (W0.alloc (.loop { state := .ready, pending := none, fn := fn, tmps := a.tmps, params := ps, assign := assign, body := body, defers := dd })) →
      call (.fn f) (first ++ .yld σ.next :: caps) (σ.lay σ.next ps assign body) (σ.next + 1) (akV σ σ.next Q) →
      ∃ (l : Nat) (mark : List Deferred) (w₁ : World) (d : Deferred) (w₁' : World) (f : FuncId) (args : Array Value) (w₂ : World),
       (Instr.enterLoop fn a.tmps ps assign body (aaW rnd).round).run P w = .ok (l, mark) w₁ ∧
       (resolve a.eval (rangeCall g l) 0).run P w₁ = .ok d w₁' ∧
       (∀ f', Target.leads P w₁' d.target d.args = some f' → (aaW rnd).fn f') ∧
       (invoke d.target d.args).run P w₁' = .ok (.enter f args) w₂ ∧
       ((aaW rnd).depth.isSome = true → 1 ≤ 0) ∧
       CallsIn (aaW rnd) (0 - 1) P f args w₂ (rangePost (aaW rnd) 0 P l (fun e a' w' => Reach C σ ρ w (Q e) a' w') { a with defers := mark ++ a.defers }) := by
     intro fn W0 mark dd hmkn hb0 hmark hent hc
     obtain ⟨hm0, hext0⟩ := hs.m.grow hb0
     have hlt0 : ∀ k ∈ σ.H.keys, ρ k < w.heap.size := fun k hk => hs.m.key_lt hk
     obtain ⟨hm1, hext1⟩ := MRel.allocO (K := σ.next) (blk := .loop { st := .ready, pend := none, slots := σ.slots, n := σ.n, ps := ps, assign := assign, body := body })
      (ob := .loop { state := .ready, pending := none, fn := fn, tmps := a.tmps, params := ps, assign := assign, body := body, defers := dd }) (hm0.mono (yR σ.next)) hKn (yp _)
      (fun ρ' H' w' he hw' => ⟨fn, a.tmps, dd, hw', hs.size, fun t => (hext0.trans he).vr (hs.slots t)⟩)
     have hext := hext0.trans hext1
     generalize hW1 : W0.alloc (.loop { state := .ready, pending := none, fn := fn, tmps := a.tmps, params := ps, assign := assign, body := body, defers := dd }) = W1 at *
     have hρ : upd ρ σ.next W0.heap.size σ.next = W0.heap.size := aaZ _ _ _
     have hargs : VRs C (upd ρ σ.next W0.heap.size) (σ.lay σ.next ps assign body) W1 (first ++ .yld σ.next :: caps) (vf ++ .func (.yield W0.heap.size) #[] #[] :: vc) := by
      refine (h1.imp (fun _ _ => hext.vr)).append (.cons ?_ (h2.imp (fun _ _ => hext.vr)))
      have : VR C (upd ρ σ.next W0.heap.size) (σ.lay σ.next ps assign body) W1 (.yld σ.next) (.func (.yield (upd ρ σ.next W0.heap.size σ.next)) #[] #[]) := .yld zG
      rw [hρ] at this
      exact this
     obtain ⟨hen, hcl⟩ := hcall.fn _ _ _ _ _ hc C _ W1 _ hC hm1 hargs
     refine ⟨W0.heap.size, mark, W1, { target := .fn (.func f) ⟨vc⟩, args := ⟨vf⟩ ++ #[.func (.yield W0.heap.size) #[] #[]] }, W1, f, (⟨vf⟩ ++ #[.func (.yield W0.heap.size) #[] #[]]) ++ ⟨vc⟩, W1, hent, ?_, fun _ _ => trivial, ?_, (fun h => by cases h), ?_⟩
     ·simp only [resolve, hvg]
      simp [go_sem]
     ·have := akE (w := W1) hen ((⟨vf⟩ ++ #[.func (.yield W0.heap.size) #[] #[]]) ++ ⟨vc⟩)
      simp only [invoke]
      exact this
     ·refine callsIn_wideR.2 ?_
      rw [show (((⟨vf⟩ : Array Value) ++ #[.func (.yield W0.heap.size) #[] #[]]) ++ (⟨vc⟩ : Array Value)) = ⟨vf ++ .func (.yield W0.heap.size) #[] #[] :: vc⟩ by apply Array.ext'; simp]
      refine hcl.mono ?_
      rintro e W2 ⟨ρ2, r, H2, n2, hK, hm2, hfr2, hn2, hend2⟩
      rcases hend2 with ⟨v, rfl, hpn, hv2⟩ | ⟨x2, ch2, rfl, hc2, rfl⟩
      case inr => exact hK.elim
      simp only [akV, hpn] at hK
      split at hK
      ·rename_i rr hfind
       obtain ⟨fn', tmps', d', g1, g2, g3⟩ := hm2.mem _ _ (Heap.find_mem hfind)
       obtain ⟨hk2, hr2⟩ := hfr2.keys σ.next (yp _) (aaE (Heap.find_mem hfind))
       rw [hρ] at hr2
       have hnb : rr.st ≠ .busy := by intro e; rw [e] at hK; exact hK
       obtain ⟨ex, hex, hQ⟩ : ∃ ex, akB rr.pend = some ex ∧ Q ex { slots := aa1 (abE (H2.up σ.next (.loop { rr with st := .exhausted }))) aeG σ.slots, H := H2.up σ.next (.loop { rr with st := .exhausted }), next := n2, n := σ.n } := by
        split at hK
        ·exact hK.elim
        ·rename_i e _ hje; exact ⟨_, ‹_›, hK⟩
        ·exact hK.elim
       obtain ⟨hm3, hext3⟩ := hm2.turn hfind .exhausted rr.pend g1 g2 g3
       have hend := run_endLoop (P := P) g1 (by simpa using hnb)
       rw [hr2] at hend hm3 hext3
       generalize hW3 : W2.putObj W0.heap.size (.loop { state := .exhausted, pending := rr.pend, fn := fn', tmps := tmps', params := rr.ps, assign := rr.assign, body := rr.body, defers := d' }) = W3 at *
       have hfr3 : Fr C σ.next ρ σ.H w ρ2 (H2.up σ.next (.loop { rr with st := .exhausted })) W3 := by
        have f1 : Fr C σ.next ρ σ.H w (upd ρ σ.next W0.heap.size) (σ.lay σ.next ps assign body) W1 := hext.fr (fun k hk hm => by
         rcases zq.1 hm with rfl | hm
         ·exact absurd hk (xp _)
         ·exact hm)
        refine (f1.trans (yR _) hfr2).trans (n' := n2) zb (hext3.fr (fun k _ hm => by rwa [Heap.keys_up] at hm))
       have hsr : SRel C ρ2 { slots := aa1 (abE (H2.up σ.next (.loop { rr with st := .exhausted }))) aeG σ.slots, H := H2.up σ.next (.loop { rr with st := .exhausted }), next := n2, n := σ.n } { a with defers := mark ++ a.defers } W3 := by
        have base := hs.keepTo (p := abE (H2.up σ.next (.loop { rr with st := .exhausted }))) (f := aeG) hm3 (fun x v hx =>
         VR.map hfr3.data (fun k hk hp => ⟨hasKey_iff.1 hp, (hfr3.keys k (hs.m.lt k hk) (hasKey_iff.1 hp)).2⟩) (fun k e t l hk hp => hfr3.rows k e t l (hs.m.lt k (aaE hk)) hk (hasKey_iff.1 hp)) (fun _ _ _ _ _ _ => .no) hx) hfr3.data hfr3.size
        refine ⟨base.m, base.slots, base.size, ?_⟩
        cases mark with
        | nil => exact base.defers
        | cons x xs =>
         obtain ⟨d, rfl, hxs, hd1, hd2⟩ := hmark x zG
         injection hxs with _ hxs
         subst hxs
         have hlow : C.w0.heap.size ≤ d := zt hs.m.below.size hd1
         have hdlt := ac1 hd2
         have hok1 : Ok C (upd ρ σ.next W0.heap.size) (σ.lay σ.next ps assign body) W1 d := by
          refine ⟨Or.inr hlow, by rw [← hW1]; simp; omega, fun k hk => ?_⟩
          rcases zq.1 hk with rfl | hk
          ·rw [hρ]; omega
          ·have hk' : k ∈ σ.H.keys := hk
           have hne : k ≠ σ.next := fun e => hKn (by rw [← e]; exact hk')
           rw [adH _ hne]
           have := hlt0 k hk'; omega
         obtain ⟨hok2, hbl2⟩ := hfr2.data d hok1
         obtain ⟨hok3, hbl3⟩ := hext3.data d hok2
         refine Dfs.push (hmkn zf) hs.defers hfr3.data hfr3.size hd1 hok3.2.2 ?_
         rw [hbl3, hbl2, ← hW1, Below.heap_alloc _ _ _ hdlt]
         exact hd2
       cases hp : rr.pend with
       | none =>
        rw [hp] at hex
        injection hex with hex
        subst hex
        exact ⟨none, W3, by rw [hend, hp], ⟨ρ2, _, hQ, hsr, hfr3, by show σ.next ≤ n2; omega⟩⟩
       | some j =>
        rw [hp] at hex
        exact ⟨some j, W3, by rw [hend, hp], ar4 hex ⟨ρ2, _, hQ, hsr, hfr3, by show σ.next ≤ n2; omega⟩⟩
      ·exact hK.elim
    refine wpIn_rangeFunc (fun fn _ => ?_)
    cases rd with
    | none =>
     have hr : rnd = none := hrd.1
     subst hr
     simp only at h
     refine main fn (w.alloc (.deferred (some []))) [{ target := .collected w.heap.size, args := #[] }] w.heap.size (fun _ => hrd.2) ((Below.refl _ _).alloc (zj _) _) ?_ ?_ h
     ·intro x hx
      simp at hx
      subst hx
      exact ⟨w.heap.size, rfl, rfl, zj _, World.alloc_heap_new _ _⟩
     ·rw [run_enterLoop_outer, World.size_alloc]
    | some l0 =>
     simp only at h
     split at h
     ·rename_i r0 hf0
      have hr : rnd = some (ρ l0) := hrd.2 (aaE (Heap.find_mem hf0))
      subst hr
      obtain ⟨fn0, tmps0, d0, g1, _, _⟩ := hs.m.mem _ _ (Heap.find_mem hf0)
      refine main fn w [] d0 (fun h => absurd rfl h) (Below.refl _ _) (fun x hx => by cases hx) ?_ h
      rw [run_enterLoop_inner g1]
     ·exact h.elim
  ·exact h.elim
 | .goto _, _, _, h => h.elim
 | .refuse _, _, _, h => h.elim
theorem anC {rnd : Option Nat} {Q : Exit → Act → World → Prop} {ι : Type} {c : Code} (I : ι → Act → World → Prop) (μ : ι → Nat)
  (round : ∀ i a w, I i a w → c.wpIn (aaW rnd) 0 P (Exit.then (fun a' w' => ∃ i', I i' a' w' ∧ μ i' < μ i) Q) a w) (i : ι) (a : Act) (w : World) (h₀ : I i a w) : (Code.loop c).wpIn (aaW rnd) 0 P Q a w := by
 intro b k cs hro hb hr
 have key : ∀ j i a w, μ i = j → I i a w →
   ∃ e a' w', Q e a' w' ∧ ArrivesIn (Machine.fenced P (aaW rnd)) P (lone (b.atR a (.code c :: .inLoop c :: k)) cs w) b k cs e a' w' := by
  intro j
  induction j using Nat.strongRecOn with
  | _ j ih =>
   intro i a w hn hI
   obtain ⟨e, a₁, w₁, hq, harr⟩ := round i a w hI b (.inLoop c :: k) cs hro hb hr
   cases e with
   | normal =>
    obtain ⟨i', hI₁, hlt⟩ := hq
    obtain ⟨e₂, a₂, w₂, hq₂, harr₂⟩ := ih (μ i') (hn ▸ hlt) i' a₁ w₁ rfl hI₁
    exact ⟨e₂, a₂, w₂, hq₂, .of_steps (StepsIn.trans harr (.one (fenced_calm hb hr rfl) stepR_inLoop)) harr₂⟩
   | exit id => exact ⟨_, a₁, w₁, hq, .pass (x := .inLoop c) rfl (fun _ _ => .inl zf) harr⟩
   | goto l => exact ⟨_, a₁, w₁, hq, .pass (x := .inLoop c) rfl (fun _ _ => .inl zf) harr⟩
   | ret => exact ⟨_, a₁, w₁, hq, .pass (x := .inLoop c) rfl (fun _ _ => .inl zf) harr⟩
   | panic ch => exact ⟨_, a₁, w₁, hq, .pass (x := .inLoop c) rfl (fun _ _ => .inl zf) harr⟩
   | outgrown => exact ⟨_, a₁, w₁, hq, .pass (x := .inLoop c) rfl (fun _ _ => .inl zf) harr⟩
 obtain ⟨e, a', w', hq, harr⟩ := key _ i a w rfl h₀
 exact ⟨e, a', w', hq, .of_steps (.one (fenced_calm hb hr rfl) stepR_loop) harr⟩
end
open Go Go.RowKit
def acF : Nat → List AV → List (Nat × AV)
 | _, [] => []
 | i, a :: as => (i, a) :: acF (i + 1) as
def aJY (P : Program) (σ : St) : List ResultVar → T (List AV)
 | [] => .ok []
 | .tmp t :: r => (aJY P σ r).bind fun l => .ok (acT σ.slots t :: l)
 | .cell a t :: r => (ao3 P σ.H t (acT σ.slots a)).bind fun x => (aJY P σ r).bind fun l => .ok (x :: l)
def aL1 (K : AV → Heap → Nat → Prop) (l : List AV) (σ : St) : Prop :=
 match alK (at3 l) with
 | none => K (at3 l) σ.H σ.next
 | some _ => False
def aQw (K : AV → Heap → Nat → Prop) (ch : List PanicEntry) (σ : St) : Prop :=
 amE ch fun x => K (aO1 x) σ.H σ.next
def aJW (P : Program) (fn : Func) (K : List AV → St → Prop) (KP : List PanicEntry → St → Prop) : Exit → St → Prop
 | .normal, σ => (aJY P σ fn.results.toList).holds fun l => K l σ
 | .ret, σ => (aJY P σ fn.results.toList).holds fun l => K l σ
 | .panic ch, σ => KP ch σ
 | _, _ => False
def aRQ (P : Program) (fn : Func) (K : List AV → St → Prop) : Exit → St → Prop := aJW P fn K fun _ _ => False
def aoJ (σ : St) : List Nat → List AV → St
 | p :: ps, a :: as => aoJ (σ.put (some p) a) ps as
 | _, _ => σ
def aNp : Exit → Option (Option Code)
 | .normal => some none
 | .ret => some (some .ret)
 | .exit id => some (some (.exit id))
 | _ => none
def ap2 (st : Option Code) : LoopState := match st with | none => .ready | some _ => .done
def aQS (l : Nat) (K : AV → Heap → Nat → Prop) (e : Exit) (σ : St) : Prop :=
 match aNp e with
 | some j => match σ.H.find l with
  | some (.loop r) => K (.d .bool j.isNone) (σ.H.up l (.loop { r with st := ap2 j, pend := j })) σ.next
  | _ => False
 | none => False
def aOS (l : Nat) (X : St → Prop) : Exit → St → Prop
 | .normal, σ => match σ.H.find l with
  | some (.loop r) => match r.st with
   | .ready => X { σ with H := σ.H.up l (.loop { r with st := .busy }) }
   | _ => False
  | _ => False
 | _, _ => False
def aFj (H : Heap) : Nat → Nat → Nat → AV := fun k off len =>
 match H.find k with
 | some (.row _ t l) => .d (.sl t) ((l.drop off).take len)
 | _ => .no
def al7 : (t : Ty) → List AV → Option t.T
 | .unit, [] => some ()
 | .pair t u, a :: as => match toD t a with
  | some x => match al7 u as with
   | some y => some (x, y)
   | none => none
  | none => none
 | _, _ => none
def aQe (t : Ty) (y : t.T) (l : List AV) (σ : St) : Prop :=
 match al7 t (AV.maps (fun _ => false) (aFj σ.H) l) with
 | some z => z = y
 | none => False
def Wf : (t : Ty) → t.T → Prop
 | .int k, (x : Int) => k.min ≤ x ∧ x ≤ k.max
 | .bool, _ => True
 | .str, (x : List UInt8) => x.length ≤ lim
 | .unit, _ => True
 | .pair t u, x => Wf t x.1 ∧ Wf u x.2
 | .arr n t, (x : List t.T) => x.length = n ∧ ∀ y ∈ x, Wf t y
 | .sl t, (x : List t.T) => x.length ≤ lim ∧ ∀ y ∈ x, Wf t y
def ajY : (t : Ty) → t.T → List AV
 | .pair t u, x => .d t x.1 :: ajY u x.2
 | _, _ => []
section
variable {C : Ctx} {P : Program} {G : World → Prop}
theorem RdL.wf {α : Type} {R : α → List Value → Prop} {W : α → Prop} (h : ∀ x cs, R x cs → W x) : ∀ (l : List α) (cs : List Value), RdL R l cs → ∀ y ∈ l, W y
 | [], _, _, y, hy => by cases hy
 | x :: xs, cs, ⟨c1, c2, _, h1, h2⟩, y, hy => by
  rcases zq.1 hy with rfl | hy
  ·exact h _ _ h1
  ·exact RdL.wf h xs c2 h2 y hy
theorem Rd.wf {ok : Nat → Prop} {w : World} : ∀ (t : Ty) (x : t.T) (cs : List Value), Rd ok w t x cs → Wf t x
 | .int _, _, _, ⟨_, h⟩ => h
 | .bool, _, _, _ => trivial
 | .str, _, _, ⟨_, h⟩ => h
 | .unit, _, _, _ => trivial
 | .pair t u, _, _, ⟨_, _, _, h1, h2⟩ => ⟨Rd.wf t _ _ h1, Rd.wf u _ _ h2⟩
 | .arr _ t, _, _, ⟨hl, hr⟩ => ⟨hl, RdL.wf (fun x cs => Rd.wf t x cs) _ _ hr⟩
 | .sl t, x, _, ⟨_, _, _, _, hl, h3⟩ => by
  refine ⟨hl, ?_⟩
  rcases h3 with h3 | ⟨_, _, _, _, _, _, _, _, _, hr⟩
  ·rw [h3]; intro y hy; cases hy
  ·exact RdL.wf (fun x cs => Rd.wf t x cs) _ _ hr
theorem RdVs.wf {ok : Nat → Prop} {w : World} : ∀ (t : Ty) (x : t.T) (vs : List Value), RdVs ok w t x vs → Wf t x
 | .unit, _, _, _ => trivial
 | .pair t u, _, _, ⟨_, _, _, h1, h2⟩ => ⟨Rd.wf t _ _ h1.cells, RdVs.wf u _ _ h2⟩
 | .int _, _, _, h => h.elim
 | .bool, _, _, h => h.elim
 | .str, _, _, h => h.elim
 | .arr _ _, _, _, h => h.elim
 | .sl _, _, _, h => h.elim
theorem RdVs.args {ok : Nat → Prop} {ρ : Nat → Nat} {H : Heap} {w : World} (hk : ∀ b, ok b → Ok C ρ H w b) : ∀ (t : Ty) (x : t.T) (vs : List Value), RdVs ok w t x vs → VRs C ρ H w (ajY t x) vs
 | .unit, _, vs, h => by obtain rfl : vs = [] := h; exact .nil
 | .pair t u, x, vs, ⟨v, us, e, h1, h2⟩ => by subst e; exact .cons (.d (h1.mono (fun b hb => ⟨hk b hb, rfl⟩))) (RdVs.args hk u _ _ h2)
 | .int _, _, _, h => h.elim
 | .bool, _, _, h => h.elim
 | .str, _, _, h => h.elim
 | .arr _ _, _, _, h => h.elim
 | .sl _, _, _, h => h.elim
theorem amL : ∀ (as : List AV) (i t : Nat), acT (acF i as) t = if i ≤ t then (as[t - i]?).getD .no else .no
 | [], i, t => by simp [acF, acT]
 | a :: as, i, t => by
  simp only [acF, acT]
  cases hb : Nat.beq i t with
  | true => have := aaD hb; subst this; simp
  | false =>
   have hne := ab6 hb
   simp only
   rw [amL as (i + 1) t]
   by_cases h : i + 1 ≤ t
   ·rw [if_pos h, if_pos zb]
    rw [show t - i = (t - (i + 1)) + 1 by omega]
    simp
   ·rw [if_neg h]
    by_cases h2 : i ≤ t
    ·omega
    ·rw [if_neg h2]
theorem asQ (hu : C.us = []) (hmk : C.mks = none) {ρ : Nat → Nat} {H : Heap} {next : Nat} {w : World} {args : List AV} {vs : List Value} {n : Nat} (hm : MRel C ρ H next w) (hlo : C.lo ≤ w.heap.size) (hv : VRs C ρ H w args vs) (hn : args.length ≤ n) :
  SRel C ρ { slots := acF 0 args, H := H, next := next, n := n } { tmps := (⟨vs⟩ : Array Value) ++ Array.replicate (n - (⟨vs⟩ : Array Value).size) undef, defers := [] } w := by
 have hlen := hv.length
 refine ⟨hm, fun t => ?_, by simp; omega, Dfs.nil hlo hu hmk⟩
 show VR C ρ H w (acT (acF 0 args) t) _
 rw [amL args 0 t, if_pos (ya _), Nat.sub_zero]
 cases ha : args[t]? with
 | none => exact .no
 | some a =>
  obtain ⟨v, h1, h2⟩ := hv.get ha
  have hlt : t < vs.length := (zw.1 h1).1
  have e : ((⟨vs⟩ : Array Value) ++ Array.replicate (n - (⟨vs⟩ : Array Value).size) undef).getD t undef = v := by
   rw [zo, Array.getElem?_append_left (by simpa using hlt)]
   have : (⟨vs⟩ : Array Value)[t]? = some v := by simpa using h1
   rw [this]; rfl
  rw [e]
  exact h2
def auU (a : Act) : ResultVar → Sem Value
 | .tmp t => pure (a.tmps.getD t undef)
 | .cell x t => do loadVar t (← asAddr (a.tmps.getD x undef))
theorem aj4 {ρ : Nat → Nat} {σ : St} {a : Act} {w : World} (hs : SRel C ρ σ a w) : ∀ (rs : List ResultVar) (l : List AV), (aJY P σ rs).Leaf l →
  ∃ vs, (rs.mapM (auU a)).run P w = .ok vs w ∧ VRs C ρ σ.H w l vs
 | [], l, h => by cases h; exact ⟨[], rfl, .nil⟩
 | .tmp t :: r, l, h => by
  obtain ⟨l', h1, h2⟩ := T.Leaf.bind h
  cases h2
  obtain ⟨vs, h3, h4⟩ := aj4 hs r l' h1
  exact ⟨_ :: vs, by simp only [List.mapM_cons, auU, Sem.run_bind, Sem.run_pure, Result.andThen_ok, h3], .cons (hs.slots t) h4⟩
 | .cell x t :: r, l, h => by
  obtain ⟨y, h1, h2⟩ := T.Leaf.bind h
  obtain ⟨l', h3, h4⟩ := T.Leaf.bind h2
  cases h4
  obtain ⟨vs, h5, h6⟩ := aj4 hs r l' h3
  have hv := hs.slots x
  obtain ⟨v, h7, h8⟩ := ajN (fun _ h => h) hs.m h1 hv
  refine ⟨v :: vs, ?_, .cons h8 h6⟩
  have hl : (auU a (.cell x t)).run P w = .ok v w := by
   have hptr : ∃ ad, a.tmps.getD x undef = .pointer (some ad) := by
    generalize a.tmps.getD x undef = u at hv
    unfold ao3 at h1
    split at h1
    ·rename_i he; rw [he] at hv; cases hv; exact ⟨_, rfl⟩
    ·rename_i he; rw [he] at hv; cases hv; exact ⟨_, rfl⟩
    ·rename_i he; rw [he] at hv; cases hv; exact ⟨_, rfl⟩
    ·rename_i he; rw [he] at hv; cases hv; exact ⟨_, rfl⟩
    ·cases h1
   obtain ⟨ad, had⟩ := hptr
   rw [had] at h7
   show (do loadVar t (← asAddr (a.tmps.getD x undef)) : Sem Value).run P w = _
   rw [had]
   simpa [Instr.loadAt, Instr.sureAddr, asAddr] using h7
  simp only [List.mapM_cons, Sem.run_bind, hl, Result.andThen_ok, h5, Sem.run_pure]
theorem aqZ {fn : Func} {a : Act} {w : World} {vs : List Value} (h : (fn.results.toList.mapM (auU a)).run P w = .ok vs w) : (results fn a.tmps).run P w = .ok (aJX vs) w := by
 have hm : (fn.results.mapM (auU a)).run P w = .ok vs.toArray w := by
  rw [Array.mapM_eq_mapM_toList]
  simp only [Sem.run_map]
  rw [h]
  rfl
 have e : results fn a.tmps = (do let vs ← fn.results.mapM (auU a); pure (if h : vs.size = 1 then vs[0] else .tuple vs) : Sem Value) := by
  unfold results
  congr 2
 rw [e]
 simp only [Sem.run_bind, hm, Result.andThen_ok, Sem.run_pure]
 congr 1
 match vs with
 | [] => rfl
 | [v] => rfl
 | v :: u :: r => rfl
theorem aLy {ρ : Nat → Nat} {H : Heap} {next : Nat} {w : World} (hm : MRel C ρ H next w) {x : AV} {v : Value} (h : VR C ρ H w x v) : VR C ρ [] w (x.map (fun _ => false) (aFj H)) v := by
 have hd : ∀ b, Ok C ρ H w b → Ok C ρ [] w b ∧ w.heap[b]? = w.heap[b]? := fun b ⟨h1, h2, _⟩ => ⟨⟨h1, h2, by intro k hk; cases hk⟩, rfl⟩
 refine VR.map hd (fun _ _ h => by cases h) (fun _ _ _ _ _ h => by cases h) ?_ h
 intro k off len v _ hov
 unfold aFj
 cases hov with
 | own hk hl hc hmx hb hs ha =>
  split
  ·rename_i e t l hf
   have hu := Heap.mem_unique hm.nodup (Heap.find_mem hf) hk
   injection hu with hu1 hu2 hu3
   subst hu1; subst hu2
   have hu3 := eq_of_heq hu3
   subst hu3
   obtain ⟨c, h1, h2, h3, h4, h5⟩ := hm.ownCells hk hl
   refine .d ⟨_, ⟨_, _, by rw [h3], by rw [h3]; exact hc, by rw [h3]; exact h4, ?_⟩, rfl⟩
   by_cases hnil : (l.drop off).take len = []
   ·exact Or.inl hnil
   ·have hpos : 0 < len := by rw [← h3]; exact zN.2 hnil
    have ha' := ha.resolve_right (fun h => by omega)
    exact Or.inr ⟨ρ k, off * t.size, c, e, (0, 0), ha', ⟨Or.inr (hm.low k (aaE hk)), hm.key_lt (aaE hk), by intro k hk; cases hk⟩, h1, h2, RdL.mono (fun x cs => Rd.mono hd t x cs) _ _ h5⟩
  ·exact .no
theorem aqP {ρ : Nat → Nat} {w : World} : ∀ (t : Ty) (as : List AV) (vs : List Value) (x : t.T), al7 t as = some x → VRs C ρ [] w as vs → RdVs (Ok C ρ [] w) w t x vs
 | .unit, [], vs, x, h, hv => by cases hv; rfl
 | .pair t u, a :: as, vs, x, h, hv => by
  cases hv with
  | cons h1 h2 =>
   simp only [al7] at h
   split at h
   ·rename_i y hy
    split at h
    ·rename_i z hz
     injection h with h; subst h
     exact ⟨_, _, rfl, ad5 hy h1, aqP u as _ z hz h2⟩
    ·cases h
   ·cases h
 | .int _, _, _, _, h, _ => by simp [al7] at h
 | .bool, _, _, _, h, _ => by simp [al7] at h
 | .str, _, _, _, h, _ => by simp [al7] at h
 | .arr _ _, _, _, _, h, _ => by simp [al7] at h
 | .sl _, _, _, _, h, _ => by simp [al7] at h
 | .unit, _ :: _, _, _, h, _ => by simp [al7] at h
 | .pair _ _, [], _, _, h, _ => by simp [al7] at h
def Ctx.wh (C : Ctx) (n : Nat) (h : C.w0.heap.size ≤ n) (us : List Deferred) (ms : Option (List Nat)) : Ctx := { C with lo := n, hlo := h, us := us, mks := ms }
def Ctx.at (C : Ctx) (n : Nat) (h : C.w0.heap.size ≤ n) : Ctx := C.wh n h [] none
theorem VR.wh {ρ : Nat → Nat} {H : Heap} {w : World} {n : Nat} {hn : C.w0.heap.size ≤ n} {us : List Deferred} {ms : Option (List Nat)} {x : AV} {v : Value} (h : VR C ρ H w x v) : VR (C.wh n hn us ms) ρ H w x v := by
 refine VR.rec (motive_1 := fun x v _ => VR (C.wh n hn us ms) ρ H w x v) (motive_2 := fun xs vs _ => VRs (C.wh n hn us ms) ρ H w xs vs)
  ?_ ?_ ?_ ?_ ?_ ?_ ?_ ?_ ?_ ?_ ?_ ?_ ?_ ?_ ?_ ?_ ?_ ?_ ?_ ?_ ?_ ?_ h
 ·intro t x v h; exact .d h
 ·intro k off h; exact .ptr h
 ·intro k i e t l h hi; exact .eptr h hi
 ·intro k i f o u e t l h hi ho; exact .efp h hi ho
 ·intro t x b o c e fr hb hc ho h; exact .dptr hb hc ho h
 ·intro k off len e t l a cap c fr h hl hc hm hb hs ha; exact .own h hl hc hm hb hs ha
 ·intro k off len e t l a c fr h hl hm hb hs ha; exact .ox h hl hm hb hs ha
 ·intro k o n cap h hn hc; exact .sv h hn hc
 ·exact .nsl
 ·exact .nilp
 ·exact .nili
 ·exact .nni
 ·intro k t x v h; exact .ifc h
 ·intro g first caps vf vc _ _ h1 h2; exact .fn h1 h2
 ·intro l h; exact .yld h
 ·intro k h; exact .mp h
 ·intro cells vs _ h1 h; exact .ag h h1
 ·intro l vs _ h; exact .tup h
 ·exact .und
 ·intro v; exact .no
 ·exact .nil
 ·intro a v as vs _ _ h hs; exact .cons h hs
theorem VR.at {ρ : Nat → Nat} {H : Heap} {w : World} {n : Nat} {hn : C.w0.heap.size ≤ n} {x : AV} {v : Value} (h : VR C ρ H w x v) : VR (C.at n hn) ρ H w x v := h.wh
theorem VR.back {ρ : Nat → Nat} {H : Heap} {w : World} {n : Nat} {hn : C.w0.heap.size ≤ n} {x : AV} {v : Value} (h : VR (C.at n hn) ρ H w x v) : VR C ρ H w x v :=
 VR.wh (C := C.at n hn) (n := C.lo) (hn := C.hlo) (us := C.us) (ms := C.mks) h
theorem VRs.wh {ρ : Nat → Nat} {H : Heap} {w : World} {n : Nat} {hn : C.w0.heap.size ≤ n} {us : List Deferred} {ms : Option (List Nat)} : ∀ {xs : List AV} {vs : List Value}, VRs C ρ H w xs vs → VRs (C.wh n hn us ms) ρ H w xs vs
 | _, _, .nil => .nil
 | _, _, .cons h hs => .cons h.wh (VRs.wh hs)
theorem VRs.at {ρ : Nat → Nat} {H : Heap} {w : World} {n : Nat} {hn : C.w0.heap.size ≤ n} {xs : List AV} {vs : List Value} (h : VRs C ρ H w xs vs) : VRs (C.at n hn) ρ H w xs vs := h.wh
theorem BkR.wh {ρ : Nat → Nat} {H : Heap} {w : World} {n b : Nat} {hn : C.w0.heap.size ≤ n} {us : List Deferred} {ms : Option (List Nat)} {x : Bk} (h : BkR C ρ H w b x) : BkR (C.wh n hn us ms) ρ H w b x := by
 cases x with
 | vars e cells => obtain ⟨c, h1, h2, h3⟩ := h; exact ⟨c, h1, h2.wh, h3⟩
 | row e t l => exact h
 | loop r => obtain ⟨fn, tmps, d, h1, h2, h3⟩ := h; exact ⟨fn, tmps, d, h1, h2, fun t => (h3 t).wh⟩
 | dic k l => obtain ⟨es, n, h1, h2⟩ := h; exact ⟨es, n, h1, h2.imp fun _ _ => VR.wh⟩
 | dicv k t l => obtain ⟨es, n, h1, h2⟩ := h; exact ⟨es, n, h1, h2.imp fun _ _ => VR.wh⟩
 | any => exact h
theorem MRel.wh {ρ : Nat → Nat} {H : Heap} {next : Nat} {w : World} {n : Nat} {hn : C.w0.heap.size ≤ n} {us : List Deferred} {ms : Option (List Nat)} (h : MRel C ρ H next w) : MRel (C.wh n hn us ms) ρ H next w :=
 ⟨h.below, h.nodup, h.lt, h.inj, h.low, fun k b hb => (h.mem k b hb).wh⟩
theorem MRel.at {ρ : Nat → Nat} {H : Heap} {next : Nat} {w : World} {n : Nat} {hn : C.w0.heap.size ≤ n} (h : MRel C ρ H next w) : MRel (C.at n hn) ρ H next w := h.wh
theorem MRel.back {ρ : Nat → Nat} {H : Heap} {next : Nat} {w : World} {n : Nat} {hn : C.w0.heap.size ≤ n} (h : MRel (C.at n hn) ρ H next w) : MRel C ρ H next w :=
 MRel.wh (C := C.at n hn) (n := C.lo) (hn := C.hlo) (us := C.us) (ms := C.mks) h
theorem Fr.back {ρ ρ' : Nat → Nat} {H H' : Heap} {w w' : World} {m n : Nat} {hn : C.w0.heap.size ≤ n} (h : Fr (C.at n hn) m ρ H w ρ' H' w') : Fr C m ρ H w ρ' H' w' :=
 ⟨h.data, h.keys, h.rows, h.size⟩
theorem MRel.shut {ρ : Nat → Nat} {H : Heap} {next : Nat} {w : World} (hm : MRel C ρ H next w) {d : Nat} (hd : w.heap[d]? = some (.deferred (some []))) (hk : ∀ k ∈ H.keys, ρ k ≠ d) (hlow : C.w0.heap.size ≤ d) (o : Obj) :
  MRel C ρ H next (w.putObj d o) ∧ ∀ x v, VR C ρ H w x v → VR C ρ H (w.putObj d o) x v := by
 have hdC : ∀ b c e fr, Ok C ρ H w b → w.heap[b]? = some (.cells c e fr) → Ok C ρ H (w.putObj d o) b ∧ (w.putObj d o).heap[b]? = w.heap[b]? := by
  intro b c e fr hb hc
  have hne : b ≠ d := by intro e; rw [e, hd] at hc; cases hc
  exact ⟨⟨hb.1, by simpa using hb.2.1, hb.2.2⟩, World.putObj_heap_other hne⟩
 have hv : ∀ x v, VR C ρ H w x v → VR C ρ H (w.putObj d o) x v := by
  intro x v h
  have := VR.mapC (p := fun _ => true) (f := fun _ _ _ => .no) (ρ' := ρ) (H' := H) hdC (fun k hk _ => ⟨hk, rfl⟩)
   (fun k e t l hmem _ => ⟨l, hmem, zj _, fun c fr hc => ⟨c, fr, by rw [World.putObj_heap_other (hk k (aaE hmem))]; exact hc, rfl⟩⟩) (fun _ _ _ _ h => by cases h) h
  rwa [AV.map_true] at this
 refine ⟨⟨?_, hm.nodup, hm.lt, hm.inj, hm.low, fun k b hb => ?_⟩, hv⟩
 ·exact hm.below.trans ⟨rfl, rfl, rfl, by simp, fun i hi => World.putObj_heap_other zb⟩
 ·have hbr := hm.mem k b hb
  have he : (w.putObj d o).heap[ρ k]? = w.heap[ρ k]? := World.putObj_heap_other (hk k (aaE hb))
  cases b with
  | vars e cells => obtain ⟨c, h1, h2, h3⟩ := hbr; exact ⟨c, he.trans h1, h2.imp hv, h3⟩
  | row e t l => obtain ⟨c, h1, h2, h3, h4, h5⟩ := hbr; exact ⟨c, he.trans h1, h2, h3, RdL.mono (fun x cs => Rd.monoC hdC t x cs) _ _ h4, h5⟩
  | loop r => obtain ⟨fn, tmps, dd, h1, h2, h3⟩ := hbr; exact ⟨fn, tmps, dd, he.trans h1, h2, fun t => hv _ _ (h3 t)⟩
  | dic k l => obtain ⟨es, n, h1, h2⟩ := hbr; exact ⟨es, n, he.trans h1, h2.imp hv⟩
  | dicv k t l => obtain ⟨es, n, h1, h2⟩ := hbr; exact ⟨es, n, he.trans h1, h2.imp hv⟩
  | any => obtain ⟨o', h1⟩ := hbr; exact ⟨o', he.trans h1⟩
theorem aiG {F : Fence} {n : Nat} {ρ : Nat → Nat} {H : Heap} {next : Nat} {fn : Func} {tmps : Array Value} {R : Ending → World → Prop} {u : FrameMode} (hu : u ≠ .run) {rest : List Deferred} : ∀ (ds : List Nat) (w : World), MRel C ρ H next w → ds.Nodup →
  (∀ d ∈ ds, (C.lo ≤ d ∧ ∀ k ∈ H.keys, ρ k ≠ d) ∧ w.heap[d]? = some (.deferred (some []))) →
  (∀ w'', MRel C ρ H next w'' → (∀ x v, VR C ρ H w x v → VR C ρ H w'' x v) → (∀ b, b < C.lo → w''.heap[b]? = w.heap[b]?) → (∀ k ∈ H.keys, w''.heap[ρ k]? = w.heap[ρ k]?) → w''.heap.size = w.heap.size → LeavesInM F n P fn tmps R rest u w'') →
  LeavesInM F n P fn tmps R (ds.map (fun d => { target := .collected d, args := #[] }) ++ rest) u w
 | [], w, hm, _, _, h => h w hm (fun _ _ h => h) (fun _ _ => rfl) (fun _ _ => rfl) rfl
 | d :: ds, w, hm, hnd, hds, h => by
  obtain ⟨⟨hlo, hk⟩, hd⟩ := hds d zG
  obtain ⟨hnd1, hnd2⟩ := yA.1 hnd
  obtain ⟨hm', hv'⟩ := hm.shut hd hk (zt C.hlo hlo) (.deferred none)
  refine ⟨hu, Or.inl ⟨d, w.putObj d (.deferred none), rfl, run_takeDeferred hd, ?_⟩⟩
  refine aiG hu ds _ hm' hnd2 (fun e he => ?_) (fun w'' g1 g2 g3 g4 g5 => h w'' g1 (fun x v hx => g2 x v (hv' x v hx)) (fun b hb => ?_) (fun k hk' => ?_) (by rw [g5]; simp))
  ·obtain ⟨h1, h2⟩ := hds e (zu _ he)
   refine ⟨h1, ?_⟩
   rw [World.putObj_heap_other (fun e' : e = d => hnd1 (e' ▸ he))]
   exact h2
  ·rw [g3 b hb, World.putObj_heap_other zb]
  ·rw [g4 k hk', World.putObj_heap_other (hk k hk')]
theorem aNZ (hu : C.us = []) (hmk : C.mks = none) {F : Fence} {n : Nat} {ρ : Nat → Nat} {fn : Func} {σ : St} {a : Act} {w : World} {Q : List AV → St → Prop} {R : Ending → World → Prop} (hs : SRel C ρ σ a w) (h : (aJY P σ fn.results.toList).holds fun l => Q l σ)
  (hR : ∀ l vs w'', Q l σ → MRel C ρ σ.H σ.next w'' → VRs C ρ σ.H w'' l vs → (∀ b, b < C.lo → w''.heap[b]? = w.heap[b]?) → (∀ k ∈ σ.H.keys, w''.heap[ρ k]? = w.heap[ρ k]?) → w''.heap.size = w.heap.size → R (.returned (aJX vs)) w'') :
  LeavesInM F n P fn a.tmps R a.defers .returning w := by
 obtain ⟨hlo, ds, h1, h2, h3, -⟩ := hs.defers
 rw [h1, hu]
 refine aiG zf ds w hs.m h2 h3 (fun w'' g1 g2 g3 g4 g5 => ?_)
 obtain ⟨l, hl1, hl2⟩ := T.leaf h
 have hs' : SRel C ρ σ { a with defers := [] } w'' := ⟨g1, fun t => g2 _ _ (hs.slots t), hs.size, Dfs.nil (by rw [g5]; exact hlo) hu hmk⟩
 obtain ⟨us, k1, k2⟩ := aj4 (P := P) hs' _ _ hl1
 exact ⟨_, aqZ k1, hR l us w'' hl2 g1 k2 g3 g4 g5⟩
theorem aBb {ρ : Nat → Nat} {w : World} : ∀ (ps : List Nat) (as : List AV) (vs : List Value) (σ : St) (a : Act), SRel C ρ σ a w → VRs C ρ σ.H w as vs →
  SRel C ρ (aoJ σ ps as) { a with tmps := (ps.zip vs).foldl (fun t x => t.setIfInBounds x.1 x.2) a.tmps } w ∧ (aoJ σ ps as).H = σ.H ∧ (aoJ σ ps as).next = σ.next
 | [], as, vs, σ, a, hs, hv => by cases as <;> exact ⟨hs, rfl, rfl⟩
 | p :: ps, [], vs, σ, a, hs, hv => by cases hv; exact ⟨hs, rfl, rfl⟩
 | p :: ps, x :: as, vs, σ, a, hs, hv => by
  cases hv with
  | @cons _ v _ vs h1 h2 =>
   have h3 := hs.put (dst := some p) h1
   obtain ⟨g1, g2, g3⟩ := aBb ps as vs (σ.put (some p) x) (a.put (some p) v) h3 (by rw [St.put_H]; exact h2)
   refine ⟨g1, ?_, ?_⟩
   ·rw [show aoJ σ (p :: ps) (x :: as) = aoJ (σ.put (some p) x) ps as from rfl, g2, St.put_H]
   ·rw [show aoJ σ (p :: ps) (x :: as) = aoJ (σ.put (some p) x) ps as from rfl, g3, St.put_next]
end
open Go Go.RowKit
def agF (o : Oper) : Bool :=
 match o.op with
 | .move _ | .assign _ | .alloc _ | .load .. | .store .. | .extract .. | .typeAssert .. | .fieldAddr .. | .makeFunc .. | .binOp .. | .unOp .. => true
 | _ => false
section
variable {P : Program} {ops : Array Oper}
theorem aGt {s : Sem Value} {w w' : World} {n : Next} (h : (do pure (Next.value (← s)) : Sem Next).run P w = .ok n w') : ∃ v, n = .value v := by
 simp only [Sem.run_bind] at h
 cases hs : s.run P w with
 | ok v w1 =>
  rw [hs] at h
  simp only [Result.andThen_ok, Sem.run_pure] at h
  injection h with h1 h2
  exact ⟨v, h1.symm⟩
 | halt x w1 => rw [hs] at h; cases h
theorem aKp {s : Sem Unit} {w w' : World} {n : Next} (h : (do s; pure Next.skip : Sem Next).run P w = .ok n w') : n = .skip := by
 simp only [Sem.run_bind] at h
 cases hs : s.run P w with
 | ok v w1 =>
  rw [hs] at h
  simp only [Result.andThen_ok, Sem.run_pure] at h
  injection h with h1 h2
  exact h1.symm
 | halt x w1 => rw [hs] at h; cases h
theorem aEu {o : Oper} {ρ : Operand → Value} {w w' : World} {n : Next} (hs : agF o = true) (h : (execOp ρ o).run P w = .ok n w') : (∃ v, n = .value v) ∨ n = .skip := by
 unfold agF at hs
 split at hs
 case h_12 => cases hs
 all_goals rename_i ho; simp only [execOp, ho] at h
 all_goals first
  | exact Or.inl (aGt h)
  | exact Or.inr (aKp h)
  | (simp only [Sem.run_pure] at h; injection h with h1 h2; exact Or.inl ⟨_, h1.symm⟩)
theorem aP9 {Q : Exit → Act → World → Prop} {cs : List Frame} : ∀ (l : List Oper) (j : Nat) (a : Act) (w : World), ops.toList.drop j = l → (∀ o ∈ l, agF o = true) → wpListIn (aaW none) 0 P ops Q l a w →
  wpOpsSIn (aaW none) 0 P ops (fun e a' cs' w' => cs' = cs ∧ Q e a' w') (List.range' j l.length) a cs w
 | [], j, a, w, hd, hs, h => ⟨rfl, h⟩
 | o :: rest, j, a, w, hd, hs, h => by
  have hjl : j < ops.toList.length := by
   rcases zD j ops.toList.length with h | h
   ·exact h
   ·rw [wN.2 h] at hd; cases hd
  have hlj : ops.toList[j]? = some o := by
   have := congrArg (fun x => x[0]?) hd
   simpa using this
  have hoj : ops[j]? = some o := by rw [zU] at hlj; exact hlj
  have hdr : ops.toList.drop (j + 1) = rest := by
   rw [yv hjl] at hd
   injection hd
  have ih : ∀ (a : Act) (w : World), wpListIn (aaW none) 0 P ops Q rest a w → wpOpsSIn (aaW none) 0 P ops (fun e a' cs' w' => cs' = cs ∧ Q e a' w') (List.range' (j + 1) rest.length) a cs w :=
   fun a w h => aP9 (Q := Q) (cs := cs) rest (j + 1) a w hdr (fun x hx => hs x (zu _ hx)) h
  simp only [yh, List.range'_succ, wpOpsSIn, hoj]
  unfold wpListIn at h
  split at h
  ·rename_i hw
   rw [if_pos hw]
   obtain ⟨h1, h2⟩ := h
   refine ⟨h1, ?_⟩
   change Oper.uponIn (aaW none) 0 P o a (wpListIn (aaW none) 0 P ops Q rest) Q ((execOp a.eval o).run P w) at h2
   cases hr : (execOp a.eval o).run P w with
   | ok n w' =>
    rw [hr] at h2
    rcases aEu (hs o (zG ..)) hr with ⟨v, rfl⟩ | rfl
    ·exact ih _ _ h2
    ·exact ih _ _ h2
   | halt x w' =>
    rw [hr] at h2
    cases x <;> first | exact h2.elim | exact ⟨trivial, h2⟩
  ·rename_i hw
   rw [if_neg hw]
   exact ⟨h.1, ih _ _ h.2⟩
def ahJ (o : Oper) : Bool :=
 match o.op, o.guard with
 | .call { callee := .builtin .recover, .. }, none => true
 | _, _ => false
theorem aBR {o : Oper} (h : ahJ o = true) (ρ : Operand → Value) (w : World) : (execOp ρ o).run P w = .ok .recover w ∧ o.guard = none := by
 unfold ahJ at h
 split at h
 ·rename_i args ts ho hg
  exact ⟨by simp [execOp, ho, resolve, invoke, builtin], hg⟩
 ·cases h
theorem az0 {F : Fence} {n : Nat} {Q Q' : Exit → Act → List Frame → World → Prop} (hQ : ∀ e a cs w, Q e a cs w → Q' e a cs w) : ∀ (l : List Nat) (a : Act) (cs : List Frame) (w : World), wpOpsSIn F n P ops Q l a cs w → wpOpsSIn F n P ops Q' l a cs w
 | [], _, _, _, h => hQ _ _ _ _ h
 | i :: rest, a, cs, w, h => by
  have ih : ∀ (a : Act) (cs : List Frame) (w : World), wpOpsSIn F n P ops Q rest a cs w → wpOpsSIn F n P ops Q' rest a cs w := fun a cs w h => az0 hQ rest a cs w h
  simp only [wpOpsSIn] at h ⊢
  cases ho : ops[i]? with
  | none => simp only [ho] at h; exact ih _ _ _ h
  | some o =>
   simp only [ho] at h ⊢
   refine ⟨h.1, ?_⟩
   have h2 := h.2
   split at h2
   ·rename_i hw
    rw [if_pos hw]
    split at h2
    ·rename_i w' hr
     split at h2
     ·rename_i v cs' hc
      exact ih _ _ _ h2
     ·rename_i hc
      exact ih _ _ _ h2
    ·rename_i v w' hr
     exact ih _ _ _ h2
    ·rename_i w' hr
     exact ih _ _ _ h2
    ·rename_i v w' hr
     exact hQ _ _ _ _ h2
    ·exact h2.elim
   ·rename_i hw
    rw [if_neg hw]
    exact ih _ _ _ h2
inductive Rec : FrameMode → Value → FrameMode → Prop where
 | none : Rec .returning .nilIface .returning
 | some (v : Value) (older : List PanicEntry) : Rec (.panicking (⟨v, false, false⟩ :: older)) v (.panicking (⟨v, true, false⟩ :: older))
theorem ayA {g : FuncId} {gn : Func} {id : Nat} {o : Oper} {B : Code} {vc : List Value} {u u' : FrameMode} {v : Value} {w : World} {K : World → Prop}
  (hg : P.funcs[g]? = some gn) (hb : gn.body = some (.seq (.region id ops false) B)) (h0 : ops.toList[0]? = some o) (hrec : ahJ o = true) (hsim : ∀ x ∈ ops.toList.drop 1, agF x = true) (hres : gn.results = #[]) (hv : Rec u v u')
  (h : wpListIn (aaW none) 0 P ops (fun e a w' => match e with
   | .normal => B.wpIn (aaW none) 0 P (fun e a' w'' => (e = .normal ∨ e = .ret) ∧ a'.defers = [] ∧ K w'') a w'
   | _ => False) (ops.toList.drop 1) (({ tmps := (⟨vc⟩ : Array Value) ++ Array.replicate (gn.ntmps - (⟨vc⟩ : Array Value).size) undef, defers := [] } : Act).put o.dst v) w) :
  CallsDIn (aaW none) 0 P g ⟨vc⟩ u w fun e u1 w' => (∃ x, e = .returned x) ∧ u1 = u' ∧ K w' := by
 refine callsDIn_of_wpSIn hg hb trivial (fun c₀ cs hu => ?_)
 refine wpSIn_seq (wpSIn_region ?_)
 have hsz : 0 < ops.size := by
  have := (zw.1 h0).1
  simpa using this
 have ho0 : ops[0]? = some o := by rw [zU] at h0; exact h0
 have hlist : List.range ops.size = 0 :: List.range' 1 (ops.toList.drop 1).length := by
  rw [List.range_eq_range']
  obtain ⟨n, hn⟩ : ∃ n, ops.size = n + 1 := ⟨ops.size - 1, by omega⟩
  rw [hn, List.range'_succ]
  simp [hn]
 rw [hlist]
 obtain ⟨hr, hgu⟩ := aBR (P := P) hrec ({ tmps := (⟨vc⟩ : Array Value) ++ Array.replicate (gn.ntmps - (⟨vc⟩ : Array Value).size) undef, defers := [] } : Act).eval w
 have hw : Region.wanted o (yielded ops ((⟨vc⟩ : Array Value) ++ Array.replicate (gn.ntmps - (⟨vc⟩ : Array Value).size) undef)) = true := by simp [Region.wanted, hgu]
 have tail : ∀ (c1 : Frame), c1 = { c₀ with mode := u' } → wpOpsSIn (aaW none) 0 P ops (Exit.thenS (B.wpSIn (aaW none) 0 P (bodyPostS P gn c₀ cs (fun e u1 w' => (∃ x, e = .returned x) ∧ u1 = u' ∧ K w'))) (bodyPostS P gn c₀ cs (fun e u1 w' => (∃ x, e = .returned x) ∧ u1 = u' ∧ K w')))
   (List.range' 1 (ops.toList.drop 1).length) (({ tmps := (⟨vc⟩ : Array Value) ++ Array.replicate (gn.ntmps - (⟨vc⟩ : Array Value).size) undef, defers := [] } : Act).put o.dst v) (c1 :: cs) w := by
  intro c1 hc1
  refine az0 ?_ _ _ _ _ (aP9 (cs := c1 :: cs) (ops.toList.drop 1) 1 _ w rfl hsim h)
  rintro e a' cs' w' ⟨rfl, hq⟩
  cases e with
  | normal =>
   refine wpSIn_of_wpIn rfl (wpIn_mono hq ?_)
   rintro e a2 w2 ⟨he, hd, hK⟩
   have hR : (results gn a2.tmps).run P w2 = .ok (.tuple #[]) w2 := by simp [results, hres]
   rcases he with rfl | rfl
   ·exact ⟨hd, u', by rw [hc1], _, hR, ⟨_, rfl⟩, rfl, hK⟩
   ·exact ⟨hd, u', by rw [hc1], _, hR, ⟨_, rfl⟩, rfl, hK⟩
  | _ => exact hq.elim
 simp only [wpOpsSIn, ho0]
 refine ⟨fun _ _ => trivial, ?_⟩
 rw [if_pos hw, hr]
 cases hv with
 | none =>
  have e1 : recoverD (c₀ :: cs) = none := by simp [recoverD, hu]
  simp only [e1]
  exact tail c₀ (by cases c₀; simp only at hu; subst hu; rfl)
 | some v older =>
  have e1 : recoverD (c₀ :: cs) = some (v, { c₀ with mode := .panicking (⟨v, true, false⟩ :: older) } :: cs) := by simp [recoverD, hu]
  simp only [e1]
  exact tail _ rfl
end
open Go Go.RowKit
def aP3 (X : Act → World → Prop) (Q : Exit → Act → World → Prop) : Exit → Act → World → Prop
 | .normal, a, w => X a w
 | .exit i, a, w => Q (.exit i) a w
 | .goto l, a, w => Q (.goto l) a w
 | .ret, a, w => Q .ret a w
 | .panic ch, a, w => Q (.panic ch) a w
 | .outgrown, a, w => Q .outgrown a w
section
variable {P : Program} {ops : Array Oper} {F : Fence} {n : Nat}
theorem aEm {o : Oper} {a : Act} {w : World} {K : Act → World → Prop} {X : Act → World → Prop} {Q : Exit → Act → World → Prop} (h : o.wpIn F n P a w K (aP3 X Q)) : o.wpIn F n P a w K Q := by
 obtain ⟨h1, h2⟩ := h
 refine ⟨h1, ?_⟩
 generalize (o.semAt F.round a.eval).run P w = r at h2
 cases r with
 | ok x w' => cases x <;> exact h2
 | halt x w' => cases x <;> exact h2
theorem alI {Q : Exit → Act → World → Prop} {l2 : List Oper} : ∀ (l1 : List Oper) (a : Act) (w : World), wpListIn F n P ops (aP3 (wpListIn F n P ops Q l2) Q) l1 a w → wpListIn F n P ops Q (l1 ++ l2) a w
 | [], _, _, h => h
 | o :: rest, a, w, h => by
  simp only [xM, wpListIn] at h ⊢
  split at h
  ·rename_i hw
   rw [if_pos hw]
   exact aEm (Oper.wpIn_mono (fun a w => alI rest a w) h)
  ·rename_i hw
   rw [if_neg hw]
   exact ⟨h.1, alI rest _ _ h.2⟩
def auE (g : FuncId) (vc : List Value) : Deferred := { target := .fn (.func g) ⟨vc⟩, args := #[] }
theorem aFi {Q : Exit → Act → World → Prop} {o : Oper} {f : Operand} {ts : Array TypeId} {g : FuncId} {vc : List Value} {a : Act} {w : World} (ho : o.op = .defer { callee := .value f, args := #[], argTypes := ts }) (hg : o.guard = none)
  (hf : a.eval f = .func (.func g) #[] ⟨vc⟩) (h : Q .normal ({ a with defers := auE g vc :: a.defers }.put o.dst undef) w) : wpListIn (aaW none) 0 P ops Q [o] a w := by
 unfold wpListIn
 rw [if_pos (by simp [Region.wanted, hg])]
 refine ⟨fun _ _ => trivial, ?_⟩
 have hr : (execOp a.eval o).run P w = .ok (.defer (auE g vc)) w := by
  simp [execOp, ho, resolve, Deferred.ofValue, hf, auE]
 change Oper.uponIn (aaW none) 0 P o a (wpListIn (aaW none) 0 P ops Q []) Q ((execOp a.eval o).run P w)
 rw [hr]
 exact h
theorem auA {fn : Func} {tmps : Array Value} {R : Ending → World → Prop} {g : FuncId} {vc : List Value} {u u' : FrameMode} {w : World} {K : World → Prop} (hu : u ≠ .run) (he : acM P g = true)
  (hc : CallsDIn (aaW none) 0 P g ⟨vc⟩ u w fun e u1 w' => (∃ x, e = .returned x) ∧ u1 = u' ∧ K w') (h : ∀ w', K w' → LeavesIn (aaW none) 0 P fn tmps R [] (settle u') w') :
  LeavesInM (aaW none) 0 P fn tmps R [auE g vc] u w := by
 refine ⟨hu, Or.inr ⟨(fun h => by cases h), .func g, ⟨vc⟩, g, ⟨vc⟩, rfl, ?_, fun _ _ => trivial, ?_⟩⟩
 ·have := akE (P := P) (w := w) he ⟨vc⟩
  simpa [auE, invoke] using this
 ·refine hc.mono ?_
  rintro e u1 w' ⟨⟨x, rfl⟩, rfl, hK⟩
  exact h w' hK
end
open Go Go.RowKit
section
variable {C : Ctx} {P : Program} {G : World → Prop}
theorem SRel.wh {ρ : Nat → Nat} {σ : St} {a : Act} {w : World} (hs : SRel C ρ σ a w) (hlo : C.lo ≤ w.heap.size) {us : List Deferred} (hd : a.defers = us) : SRel (C.wh C.lo C.hlo us (some [])) ρ σ a w :=
 ⟨hs.m.wh, fun t => (hs.slots t).wh, hs.size, hlo, [], by rw [hd]; rfl, xU, fun _ h => (by cases h), fun x hx => Option.some.inj hx⟩
theorem au5 {ρ : Nat → Nat} {H : Heap} {w : World} {ch : List PanicEntry} {x : AV} (h : afQ ch = some x) : ∃ v, ch = [⟨v, false, false⟩] ∧ VR C ρ H w x v := by
 unfold afQ at h
 split at h
 ·rename_i v
  refine ⟨v, rfl, ?_⟩
  unfold ofValue at h
  split at h
  ·rename_i k kk n
   split at h
   ·rename_i hb
    rw [zl] at hb
    injection h with h
    subst h
    exact .ifc ⟨_, ⟨_, _, rfl, ⟨rfl, of_decide_eq_true hb.1, of_decide_eq_true hb.2⟩, rfl⟩, rfl⟩
   ·cases h
  ·rename_i k kk n
   split at h
   ·rename_i hb
    rw [zl] at hb
    injection h with h
    subst h
    exact .ifc ⟨_, ⟨rfl, of_decide_eq_true hb.1, of_decide_eq_true hb.2⟩, rfl⟩
   ·cases h
  ·cases h
 ·cases h
abbrev aBu := Nat → Code → St → (Exit → St → Prop) → Prop
def aQt (Y : aBu) (l : Nat) (B : Code) (K : Heap → Nat → Prop) : Fi → Prop
 | .go σ => Y l B σ fun e σ' => (e = .normal ∨ e = .ret) ∧ K σ'.H σ'.next
 | .pan _ _ => False
theorem aFE (hG : acS G) (hC : G C.w0) {Γ : Cons} (hΓ : Γ.ok P G) {call : abN} (hcall : CallSat P G call) {Y : aBu} (hY : ∀ l c σ Q, Y l c σ Q → Sat P G (some l) c σ Q) {g : FuncId} {gn : Func} {id : Nat} {ops : Array Oper} {o : Oper} {B : Code}
  (hg : P.funcs[g]? = some gn) (hb : gn.body = some (.seq (.region id ops false) B)) (h0 : ops.toList[0]? = some o) (hrec : ahJ o = true) (hsim : ∀ x ∈ ops.toList.drop 1, agF x = true) (hres : gn.results = #[])
  {ρ : Nat → Nat} {H : Heap} {next : Nat} {w : World} (hm : MRel C ρ H next w) {caps : List AV} {vc : List Value} (hcaps : VRs C ρ H w caps vc) (hn : Nat.ble caps.length gn.ntmps = true) {u u' : FrameMode} {v : Value} {x : AV} (hv : Rec u v u') (hx : VR C ρ H w x v)
  {K : Heap → Nat → Prop} (h : aa3 P Γ call ops (ops.toList.drop 1) (({ slots := acF 0 caps, H := H, next := next + 1, n := gn.ntmps } : St).put o.dst x) (aQt Y next B K)) :
  CallsDIn (aaW none) 0 P g ⟨vc⟩ u w fun e u1 w' => (∃ r, e = .returned r) ∧ u1 = u' ∧ ∃ ρ' H' n', K H' n' ∧ MRel C ρ' H' n' w' ∧ Fr C next ρ H w ρ' H' w' ∧ next ≤ n' := by
 have hw0 : C.w0.heap.size ≤ w.heap.size := hm.below.size
 have hne : next ∉ H.keys := fun hk => absurd (hm.lt _ hk) (xp _)
 refine ayA (K := fun w' => ∃ ρ' H' n', K H' n' ∧ MRel C ρ' H' n' w' ∧ Fr C next ρ H w ρ' H' w' ∧ next ≤ n') hg hb h0 hrec hsim hres hv ?_
 have hs0 := asQ (C := C.at w.heap.size hw0) rfl rfl (hm.mono (yR next)).at (zj _) hcaps.at (Nat.le_of_ble_eq_true hn)
 have hs1 := (hs0.put (dst := o.dst) (by exact hx.at)).wh (us := []) (zj _) (by rw [adR])
 refine ac8 (C := (C.at w.heap.size hw0).wh (C.at w.heap.size hw0).lo (C.at w.heap.size hw0).hlo [] (some [])) hG hC hΓ hcall _ hs1 h (fun a' w' hr => ?_) (fun ch a' w' hr => ?_) none
 ·obtain ⟨ρ', σ', h1, h2, h3, h4⟩ := hr
  rw [St.put_H, St.put_next] at h3
  rw [St.put_next] at h4
  have h4 : next + 1 ≤ σ'.next := h4
  have hnk : next ∉ σ'.H.keys := fun hk => hne (h3.keys next (yp _) hk).1
  refine wpIn_mono (hY _ B σ' _ h1 ((C.at w.heap.size hw0).wh (C.at w.heap.size hw0).lo (C.at w.heap.size hw0).hlo [] (some [])) hC ρ' a' w' h2 none ⟨h4, fun hk => absurd hk hnk⟩) ?_
  rintro e a2 w2 ⟨ρ2, σ2, ⟨he, hK⟩, g2, g3, g4⟩
  refine ⟨he, ?_, ρ2, σ2.H, σ2.next, hK, ?_, ?_, by omega⟩
  ·obtain ⟨-, ds, e1, -, -, e2⟩ := g2.defers
   have : ds = [] := e2 [] rfl
   subst this
   exact e1
  ·have q := MRel.wh (C := (C.at w.heap.size hw0).wh (C.at w.heap.size hw0).lo (C.at w.heap.size hw0).hlo [] (some [])) (n := C.lo) (hn := C.hlo) (us := C.us) (ms := C.mks) g2.m
   exact q
  ·have f := h3.trans h4 g3
   exact ⟨f.data, fun k hk hkm => f.keys k (Nat.lt_succ_of_lt hk) hkm, fun k e t l hk hkm hkn => f.rows k e t l (Nat.lt_succ_of_lt hk) hkm hkn, f.size⟩
 ·obtain ⟨ρ', σ', h1, h2, h3, h4⟩ := hr
  exact h1.elim
end
end Go.Vg
