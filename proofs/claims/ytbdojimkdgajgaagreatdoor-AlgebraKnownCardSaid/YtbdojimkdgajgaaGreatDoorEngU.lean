/-
  The engine, part U: a region whose order is open, as a whole. Own work; no condition.
-/
import Derived.Test.YtbdojimkdgajgaaGreatDoorEngT
namespace Go.Vg
open Go Go.RowKit

def cntL (ls : Nat → Bool) : Nat → Nat
  | 0 => 0
  | k + 1 => cntL ls k + (if ls k then 1 else 0)

theorem cntL_le (ls : Nat → Bool) : ∀ n, cntL ls n ≤ n
  | 0 => Nat.le_refl _
  | n + 1 => by have := cntL_le ls n; simp only [cntL]; split <;> omega

theorem cntL_lt {ls : Nat → Bool} {i : Nat} (hi : ls i = false) : ∀ {n}, i < n → cntL ls n < n
  | 0, h => by omega
  | n + 1, h => by
    simp only [cntL]
    by_cases hn : i = n
    · subst hn
      have := cntL_le ls i
      rw [hi]; simp; omega
    · have := cntL_lt hi (n := n) (by omega)
      split <;> omega

theorem cntL_add_ge {ls : Nat → Bool} {i : Nat} : ∀ {n}, n ≤ i → cntL (addL ls i) n = cntL ls n
  | 0, _ => rfl
  | n + 1, h => by
    simp only [cntL]
    rw [cntL_add_ge (n := n) (by omega)]
    simp [addL, show ¬ n = i by omega]

theorem cntL_add {ls : Nat → Bool} {i : Nat} (hi : ls i = false) : ∀ {n}, i < n → cntL (addL ls i) n = cntL ls n + 1
  | 0, h => by omega
  | n + 1, h => by
    simp only [cntL]
    by_cases hn : i = n
    · subst hn
      rw [cntL_add_ge (Nat.le_refl _), hi]
      simp [addL]
    · rw [cntL_add hi (n := n) (by omega)]
      simp [addL, show ¬ n = i by omega]
      omega

theorem cntL_split {ls : Nat → Bool} {m : Nat} (h1 : ∀ i, i < m → ls i = true) (h2 : ∀ i, m ≤ i → ls i = false) : ∀ {n}, cntL ls n = min n m
  | 0 => by simp [cntL]
  | n + 1 => by
    simp only [cntL]
    rw [cntL_split h1 h2 (n := n)]
    by_cases hn : n < m
    · rw [h1 n hn]; simp; omega
    · rw [h2 n (by omega)]; simp; omega

section
variable {C : Ctx} {P : Program} {G : World → Prop} {Γ : Cons} {ops : Array Oper}

theorem least_not {ls : Nat → Bool} : ∀ {m : Nat}, (∃ i, i < m ∧ ls i = false) → ∃ i, i < m ∧ ls i = false ∧ ∀ j, j < i → ls j = true
  | 0, ⟨i, h, _⟩ => by omega
  | m + 1, ⟨i, h, hi⟩ => by
    by_cases hex : ∃ i, i < m ∧ ls i = false
    · obtain ⟨k, h1, h2, h3⟩ := least_not hex
      exact ⟨k, by omega, h2, h3⟩
    · refine ⟨i, h, hi, fun j hj => ?_⟩
      cases hb : ls j with
      | true => rfl
      | false => exact absurd ⟨j, by omega, hb⟩ hex

theorem draw_core (hG : GMono G) (hC : G C.w0) (hΓ : Γ.ok P G) {call : CallT} (hcall : CallSat P G call) {Q : Exit → Act → World → Prop} {K : Fi → Prop} {ρ : Nat → Nat} {σ : St} {a : Act} {w : World}
    (hs : SRel C ρ σ a w) {sk : List (Nat × Nat)} (hskof : skOf σ (ops.toList.take (splitAt (masks ops.toList []))) σ.next (allocs P (ops.toList.take (splitAt (masks ops.toList []))) σ.next ++ σ.H) (ops.toList.take (splitAt (masks ops.toList []))) σ.next = some sk) (hpre : chkPre ops (ops.toList.take (splitAt (masks ops.toList []))) (ops.toList.take (splitAt (masks ops.toList []))) 0 = true)
    (hed : chkEdges ops.toList 0 = true) (htail : chkTail (splitAt (masks ops.toList [])) (masks ops.toList []) 0 = true) (hml : splitAt (masks ops.toList []) ≤ ops.toList.length) (hsnd : nodupB (sk.map (·.2)) = true) (hlaid : chkLaid (ops.toList.take (splitAt (masks ops.toList []))) σ.next sk = true) {z : St × List (Nat × Bk)}
    (hleaf : (preT P Γ ops sk (allocs P (ops.toList.take (splitAt (masks ops.toList []))) σ.next ++ σ.H) (lateH (ops.toList.take (splitAt (masks ops.toList []))) σ.next sk (allocs P (ops.toList.take (splitAt (masks ops.toList []))) σ.next ++ σ.H) (veil sk σ.H)) (ops.toList.take (splitAt (masks ops.toList []))) σ.next { σ with H := veil sk σ.H, next := σ.next + splitAt (masks ops.toList []) } []).Leaf z)
    (hex : execSeq P Γ call ops (ops.toList.drop (splitAt (masks ops.toList []))) (unveil (allocs P (ops.toList.take (splitAt (masks ops.toList []))) σ.next ++ σ.H) sk z) K) (hQ : ∀ a' w', Reach C σ ρ w (fun σ' => K (.go σ')) a' w' → Q .normal a' w') (hP : ∀ ch a' w', Reach C σ ρ w (fun σ' => K (.pan ch σ')) a' w' → Q (.panic ch) a' w') (rnd : Option Nat) :
    wpAnyIn (wideR rnd) 0 P .any ops Q ops.size (Array.replicate ops.size false) a { w with drawn := w.drawn + 1 } := by
  generalize hlg : ops.toList = l at *
  generalize hmg : splitAt (masks l []) = m at *
  have hxlt : ∀ k, k < σ.next → Heap.find (allocs P (l.take m) σ.next ++ σ.H) k = σ.H.find k := fun k hk => find_append_right (fun hm => by have := allocs_keys hm; omega)
  have hxnew : ∀ (i : Nat) (o : Oper) (e : TypeId) (zs : List AV), (l.take m)[i]? = some o → o.op = .alloc e → zeroAVs P e = some zs → Heap.find (allocs P (l.take m) σ.next ++ σ.H) (σ.next + i) = some (.vars e zs) := fun i o e zs h1 h2 h3 => allocs_find h1 h2 h3
  generalize allocs P (l.take m) σ.next ++ σ.H = Hs at *
  have hlen : l.length = ops.size := by rw [← hlg]; simp
  have hplen : (l.take m).length = m := by simp; omega
  obtain ⟨us, htr, hH1, hn1, hn2, hsts⟩ := preT_trace _ _ _ _ _ hleaf
  have hulen : us.length = m := by rw [htr.length, hplen]
  have hnd : z.1.H.keys.Nodup := preT_nodup _ _ _ _ _ _ hleaf (by show (veil sk σ.H).keys.Nodup; rw [veil_keys]; exact hs.m.nodup) (by show ∀ k ∈ (veil sk σ.H).keys, k < σ.next; rw [veil_keys]; exact hs.m.lt)
  obtain ⟨hsp1, hsp2⟩ := skOf_spec hskof
  have hskok : SkOk sk σ.next (l.take m) := ⟨nodupB_sound hsnd, hsp2, fun K' k hk => by obtain ⟨_, o, t, a, x, g1, g2, _⟩ := hsp1 K' k hk; exact ⟨o, t, a, x, g1, g2⟩, chkLaid_spec hlaid⟩
  -- the beginning
  obtain ⟨hmv, hextv⟩ := hs.m.reveal (H' := veil sk σ.H) (fun k => by rw [veil_keys]) (fun k e t l hk => veil_mem.2 ⟨_, hk, by cases skHas sk k <;> rfl⟩) (by rw [veil_keys]; exact hs.m.nodup) (fun k b hb => by
    obtain ⟨b', h1, h2⟩ := veil_mem.1 hb
    have hbr := hs.m.mem k b' h1
    subst h2
    cases skHas sk k with
    | false => exact hbr
    | true =>
      cases b' with
      | vars e cells => exact hbr.block
      | _ => exact hbr)
  obtain ⟨hmd, hextd⟩ := hmv.grow (w' := w.drew) ((Below.refl _ _).drew)
  have hstk : ∀ (j : Nat) (k : Nat) (b : Bk), us[j]? = some (.st k b) → (σ.next + j, k) ∈ sk := by
    intro j k b hj
    have hjl : j < (l.take m).length := by have := (List.getElem?_eq_some_iff.1 hj).1; omega
    obtain ⟨v', fj, _, h1, _, h3, _⟩ := htr.nth (i := j) (o := (l.take m)[j]) (by rw [List.getElem?_eq_getElem hjl])
    rw [hj] at h1
    injection h1 with h1
    subst h1
    exact skGet_mem h3.2.1
  have huv : (unveil Hs sk z).H = putBlocks (putBlocks z.1.H (olds Hs sk)) z.2 ∧ (unveil Hs sk z).slots = z.1.slots ∧ (unveil Hs sk z).next = z.1.next ∧ (unveil Hs sk z).n = z.1.n := by
    cases hsk0 : sk with
    | nil =>
      have : z.2 = [] := by
        apply List.eq_nil_iff_forall_not_mem.2
        intro x hx
        rcases (hsts x).1 hx with hx | ⟨j, u, h1, h2⟩
        · cases hx
        · cases u with
          | st k b => have := hstk j k b h1; rw [hsk0] at this; cases this
          | _ => cases h2
      simp only [unveil, olds, this, putBlocks, and_self]
    | cons y r => exact ⟨rfl, rfl, rfl, rfl⟩
  have hnewk : ∀ (j : Nat) (v : Out), us[j]? = some v → ∀ x ∈ v.new, x.1 = σ.next + j := by
    intro j v hj x hx
    have hjl : j < (l.take m).length := by have := (List.getElem?_eq_some_iff.1 hj).1; omega
    obtain ⟨v', fj, _, h1, _, h3, _⟩ := htr.nth (i := j) (o := (l.take m)[j]) (by rw [List.getElem?_eq_getElem hjl])
    rw [hj] at h1
    injection h1 with h1
    subst h1
    cases v with
    | ran r new =>
      rcases h3.2 with ⟨_, h3⟩ | ⟨_, _, _, _, _, rfl⟩
      · exact evM_keys h3 x hx
      · simp only [Out.new, List.mem_singleton] at hx; subst hx; rfl
    | skip => cases hx
    | st k b => cases hx
  have fin : ∀ (fuel : Nat) (listed : Array Bool) (a : Act) (w' : World), listed.size = ops.size → (∀ i, i < m → listed.getD i false = true) → (∀ j, m ≤ j → listed.getD j false = false) →
      AInv C ρ w.drew { σ with H := veil sk σ.H, next := σ.next + m } Hs sk σ.next (l.take m) us (fun i => listed.getD i false) a w' → ops.size - m ≤ fuel → wpAnyIn (wideR rnd) 0 P .any ops Q fuel listed a w' := by
    intro fuel listed a w' hsz hall hsuf hinv hfuel
    obtain ⟨ρ', Hd, hH, hm', hsl, hsz', hdf, hext, hski⟩ := hinv
    have hmem : ∀ x, x ∈ Hd ↔ x ∈ z.1.H := by
      intro x
      rw [hH, hH1]
      constructor
      · rintro (hx | ⟨j, u, h1, _, h3⟩)
        · exact Or.inl hx
        · exact Or.inr ⟨j, u, h1, h3⟩
      · rintro (hx | ⟨j, u, h1, h3⟩)
        · exact Or.inl hx
        · exact Or.inr ⟨j, u, h1, hall j (by have := (List.getElem?_eq_some_iff.1 h1).1; omega), h3⟩
    obtain ⟨hm1, hext1⟩ := hm'.perm hmem hnd
    have hkeys : ∀ k, k ∈ z.1.H.keys → k ∈ Hd.keys := fun k hk => by
      obtain ⟨x, hx, e⟩ := List.mem_map.1 hk
      exact List.mem_map.2 ⟨x, (hmem x).2 hx, e⟩
    have hanyk : ∀ K k, (K, k) ∈ sk → k ∈ z.1.H.keys → (k, Bk.any) ∈ z.1.H := fun K k hk hkk => by
      obtain ⟨_, e, cells, _, g⟩ := hski K k hk
      exact (hmem _).1 (g (hkeys k hkk)).1
    have hstsk : ∀ k b, (k, b) ∈ z.2 → ∃ j, us[j]? = some (.st k b) ∧ (σ.next + j, k) ∈ sk := by
      intro k b hkb
      rcases (hsts (k, b)).1 hkb with hx | ⟨j, u, h1, h2⟩
      · cases hx
      · cases u with
        | st k' b' =>
          have h2' : (k, b) ∈ [(k', b')] := h2
          simp only [List.mem_singleton] at h2'
          injection h2' with e1 e2
          subst e1; subst e2
          exact ⟨j, h1, hstk j _ _ h1⟩
        | ran r new => cases h2
        | skip => cases h2
    have hnd2 : (putBlocks (putBlocks z.1.H (olds Hs sk)) z.2).keys.Nodup := by rw [putBlocks_keys, putBlocks_keys]; exact hnd
    obtain ⟨hm2, hext2⟩ := hm1.reveal (H' := (unveil Hs sk z).H) (fun k => by rw [huv.1, putBlocks_keys, putBlocks_keys]) (fun k e t l hk => by
        rw [huv.1]
        have no : ∀ K, (K, k) ∉ sk := fun K hK => by have := Heap.mem_unique hnd hk (hanyk K k hK (mem_keys hk)); cases this
        refine putBlocks_other (putBlocks_other hk (fun b' hb' => ?_)) (fun b' hb' => ?_)
        · obtain ⟨⟨K, hK⟩, _⟩ := olds_mem.1 hb'; exact no K hK
        · obtain ⟨j, _, hK⟩ := hstsk k b' hb'; exact no _ hK) (by rw [huv.1]; exact hnd2) (fun k b hb => by
        have hkk : k ∈ Hd.keys := by
          have := mem_keys hb
          rw [huv.1, putBlocks_keys, putBlocks_keys] at this
          exact hkeys k this
        rw [huv.1] at hb
        rcases putBlocks_mem (by rw [putBlocks_keys]; exact hnd) hb with hb | ⟨hb1, hb2⟩
        · obtain ⟨j, h1, h2⟩ := hstsk k b hb
          obtain ⟨_, e, cells, _, g⟩ := hski _ _ h2
          have g := (g hkk).2
          rw [show σ.next + j - σ.next = j by omega] at g
          rcases g with ⟨b', g1, g2, g3⟩ | ⟨g1, g2⟩
          · rw [h1] at g1; injection g1 with g1; injection g1 with _ g1; subst g1
            exact g3.ext hext1 rfl
          · exfalso
            rcases g1 with g1 | g1
            · have := hall j (by have := (List.getElem?_eq_some_iff.1 h1).1; omega)
              have g1' : listed.getD j false = false := g1
              rw [this] at g1'; cases g1'
            · rw [h1] at g1; cases g1
        · rcases putBlocks_mem hnd hb2 with hb2 | ⟨hb3, hb4⟩
          · obtain ⟨⟨K, hK⟩, hf⟩ := olds_mem.1 hb2
            obtain ⟨h0, e, cells, hf', g⟩ := hski _ _ hK
            have g := (g hkk).2
            rw [hf] at hf'
            injection hf' with hf'
            subst hf'
            rcases g with ⟨b', g1, _, _⟩ | ⟨_, g2⟩
            · exact absurd ((hsts (k, b')).2 (Or.inr ⟨_, _, g1, List.mem_singleton.2 rfl⟩)) (hb1 b')
            · exact g2.ext hext1 rfl
          · exact hm1.mem k b hb4)
    have hs1 : SRel C ρ' (unveil Hs sk z) a w' := by
      refine ⟨by rw [huv.2.2.1, hn1]; exact hm2, fun t => ?_, by rw [huv.2.2.2, hn2]; exact hsz', (hdf.mono hext1.data hext1.size).mono hext2.data hext2.size⟩
      rw [huv.2.1]
      refine hext2.vr (hext1.vr (hsl t _ ?_))
      rcases htr.slot t with ⟨j, o, u, h1, h2, h3, h4, h5⟩ | ⟨h1, h2⟩
      · exact Or.inl ⟨j, o, u, h1, h2, h3, h4, hall j (by have := (List.getElem?_eq_some_iff.1 h2).1; omega), h5⟩
      · exact Or.inr ⟨fun j o hj hd hlt => absurd hlt (h1 j o hj hd), h2⟩
    have hfr : Fr C σ.next ρ σ.H w ρ' (unveil Hs sk z).H w' := (hextv.trans (hextd.trans (hext.trans (hext1.trans hext2)))).fr (fun k hk hkm => by
      rw [huv.1, putBlocks_keys, putBlocks_keys] at hkm
      obtain ⟨x, hx, e⟩ := List.mem_map.1 hkm
      rcases (hH1 x).1 hx with hx | ⟨j, u, h1, h3⟩
      · have : x.1 ∈ (veil sk σ.H).keys := List.mem_map.2 ⟨x, hx, rfl⟩
        rw [veil_keys] at this
        exact e ▸ this
      · have := hnewk j u h1 x h3
        omega)
    refine tail_any hG hC hΓ hcall hlg hed htail (l.drop m) m fuel listed rfl (Nat.le_refl _) (by simp; omega) hsz (fun i hi => ?_) hs1 hex (fun a'' w'' hr => hQ a'' w'' (hr.trans hfr (by rw [huv.2.2.1, hn1]; exact Nat.le_add_right _ _))) (fun ch a'' w'' hr => hP ch a'' w'' (hr.trans hfr (by rw [huv.2.2.1, hn1]; exact Nat.le_add_right _ _))) rnd
    by_cases him : i < m
    · rw [hall i him]; simp [him]
    · rw [hsuf i (by omega)]; simp [him]
  have key : ∀ (fuel : Nat) (listed : Array Bool) (a : Act) (w' : World), listed.size = ops.size → Closed l (fun i => listed.getD i false) → (∀ j, m ≤ j → listed.getD j false = false) →
      AInv C ρ w.drew { σ with H := veil sk σ.H, next := σ.next + m } Hs sk σ.next (l.take m) us (fun i => listed.getD i false) a w' → ops.size ≤ fuel + cntL (fun i => listed.getD i false) ops.size → wpAnyIn (wideR rnd) 0 P .any ops Q fuel listed a w' := by
    intro fuel
    induction fuel with
    | zero =>
      intro listed a w' hsz hcl hsuf hinv hcnt
      by_cases hall : ∃ i, i < m ∧ listed.getD i false = false
      · obtain ⟨i, hi, hi'⟩ := hall
        have := cntL_lt (ls := fun i => listed.getD i false) hi' (n := ops.size) (by omega)
        omega
      · have hall' : ∀ i, i < m → listed.getD i false = true := fun i hi => by
          cases hb : listed.getD i false with
          | true => rfl
          | false => exact absurd ⟨i, hi, hb⟩ hall
        have hc := cntL_split (ls := fun i => listed.getD i false) hall' hsuf (n := ops.size)
        exact fin 0 listed a w' hsz hall' hsuf hinv (by omega)
    | succ fuel ih =>
      intro listed a w' hsz hcl hsuf hinv hcnt
      by_cases hall : ∃ i, i < m ∧ listed.getD i false = false
      · have hlt : ∀ i, i < ops.size → listed.getD i true = listed.getD i false := by
          intro i hi
          rw [Array.getD_eq_getD_getElem?, Array.getD_eq_getD_getElem?, Array.getElem?_eq_getElem (by omega)]
          rfl
        refine ⟨fun hnil => ?_, fun i hi => ?_⟩
        · exfalso
          obtain ⟨i, hi1, hi2, hi3⟩ := least_not (ls := fun i => listed.getD i false) hall
          have hio : i < ops.size := by omega
          have hil : l[i]? = some ops[i] := by rw [← hlg]; simp [hio]
          have : i ∈ Region.ready .any ops listed := by
            unfold Region.ready
            rw [List.mem_filter]
            refine ⟨by simpa using hio, ?_⟩
            rw [hlt i hio, show listed.getD i false = false from hi2, Array.getElem?_eq_getElem hio]
            simp only [Option.map_some, Option.getD_some, Bool.not_false, Bool.true_and]
            rw [Array.all_eq_true_iff_forall_mem]
            intro e he
            cases hb : Region.binds .any e with
            | false => rfl
            | true =>
              have := chkEdges_spec hed hil e he hb
              rw [Nat.zero_add] at this
              have h3 : listed.getD e.on false = true := hi3 e.on this
              simp [h3]
          rw [hnil] at this
          cases this
        · unfold Region.ready at hi
          rw [List.mem_filter] at hi
          obtain ⟨h1, h2⟩ := hi
          have hio : i < ops.size := by simpa using h1
          have hil : l[i]? = some ops[i] := by rw [← hlg]; simp [hio]
          rw [hlt i hio, Array.getElem?_eq_getElem hio] at h2
          simp only [Bool.and_eq_true, Bool.not_eq_true', Option.map_some, Option.getD_some, Array.all_eq_true_iff_forall_mem] at h2
          obtain ⟨h3, h4⟩ := h2
          have hedge : ∀ e ∈ ops[i].after, binding e = true → listed.getD e.on false = true := by
            intro e he hb
            have := h4 e he
            unfold binding at hb
            rw [hb] at this
            simpa using this
          by_cases him : i < m
          · have hpi : (l.take m)[i]? = some ops[i] := by rw [List.getElem?_take, if_pos him]; exact hil
            refine AInv.step hG hC hΓ (l := l) (σ0 := { σ with H := veil sk σ.H, next := σ.next + m }) (base := σ.next) hlg (fun j p hp => by
              have hjm : j < m := by have := (List.getElem?_eq_some_iff.1 hp).1; omega
              rw [List.getElem?_take, if_pos hjm] at hp; exact hp) hskok htr hpre (by show (veil sk σ.H).keys.Nodup; rw [veil_keys]; exact hs.m.nodup) (by show ∀ k ∈ (veil sk σ.H).keys, k < σ.next; rw [veil_keys]; exact hs.m.lt) (by rw [hplen]; exact Nat.le_refl _) hxnew hcl hpi h3 hedge hinv (fun a'' w'' hinv'' => ?_) rnd
            have hfun : (fun j => (listed.setIfInBounds i true).getD j false) = addL (fun j => listed.getD j false) i := by
              funext j
              unfold addL
              by_cases hj : j = i
              · subst hj
                rw [if_pos rfl, Array.getD_eq_getD_getElem?, Array.getElem?_setIfInBounds_self_of_lt (by omega)]
                rfl
              · rw [if_neg hj, Array.getD_eq_getD_getElem?, Array.getElem?_setIfInBounds_ne (Ne.symm hj), ← Array.getD_eq_getD_getElem?]
            refine ih _ a'' w'' (by simp [hsz]) ?_ ?_ (by rw [hfun]; exact hinv'') ?_
            · rw [hfun]
              intro j o hj hlj e he hb
              unfold addL at hlj ⊢
              split
              · rfl
              · split at hlj
                · rename_i hji
                  subst hji
                  rw [hil] at hj
                  injection hj with hj
                  subst hj
                  exact hedge e he hb
                · exact hcl j o hj hlj e he hb
            · intro j hj
              have : (listed.setIfInBounds i true).getD j false = addL (fun j => listed.getD j false) i j := congrFun hfun j
              rw [this]
              unfold addL
              rw [if_neg (by omega)]
              exact hsuf j hj
            · rw [hfun, cntL_add h3 hio]
              omega
          · exfalso
            obtain ⟨k, hk1, hk2⟩ := hall
            obtain ⟨x, hx⟩ : ∃ x, (masks l [])[i]? = some x := ⟨_, List.getElem?_eq_getElem (by rw [(masks_prefix l []).2]; simp; omega)⟩
            have hxe := chkTail_spec htail hx (by omega)
            rw [Nat.zero_add] at hxe
            have := closed_bits hcl hed i _ hil hedge x k hx (by rw [hxe, Nat.testBit_two_pow_sub_one]; simp; omega)
            have this' : listed.getD k false = true := this
            rw [hk2] at this'
            cases this'
      · have hall' : ∀ i, i < m → listed.getD i false = true := fun i hi => by
          cases hb : listed.getD i false with
          | true => rfl
          | false => exact absurd ⟨i, hi, hb⟩ hall
        have hc := cntL_split (ls := fun i => listed.getD i false) hall' hsuf (n := ops.size)
        exact fin (fuel + 1) listed a w' hsz hall' hsuf hinv (by omega)
  refine key _ _ _ _ (by simp) ?_ ?_ ?_ (by omega)
  · intro j o _ hj
    exfalso
    have hj' : (Array.replicate ops.size false).getD j false = true := hj
    rw [Array.getD_eq_getD_getElem?] at hj'
    by_cases hjs : j < ops.size
    · simp [hjs] at hj'
    · simp [hjs] at hj'
  · intro j _
    rw [Array.getD_eq_getD_getElem?]
    by_cases hjs : j < ops.size
    · simp [hjs]
    · simp [hjs]
  · refine ⟨ρ, veil sk σ.H, fun x => ?_, hmd.mono (Nat.le_add_right _ _), fun t x hx => ?_, hs.size, (hs.defers.mono hextv.data hextv.size).mono hextd.data hextd.size, Ext.refl _ _ _ _, ?_⟩
    · constructor
      · exact Or.inl
      · rintro (hx | ⟨j, u, _, hj, _⟩)
        · exact hx
        · exfalso
          have hj' : (Array.replicate ops.size false).getD j false = true := hj
          rw [Array.getD_eq_getD_getElem?] at hj'
          by_cases hjs : j < ops.size
          · simp [hjs] at hj'
          · simp [hjs] at hj'
    · rcases hx with ⟨j, o, u, _, _, _, _, hj, _⟩ | ⟨_, hx⟩
      · exfalso
        have hj' : (Array.replicate ops.size false).getD j false = true := hj
        rw [Array.getD_eq_getD_getElem?] at hj'
        by_cases hjs : j < ops.size
        · simp [hjs] at hj'
        · simp [hjs] at hj'
      · rw [hx]; exact hextd.vr (hextv.vr (hs.slots t))
    · intro K' k hk
      obtain ⟨h0, o, t, a', x, g1, g2, e, cells, hf⟩ := hsp1 K' k hk
      refine ⟨h0, e, cells, hf, fun hkk => ?_⟩
      rw [veil_keys] at hkk
      rw [hxlt k (hs.m.lt k hkk)] at hf
      refine ⟨veil_mem.2 ⟨_, Heap.find_mem hf, by rw [skHas_iff.2 ⟨K', hk⟩]; rfl⟩, Or.inr ⟨Or.inl ?_, ?_⟩⟩
      · show (Array.replicate ops.size false).getD (K' - σ.next) false = false
        rw [Array.getD_eq_getD_getElem?]
        by_cases hjs : K' - σ.next < ops.size
        · simp [hjs]
        · simp [hjs]
      · exact ((hs.m.mem k _ (Heap.find_mem hf)).ext hextv rfl).ext hextd rfl

theorem execDraw_sound (hG : GMono G) (hC : G C.w0) (hΓ : Γ.ok P G) {call : CallT} (hcall : CallSat P G call) {Q : Exit → Act → World → Prop} {K : Fi → Prop} {ρ : Nat → Nat} {σ : St} {a : Act} {w : World}
    (hs : SRel C ρ σ a w) (h : execDraw P Γ call ops σ K) (hQ : ∀ a' w', Reach C σ ρ w (fun σ' => K (.go σ')) a' w' → Q .normal a' w') (hP : ∀ ch a' w', Reach C σ ρ w (fun σ' => K (.pan ch σ')) a' w' → Q (.panic ch) a' w') (rnd : Option Nat) :
    wpAnyIn (wideR rnd) 0 P .any ops Q ops.size (Array.replicate ops.size false) a { w with drawn := w.drawn + 1 } := by
  unfold execDraw at h
  simp only at h
  split at h
  · rename_i sk hskof
    split at h
    · rename_i hchk
      simp only [Bool.and_eq_true] at hchk
      obtain ⟨⟨⟨⟨⟨hpre, hed⟩, htail⟩, hml⟩, hsnd⟩, hlaid⟩ := hchk
      have hml := Nat.le_of_ble_eq_true hml
      obtain ⟨z, hleaf, hex⟩ := T.leaf h
      rw [veilS_eq] at hleaf
      exact draw_core hG hC hΓ hcall hs hskof hpre hed htail hml hsnd hlaid hleaf hex hQ hP rnd
    · exact h.elim
  · exact h.elim
end
end Go.Vg
