/-
  The engine, part N: appends and copies do what the evaluator says. Own work; no condition.
-/
import Derived.Test.YtbdojimkdgajgaaGreatDoorEngM
import Derived.Lib.AppendStr
import Derived.Lib.AppendZeros
namespace Go.Vg
open Go Go.RowKit

section
variable {C : Ctx} {ρ : Nat → Nat} {H : Heap} {w : World} {P : Program}

/-- A new row, made behind a draw. -/
theorem SRel.newRow {σ : St} {a : Act} (hs : SRel C ρ σ a w) {e : TypeId} {u : Ty} {xs : List u.T} {c : Array Value} {cap : Nat} {dst : Option Nat}
    (hr : RdL (Rd (Ok C ρ σ.H w) w u) xs (c.toList.take (xs.length * u.size))) (hlen : xs.length * u.size ≤ c.size) (hlim : xs.length ≤ lim) (h1 : ∀ v ∈ c.toList, v.oneCell' = true)
    (hcap : xs.length ≤ cap) (hmax : cap ≤ maxLen) (hsz : cap * u.size = c.size) :
    ∃ ρ', SRel C ρ' (({ σ with H := (σ.next, .row e u xs) :: σ.H, next := σ.next + 1 } : St).put dst (.own σ.next 0 xs.length)) (a.put dst (.slice (some ⟨w.heap.size, 0, none⟩) xs.length cap)) (w.drew.alloc (.cells c e)) ∧
      Fr C σ.next ρ σ.H w ρ' ((σ.next, .row e u xs) :: σ.H) (w.drew.alloc (.cells c e)) := by
  obtain ⟨hmd, hed⟩ := hs.m.grow (w' := w.drew) ((Below.refl _ _).drew)
  have hK : σ.next ∉ σ.H.keys := fun h => absurd (hs.m.lt _ h) (Nat.lt_irrefl _)
  obtain ⟨hm', hext⟩ := (hmd.mono (Nat.le_succ σ.next)).alloc (K := σ.next) (c := c) (e := e) (blk := .row e u xs) hK (Nat.lt_succ_self _) (fun ρ' H' w' he hh =>
    ⟨_, hh, hlen, hlim, RdL.mono (fun x cs => Rd.mono (fun b hb => by
      obtain ⟨h2, h3⟩ := he.data b ((hed.data b hb).1)
      exact ⟨h2, h3.trans (hed.data b hb).2⟩) u x cs) _ _ hr, h1⟩)
  have htr := hed.trans hext
  have hfr : Fr C σ.next ρ σ.H w (upd ρ σ.next w.heap.size) ((σ.next, .row e u xs) :: σ.H) (w.drew.alloc (.cells c e)) := htr.fr (fun k hk hm => by
    rcases List.mem_cons.1 hm with e | hm
    · exact absurd hk (by rw [e]; exact Nat.lt_irrefl _)
    · exact hm)
  refine ⟨_, (hs.frame hm' hfr (fun k hk => List.mem_cons_of_mem _ hk)).put ?_, hfr⟩
  refine .own (e := e) (t := u) (l := xs) (c := c) (fr := (0, 0)) (by simp) (by simp) hcap hmax ?_ (by rw [Nat.zero_add]; exact hsz) (Or.inl ?_)
  · show (w.drew.heap.push _)[upd ρ σ.next w.heap.size σ.next]? = _
    rw [upd_same]
    show (w.heap.push _)[w.heap.size]? = _
    simp
  · rw [upd_same]; simp

theorem St.put_H (σ : St) (dst : Option Nat) (x : AV) : (σ.put dst x).H = σ.H := by
  unfold St.put
  split
  · rfl
  · split <;> rfl
theorem St.put_next (σ : St) (dst : Option Nat) (x : AV) : (σ.put dst x).next = σ.next := by
  unfold St.put
  split
  · rfl
  · split <;> rfl

theorem up_id0 {H : Heap} {k : Nat} {b : Bk} (hn : H.keys.Nodup) (h : (k, b) ∈ H) : H.up k b = H := by
  induction H with
  | nil => rfl
  | cons x r ih =>
    obtain ⟨j, y⟩ := x
    have hn' := List.nodup_cons.1 hn
    simp only [Heap.up]
    cases hb : Nat.beq j k with
    | true =>
      have := beq_true hb; subst this
      rcases List.mem_cons.1 h with e | h
      · injection e with _ e; rw [e]
      · exact absurd (mem_keys h) hn'.1
    | false =>
      rcases List.mem_cons.1 h with e | h
      · injection e with e _; exact absurd e.symm (beq_false hb)
      · simp only [ih hn'.2 h]

/-- A value whose elements are appended: how the appending runs. -/
structure AppSrc (P : Program) (w : World) (t t2 ty e : TypeId) (i : TypeInfo) (z : Value) (vx : Value) (m : Nat) (cs : List Value) : Prop where
  zero : m = 0 → ∀ (b : Option Addr) (sLen sCap : Nat), sLen ≤ sCap → (Builtin.append_ #[t, t2] ty #[.slice b sLen sCap, vx]).run P w = .ok (.slice b sLen sCap) w
  first : 0 < m → (m : Int) ≤ 9223372036854775807 → m * i.bytes ≤ 281474976710656 → (Builtin.append_ #[t, t2] ty #[.slice none 0 0, vx]).run P w =
      .ok (.slice (some ⟨w.heap.size, 0, none⟩) m (grownCap w m 0 e)) (w.drew.alloc (.cells (cs.toArray ++ Builtin.zeroCells z.cells (grownCap w m 0 e - m)) e))
  room : 0 < m → ∀ (g sLen sCap : Nat) (cur : Array Value), w.heap[g]? = some (.cells cur e (0, 0)) → sLen + m ≤ sCap → sLen * i.size + cs.length ≤ cur.size →
      (Builtin.append_ #[t, t2] ty #[.slice (some ⟨g, 0, none⟩) sLen sCap, vx]).run P w =
        .ok (.slice (some ⟨g, 0, none⟩) (sLen + m) sCap) (w.setRow g (cur.toList.take (sLen * i.size) ++ cs ++ cur.toList.drop (sLen * i.size + cs.length)).toArray)
  grow : 0 < m → ∀ (b : Addr) (sLen sCap : Nat) (olds : List Value), olds.length = sLen * i.size → (∀ j v, olds[j]? = some v → w.cell? (b.add j) = some v) → sCap < sLen + m → ((sLen + m : Nat) : Int) ≤ 9223372036854775807 →
      Builtin.nextslicecap (sLen + m) sCap * i.bytes ≤ 281474976710656 → (Builtin.append_ #[t, t2] ty #[.slice (some b) sLen sCap, vx]).run P w =
        .ok (.slice (some ⟨w.heap.size, 0, none⟩) (sLen + m) (grownCap w (sLen + m) sCap e))
          (w.drew.alloc (.cells (olds.toArray ++ cs.toArray ++ Builtin.zeroCells z.cells (grownCap w (sLen + m) sCap e - (sLen + m))) e))

theorem appendX_sound {σ σ' : St} {a : Act} {dst : Option Nat} {t t2 ty e : TypeId} {i : TypeInfo} {z : Value} {zs : List AV} {u : Ty} {xs : List u.T} {cs : List Value} {k len : Nat} {vs vx : Value} (h : (appendX σ dst e i.bytes u xs k len).Leaf σ') (hs : SRel C ρ σ a w) (hvs : VR C ρ σ.H w (.ox k 0 len) vs)
    {mm : Nat} (hmm : mm = xs.length) (hsrc : AppSrc P w t t2 ty e i z vx mm cs) (hc1 : i.size = u.size) (hc2 : zs.length = u.size) (hc3 : 1 ≤ i.bytes) (hc4 : 1 ≤ u.size) (hz2 : z.cells.size = zs.length) (hz3 : ∀ v ∈ z.cells.toList, v.oneCell' = true)
    (hcs : RdL (Rd (Ok C ρ σ.H w) w u) xs cs) (hcl : cs.length = xs.length * u.size) (hlim : xs.length ≤ lim) (hcs1 : ∀ v ∈ cs, v.oneCell' = true) :
    ∃ v w' ρ', (Builtin.append_ #[t, t2] ty #[vs, vx]).run P w = .ok v w' ∧ SRel C ρ' σ' (a.put dst v) w' ∧ Fr C σ.next ρ σ.H w ρ' σ'.H w' ∧ σ.next ≤ σ'.next := by
  have hm := hs.m
  subst hmm
  unfold appendX at h
  split at h
  case h_2 => cases h
  rename_i e' u' l hf
  split at h
  case h_2 => cases h
  rename_i he
  have he := beq_true he
  subst he
  split at h
  case h_2 => cases h
  rename_i l' hl'
  obtain ⟨e2, e3⟩ := Ty.as_some hl'
  injection e2 with e2
  subst e2
  have e3' : l = l' := e3
  subst e3'
  cases h with
  | need hp h =>
    have hk := Heap.find_mem hf
    have hvs0 := hvs
    cases hvs with
    | ox hk' hl hmx hb hsz ha =>
      rename_i c fr
      have hun := Heap.mem_unique hm.nodup hk hk'
      injection hun with hu1 hu2 hu3
      subst hu1; subst hu2
      have hu3 := eq_of_heq hu3
      subst hu3
      have ha' := ha.resolve_right (fun h => h.2 rfl)
      rw [Nat.zero_mul] at ha'
      subst ha'
      rw [Nat.zero_add] at hl hsz
      by_cases hnil : xs = []
      · subst hnil
        cases h with
        | t h =>
          cases h
          exact ⟨_, w, ρ, hsrc.zero rfl (some ⟨ρ k, 0, none⟩) len len (Nat.le_refl _), hs.put hvs0, by rw [St.put_H]; exact Fr.refl _ _ _ _ _, by rw [St.put_next]; exact Nat.le_refl _⟩
      · have hbf : xs.isEmpty = false := by simp [hnil]
        rw [hbf] at h
        cases h with
        | f h =>
          cases h
          have hpos : 0 < xs.length := List.length_pos_iff.2 hnil
          obtain ⟨c0, d1, d2, d3, d4, d5⟩ := hm.mem k _ hk
          rw [hb] at d1
          injection d1 with d1
          injection d1 with d1 d1' d1''
          subst d1; subst d1''
          have hlenl : (l.take len).length = len := by simp; omega
          have hnew : (l.take len ++ xs).length = len + xs.length := by rw [List.length_append, hlenl]
          have hlsz : len * u'.size ≤ l.length * u'.size := Nat.mul_le_mul_right _ hl
          have holdr : RdL (Rd (Ok C ρ σ.H w) w u') (l.take len) (c.toList.take (len * u'.size)) := by
            have := RdL.take (fun x cs => Rd.length u' x cs) l _ len d4
            rwa [List.take_take, Nat.min_eq_left hlsz] at this
          have hallr : RdL (Rd (Ok C ρ σ.H w) w u') (l.take len ++ xs) (c.toList.take (len * u'.size) ++ cs) := RdL.append _ _ _ _ holdr hcs
          have hmul : (len + xs.length) * 1 ≤ (len + xs.length) * i.bytes := Nat.mul_le_mul_left _ hc3
          have hclen : (c.toList.take (len * u'.size)).length = len * u'.size := by simp; omega
          have holds : ∀ j y, (c.toList.take (len * u'.size))[j]? = some y → w.cell? ((⟨ρ k, 0, none⟩ : Addr).add j) = some y := by
            intro j y hj
            have hlt : j < (c.toList.take (len * u'.size)).length := (List.getElem?_eq_some_iff.1 hj).1
            rw [hclen] at hlt
            rw [List.getElem?_take, if_pos hlt, Array.getElem?_toList] at hj
            rw [add_mk]
            simp [World.cell?, hb, hj]
          have hrun := hsrc.grow hpos ⟨ρ k, 0, none⟩ len len (c.toList.take (len * u'.size)) (by rw [hclen, hc1]) holds (by omega) (by omega) (growslice_fits (by omega) hp)
          have hge := grownCap_ge w (len + xs.length) len e
          have hcm : grownCap w (len + xs.length) len e ≤ maxLen := grownCap_le_maxLen w (len + xs.length) len e (by unfold maxLen; omega)
          have htk : ((c.toList.take (len * u'.size)).toArray ++ cs.toArray ++ Builtin.zeroCells z.cells (grownCap w (len + xs.length) len e - (len + xs.length))).toList.take ((len + xs.length) * u'.size) = c.toList.take (len * u'.size) ++ cs := by
            simp only [Array.toList_append]
            rw [List.take_append_of_le_length (by rw [List.length_append, hclen, hcl, ← Nat.add_mul]; exact Nat.le_refl _)]
            rw [List.take_of_length_le (by rw [List.length_append, hclen, hcl, ← Nat.add_mul]; exact Nat.le_refl _)]
          obtain ⟨ρ', h5, h6⟩ := hs.newRow (e := e) (u := u') (xs := l.take len ++ xs) (c := (c.toList.take (len * u'.size)).toArray ++ cs.toArray ++ Builtin.zeroCells z.cells (grownCap w (len + xs.length) len e - (len + xs.length))) (cap := grownCap w (len + xs.length) len e) (dst := dst)
            (by rw [hnew, htk]; exact hallr)
            (by rw [hnew]; simp only [Array.size_append, List.size_toArray, hclen, hcl, ← Nat.add_mul]; exact Nat.le_add_right _ _)
            (by rw [hnew]; unfold lim; omega)
            (by
              intro v hv
              simp only [Array.toList_append, List.mem_append] at hv
              rcases hv with (hv | hv) | hv
              · exact d5 v (List.mem_of_mem_take hv)
              · exact hcs1 v hv
              · exact zeroCells_one hz3 v hv)
            (by rw [hnew]; exact hge) hcm
            (by simp only [Array.size_append, List.size_toArray, size_zeroCells, hclen, hcl, hz2, hc2, ← Nat.add_mul]; congr 1; omega)
          rw [hnew] at h5
          exact ⟨_, _, ρ', hrun, h5, by rw [St.put_H]; exact h6, by rw [St.put_next]; exact Nat.le_succ _⟩

theorem appendXs_sound {σ σ' : St} {a : Act} {dst : Option Nat} {t t2 ty e : TypeId} {i : TypeInfo} {z : Value} {zs : List AV} {u : Ty} {xs : List u.T} {cs : List Value} {s : AV} {vs vx : Value} (h : (appendXs σ dst e i.bytes u xs s).Leaf σ') (hs : SRel C ρ σ a w) (hvs : VR C ρ σ.H w s vs)
    {mm : Nat} (hmm : mm = xs.length) (hsrc : AppSrc P w t t2 ty e i z vx mm cs) (hc1 : i.size = u.size) (hc2 : zs.length = u.size) (hc3 : 1 ≤ i.bytes) (hc4 : 1 ≤ u.size) (hz2 : z.cells.size = zs.length) (hz3 : ∀ v ∈ z.cells.toList, v.oneCell' = true)
    (hcs : RdL (Rd (Ok C ρ σ.H w) w u) xs cs) (hcl : cs.length = xs.length * u.size) (hlim : xs.length ≤ lim) (hcs1 : ∀ v ∈ cs, v.oneCell' = true) :
    ∃ v w' ρ', (Builtin.append_ #[t, t2] ty #[vs, vx]).run P w = .ok v w' ∧ SRel C ρ' σ' (a.put dst v) w' ∧ Fr C σ.next ρ σ.H w ρ' σ'.H w' ∧ σ.next ≤ σ'.next := by
  have hm := hs.m
  subst hmm
  unfold appendXs at h
  split at h
  · cases hvs
    cases h with
    | need hp h =>
      by_cases hnil : xs = []
      · subst hnil
        cases h with
        | t h =>
          cases h
          exact ⟨_, w, ρ, hsrc.zero rfl none 0 0 (Nat.le_refl _), hs.put .nsl, by rw [St.put_H]; exact Fr.refl _ _ _ _ _, by rw [St.put_next]; exact Nat.le_refl _⟩
      · have hb : xs.isEmpty = false := by simp [hnil]
        rw [hb] at h
        cases h with
        | f h =>
          cases h
          have hpos : 0 < xs.length := List.length_pos_iff.2 hnil
          have hmul : xs.length * 1 ≤ xs.length * i.bytes := Nat.mul_le_mul_left _ hc3
          have hrun := hsrc.first hpos (by omega) (by omega)
          have hge := grownCap_ge w xs.length 0 e
          have hcm : grownCap w xs.length 0 e ≤ maxLen := grownCap_le_maxLen w xs.length 0 e (by unfold maxLen; omega)
          obtain ⟨ρ', h5, h6⟩ := hs.newRow (e := e) (u := u) (xs := xs) (c := cs.toArray ++ Builtin.zeroCells z.cells (grownCap w xs.length 0 e - xs.length)) (cap := grownCap w xs.length 0 e) (dst := dst)
            (by simp only [Array.toList_append]; rw [← hcl, List.take_left' (by simp)]; exact hcs)
            (by simp only [Array.size_append, List.size_toArray]; omega) hlim
            (by
              intro v hv
              simp only [Array.toList_append, List.mem_append] at hv
              rcases hv with hv | hv
              · exact hcs1 v hv
              · exact zeroCells_one hz3 v hv) hge hcm
            (by simp only [Array.size_append, List.size_toArray, size_zeroCells, hcl, hz2, hc2, ← Nat.add_mul]; congr 1; omega)
          exact ⟨_, _, ρ', hrun, h5, by rw [St.put_H]; exact h6, by rw [St.put_next]; exact Nat.le_succ _⟩
  · rename_i k len
    split at h
    · rename_i e' u' l hf
      split at h
      · rename_i he
        have he := beq_true he
        subst he
        split at h
        · rename_i l' hl'
          obtain ⟨e2, e3⟩ := Ty.as_some hl'
          injection e2 with e2
          subst e2
          have e3' : l = l' := e3
          subst e3'
          cases h with
          | need hp h =>
            cases h
            have hk := Heap.find_mem hf
            cases hvs with
            | own hk' hl hcp hmx hb hsz ha =>
              rename_i cap c fr
              have hun := Heap.mem_unique hm.nodup hk hk'
              injection hun with hu1 hu2 hu3
              subst hu1; subst hu2
              have hu3 := eq_of_heq hu3
              subst hu3
              have ha' := ha.resolve_right (fun h => h.2 rfl)
              rw [Nat.zero_mul] at ha'
              subst ha'
              rw [Nat.zero_add] at hl hsz
              obtain ⟨c0, d1, d2, d3, d4, d5⟩ := hm.mem k _ hk
              rw [hb] at d1
              injection d1 with d1
              injection d1 with d1 d1' d1''
              subst d1; subst d1''
              have hlenl : (l.take len).length = len := by simp; omega
              have hnew : (l.take len ++ xs).length = len + xs.length := by rw [List.length_append, hlenl]
              have hlsz : len * u'.size ≤ l.length * u'.size := Nat.mul_le_mul_right _ hl
              have holdr : RdL (Rd (Ok C ρ σ.H w) w u') (l.take len) (c.toList.take (len * u'.size)) := by
                have := RdL.take (fun x cs => Rd.length u' x cs) l _ len d4
                rwa [List.take_take, Nat.min_eq_left hlsz] at this
              have hallr : RdL (Rd (Ok C ρ σ.H w) w u') (l.take len ++ xs) (c.toList.take (len * u'.size) ++ cs) := RdL.append _ _ _ _ holdr hcs
              have hmul : (len + xs.length) * 1 ≤ (len + xs.length) * i.bytes := Nat.mul_le_mul_left _ hc3
              have hK : σ.next ∉ σ.H.keys := fun h => absurd (hm.lt _ h) (Nat.lt_irrefl _)
              have hclen : (c.toList.take (len * u'.size)).length = len * u'.size := by simp; omega
              -- what is shown of the new row, wherever it lies
              have fin : ∀ (B capn : Nat) (c' : Array Value) (w' : World), (B = ρ k ∨ w.heap.size ≤ B) → w.grownBy w' (some (ρ k)) → w'.heap[B]? = some (.cells c' e (0, 0)) →
                  c'.toList.take ((len + xs.length) * u'.size) = c.toList.take (len * u'.size) ++ cs → (len + xs.length) ≤ capn → capn ≤ maxLen → capn * u'.size = c'.size → (∀ v ∈ c'.toList, v.oneCell' = true) →
                  ∃ ρ', SRel C ρ' (({ σ with slots := mapSlots (neK k) dead σ.slots, H := (σ.next, .row e u' (l.take len ++ xs)) :: σ.H.keep (neK k) dead, next := σ.next + 1 } : St).put dst (.own σ.next 0 (len + xs.length)))
                      (a.put dst (.slice (some ⟨B, 0, none⟩) (len + xs.length) capn)) w' ∧ Fr C σ.next ρ σ.H w ρ' ((σ.next, .row e u' (l.take len ++ xs)) :: σ.H.keep (neK k) dead) w' := by
                intro B capn c' w' hB hg hbk htk hcap1 hcap2 hcap3 hone
                obtain ⟨m1, m2, m3⟩ := (hm.mono (Nat.le_succ σ.next)).swap (K := σ.next) (B := B) (l' := l.take len ++ xs) hk hK (Nat.lt_succ_self _) hB hg (fun ρ' H' hd => by
                  refine ⟨c', hbk, ?_, ?_, ?_, hone⟩
                  · rw [hnew, ← hcap3]; exact Nat.mul_le_mul_right _ hcap1
                  · rw [hnew]; unfold lim; omega
                  · rw [hnew, htk]; exact RdL.mono (fun x cs => Rd.mono hd u' x cs) _ _ hallr)
                refine ⟨_, (hs.keepTo m1 m2 (m3 _ (Nat.le_refl _)).data (m3 _ (Nat.le_refl _)).size).put ?_, m3 _ (Nat.le_refl _)⟩
                refine .own (e := e) (t := u') (l := l.take len ++ xs) (c := c') (fr := (0, 0)) (by simp) (by rw [hnew]; omega) hcap1 hcap2 (by rw [upd_same]; exact hbk) (by rw [Nat.zero_add]; exact hcap3) (Or.inl (by rw [upd_same]; simp))
              by_cases hnil : xs = []
              · subst hnil
                have hrun := hsrc.zero rfl (some ⟨ρ k, 0, none⟩) len cap hcp
                have hcs0 : cs = [] := List.eq_nil_of_length_eq_zero (by simpa using hcl)
                obtain ⟨ρ', h5, h6⟩ := fin (ρ k) cap c w (Or.inl rfl) ⟨rfl, rfl, rfl, Nat.le_refl _, fun _ _ _ => rfl⟩ hb (by simp [hcs0]) (by simpa using hcp) hmx hsz d5
                exact ⟨_, w, ρ', hrun, by simpa using h5, by rw [St.put_H]; exact h6, by rw [St.put_next]; exact Nat.le_succ _⟩
              · have hpos : 0 < xs.length := List.length_pos_iff.2 hnil
                by_cases hroom : len + xs.length ≤ cap
                · have hfit : len * i.size + cs.length ≤ c.size := by
                    rw [hcl, hc1, ← Nat.add_mul, ← hsz]; exact Nat.mul_le_mul_right _ hroom
                  have hrun := hsrc.room hpos (ρ k) len cap c hb hroom hfit
                  rw [hc1] at hrun
                  rw [hc1] at hfit
                  obtain ⟨ρ', h5, h6⟩ := fin (ρ k) cap (c.toList.take (len * u'.size) ++ cs ++ c.toList.drop (len * u'.size + cs.length)).toArray (w.setRow (ρ k) (c.toList.take (len * u'.size) ++ cs ++ c.toList.drop (len * u'.size + cs.length)).toArray) (Or.inl rfl) ⟨rfl, rfl, rfl, by simp, fun j _ hj => setRow_other _ _ _ _ (fun e => hj (by rw [e]))⟩
                    (setRow_heap _ _ _ _ _ _ hb) (by
                      rw [List.toList_toArray]
                      rw [List.take_append_of_le_length (by rw [List.length_append, hclen, hcl, ← Nat.add_mul]; exact Nat.le_refl _)]
                      rw [List.take_of_length_le (by rw [List.length_append, hclen, hcl, ← Nat.add_mul]; exact Nat.le_refl _)]) hroom hmx
                    (by rw [hsz]; simp; omega) (by
                      intro v hv
                      simp only [List.mem_append] at hv
                      rcases hv with (hv | hv) | hv
                      · exact d5 v (List.mem_of_mem_take hv)
                      · exact hcs1 v hv
                      · exact d5 v (List.mem_of_mem_drop hv))
                  exact ⟨_, _, ρ', hrun, h5, by rw [St.put_H]; exact h6, by rw [St.put_next]; exact Nat.le_succ _⟩
                · have holds : ∀ j y, (c.toList.take (len * u'.size))[j]? = some y → w.cell? ((⟨ρ k, 0, none⟩ : Addr).add j) = some y := by
                    intro j y hj
                    have hlt : j < (c.toList.take (len * u'.size)).length := (List.getElem?_eq_some_iff.1 hj).1
                    rw [hclen] at hlt
                    rw [List.getElem?_take, if_pos hlt, Array.getElem?_toList] at hj
                    rw [add_mk]
                    simp [World.cell?, hb, hj]
                  have hrun := hsrc.grow hpos ⟨ρ k, 0, none⟩ len cap (c.toList.take (len * u'.size)) (by rw [hclen, hc1]) holds (by omega) (by omega) (growslice_fits (by omega) hp)
                  have hge := grownCap_ge w (len + xs.length) cap e
                  have hcm : grownCap w (len + xs.length) cap e ≤ maxLen := grownCap_le_maxLen w (len + xs.length) cap e (by unfold maxLen; omega)
                  obtain ⟨ρ', h5, h6⟩ := fin w.heap.size (grownCap w (len + xs.length) cap e) ((c.toList.take (len * u'.size)).toArray ++ cs.toArray ++ Builtin.zeroCells z.cells (grownCap w (len + xs.length) cap e - (len + xs.length)))
                    (w.drew.alloc (.cells ((c.toList.take (len * u'.size)).toArray ++ cs.toArray ++ Builtin.zeroCells z.cells (grownCap w (len + xs.length) cap e - (len + xs.length))) e)) (Or.inr (Nat.le_refl _))
                    ⟨rfl, rfl, rfl, by simp, fun j hj _ => Below.heap_alloc w.drew _ j hj⟩ (by show (w.heap.push _)[w.heap.size]? = _; simp) (by
                      simp only [Array.toList_append]
                      rw [List.take_append_of_le_length (by rw [List.length_append, hclen, hcl, ← Nat.add_mul]; exact Nat.le_refl _)]
                      rw [List.take_of_length_le (by rw [List.length_append, hclen, hcl, ← Nat.add_mul]; exact Nat.le_refl _)]) hge hcm
                    (by simp only [Array.size_append, List.size_toArray, size_zeroCells, hclen, hcl, hz2, hc2, ← Nat.add_mul]; congr 1; omega) (by
                      intro v hv
                      simp only [Array.toList_append, List.mem_append] at hv
                      rcases hv with (hv | hv) | hv
                      · exact d5 v (List.mem_of_mem_take hv)
                      · exact hcs1 v hv
                      · exact zeroCells_one hz3 v hv)
                  exact ⟨_, _, ρ', hrun, h5, by rw [St.put_H]; exact h6, by rw [St.put_next]; exact Nat.le_succ _⟩
        · cases h
      · cases h
    · cases h
  · split at h
    case h_2 => cases h
    exact appendX_sound h hs hvs rfl hsrc hc1 hc2 hc3 hc4 hz2 hz3 hcs hcl hlim hcs1
  · cases h

theorem appendSt_sound {σ σ' : St} {a : Act} {dst : Option Nat} {t ty : TypeId} {s x : AV} {vs vx : Value} (h : (appendSt P σ dst t s x).Leaf σ') (hs : SRel C ρ σ a w) (hvs : VR C ρ σ.H w s vs) (hvx : VR C ρ σ.H w x vx) :
    ∃ v w' ρ', (Builtin.append_ #[t, t] ty #[vs, vx]).run P w = .ok v w' ∧ SRel C ρ' σ' (a.put dst v) w' ∧ Fr C σ.next ρ σ.H w ρ' σ'.H w' ∧ σ.next ≤ σ'.next := by
  have hm := hs.m
  unfold appendSt at h
  split at h
  · rename_i e hu
    split at h
    · rename_i i hi
      split at h
      · rename_i u zs hty hz
        split at h
        · rename_i hc
          simp only [Bool.and_eq_true] at hc
          obtain ⟨⟨⟨hc1, hc2⟩, hc3⟩, hc4⟩ := hc
          have hc1 := beq_true hc1
          have hc2 := beq_true hc2
          have hc3 := Nat.le_of_ble_eq_true hc3
          have hc4 := Nat.le_of_ble_eq_true hc4
          obtain ⟨z, hz1, hz2, hz3⟩ := zero_of hi hz
          split at h
          · rename_i xs hxs
            obtain ⟨ax, capx, cs, e1, hcs, hcl, hlim, hor⟩ := src_view hm hxs hvx
            subst e1
            have hcs1 := RdL.one (fun x cs => Rd.one u x cs) _ _ hcs
            refine appendXs_sound (t := t) (t2 := t) (ty := ty) (z := z) (zs := zs) h hs hvs rfl ⟨fun h0 b sLen sCap hle => ?_, fun hpos h63 h48 => ?_, fun hpos g sLen sCap cur hg hroom hfit => ?_, fun hpos b sLen sCap olds ho1 ho2 hgr h63 hfit => ?_⟩ hc1 hc2 hc3 hc4 hz2 hz3 hcs hcl hlim hcs1
            · rw [h0]; exact append_none hu hi b ax sLen sCap capx hle
            · obtain ⟨b, o, ha, hcell⟩ := hor.resolve_left (fun e => by rw [e] at hpos; simp at hpos)
              subst ha
              exact run_append_nil (P := P) w t ty e i z hu hi hz1 ⟨b, o, none⟩ xs.length capx cs (by rw [hcl, hc1]) hcell hpos h63 h48
            · obtain ⟨b, o, ha, hcell⟩ := hor.resolve_left (fun e => by rw [e] at hpos; simp at hpos)
              subst ha
              exact run_append_room (P := P) w t ty e i hu hi g sLen sCap cur hg ⟨b, o, none⟩ xs.length capx cs (by rw [hcl, hc1]) hcell hcs1 hroom hfit
            · obtain ⟨b', o, ha, hcell⟩ := hor.resolve_left (fun e => by rw [e] at hpos; simp at hpos)
              subst ha
              exact run_append_grow (P := P) w t ty e i z hu hi hz1 b sLen sCap olds ho1 ho2 ⟨b', o, none⟩ xs.length capx cs (by rw [hcl, hc1]) hcell hgr h63 hfit
          · cases h
        · cases h
      · cases h
    · cases h
  · cases h

theorem zeroCells_flat (z : Array Value) (n : Nat) : (Builtin.zeroCells z n).toList = flatRep z.toList n := madeCells_flat z n

theorem appendZ_sound {σ σ' : St} {a : Act} {dst : Option Nat} {t t2 ty : TypeId} {s x : AV} {vs vx : Value} (h : (appendZ P σ dst t t2 s x).Leaf σ') (hs : SRel C ρ σ a w) (hvs : VR C ρ σ.H w s vs) (hvx : VR C ρ σ.H w x vx) :
    ∃ v w' ρ', (Builtin.append_ #[t, t2] ty #[vs, vx]).run P w = .ok v w' ∧ SRel C ρ' σ' (a.put dst v) w' ∧ Fr C σ.next ρ σ.H w ρ' σ'.H w' ∧ σ.next ≤ σ'.next := by
  unfold appendZ at h
  split at h
  case h_2 => cases h
  rename_i e kn hu hu2
  split at h
  case h_2 => cases h
  rename_i i hi
  split at h
  case h_2 => cases h
  rename_i u zs hty hz
  split at h
  case h_2 => cases h
  rename_i y hp
  split at h
  case h_2 => cases h
  rename_i hc
  simp only [Bool.and_eq_true] at hc
  obtain ⟨⟨⟨hc1, hc2⟩, hc3⟩, hc4⟩ := hc
  have hc1 := beq_true hc1
  have hc2 := beq_true hc2
  have hc3 := Nat.le_of_ble_eq_true hc3
  have hc4 := Nat.le_of_ble_eq_true hc4
  obtain ⟨z, hz1, hz2, hz3⟩ := zero_of hi hz
  split at h
  case h_2 => cases h
  rename_i k n
  unfold appendZI at h
  cases h with
  | need hq h =>
    cases h
    cases hvs
    obtain ⟨en, -⟩ := int_value hvx
    subst en
    obtain ⟨m, rfl⟩ : ∃ m : Nat, n = (m : Int) := ⟨Int.toNat n, (Int.toNat_of_nonneg (Int.le_trans (by decide) hq.1)).symm⟩
    have hm0 : 0 < m := by have := hq.1; omega
    have hmb : m * i.bytes ≤ 140737488355328 := by
      have h2 : ((m * i.bytes : Nat) : Int) ≤ 140737488355328 := by rw [Int.natCast_mul]; exact hq.2
      omega
    have hm1 : m * 1 ≤ m * i.bytes := Nat.mul_le_mul_left _ hc3
    have hrun := Lib.run_append_nil_zeros (P := P) w t t2 ty e i z k kn hu hu2 hi hz1 m hm0 (by omega) (by omega) (by omega)
    have hge := grownCap_ge w m 0 e
    have hcm : grownCap w m 0 e ≤ maxLen := grownCap_le_maxLen w m 0 e (by unfold maxLen; omega)
    obtain ⟨z', hz1', hzr, hz3'⟩ := zeroAVs_sound (C := C) (ρ := ρ) (H := σ.H) (w := w) hz
    have hlz : z.cells.toList.length = u.size := by simp; omega
    have hzz : RdL (Rd (Ok C ρ σ.H w) w u) (List.replicate m y) (flatRep z.cells.toList m) := by
      have : z' = z := by
        have e1 : (zeroValue e).run P w = .ok z w := by simp [zeroValue, typeInfo, hi, hz1]
        rw [hz1'] at e1
        injection e1
      subst this
      obtain ⟨c1, c2, e1, hl, h2⟩ := pack_sound _ _ _ _ _ hp hzr
      cases h2
      simp only [List.append_nil] at e1
      rw [e1]
      exact RdL.replicate hl m
    have hlf : (flatRep z.cells.toList m).length = m * u.size := by rw [flatRep_length, hlz]
    obtain ⟨ρ', h5, h6⟩ := hs.newRow (e := e) (u := u) (xs := List.replicate m y) (c := Builtin.zeroCells z.cells m ++ Builtin.zeroCells z.cells (grownCap w m 0 e - m)) (cap := grownCap w m 0 e) (dst := dst)
      (by
        rw [List.length_replicate, Array.toList_append, zeroCells_flat, List.take_append_of_le_length (by rw [hlf]; exact Nat.le_refl _), List.take_of_length_le (by rw [hlf]; exact Nat.le_refl _)]
        exact hzz)
      (by rw [List.length_replicate]; simp only [Array.size_append, size_zeroCells, hz2, hc2]; exact Nat.le_add_right _ _)
      (by rw [List.length_replicate]; unfold lim; omega)
      (by
        intro v hv
        simp only [Array.toList_append, List.mem_append] at hv
        rcases hv with hv | hv
        · exact zeroCells_one hz3 v hv
        · exact zeroCells_one hz3 v hv)
      (by rw [List.length_replicate]; exact hge) hcm
      (by simp only [Array.size_append, size_zeroCells, hz2, hc2, ← Nat.add_mul]; congr 1; omega)
    rw [List.length_replicate] at h5
    exact ⟨_, _, ρ', hrun, by simpa using h5, by rw [St.put_H]; exact h6, by rw [St.put_next]; exact Nat.le_succ _⟩

theorem append_none_str {t t2 ty e : TypeId} {i : TypeInfo} (hu : P.underlying t = some (.slice e)) (hu2 : P.underlying t2 = some .string) (hi : P.info? e = some i) (b : Option Addr) (sLen sCap : Nat) (h : sLen ≤ sCap) :
    (Builtin.append_ #[t, t2] ty #[.slice b sLen sCap, .string ⟨⟨[]⟩⟩]).run P w = .ok (.slice b sLen sCap) w := by
  have hz : (⟨⟨[]⟩⟩ : ByteArray).size = 0 := rfl
  cases b <;> simp [Builtin.append_, run_underlying hu, run_underlying hu2, sizeOf, typeInfo, hi, Builtin.lenOf, hz, h, Builtin.firstCells, storeCells]

theorem appSrc_str {t t2 ty e : TypeId} {i : TypeInfo} {z : Value} {l : List UInt8} (hu : P.underlying t = some (.slice e)) (hu2 : P.underlying t2 = some .string) (hi : P.info? e = some i) (hc1 : i.size = 1) (hz1 : i.zero = some z) :
    AppSrc P w t t2 ty e i z (.string ⟨⟨l⟩⟩) l.length (l.map fun b => Value.int .u8 (b.toNat : Int)) := by
  have hsz : (⟨⟨l⟩⟩ : ByteArray).size = l.length := rfl
  have hsc : Lib.strCells ⟨⟨l⟩⟩ = l.map fun b => Value.int .u8 (b.toNat : Int) := rfl
  refine ⟨fun h0 b sLen sCap hle => ?_, fun hpos h63 h48 => ?_, fun hpos g sLen sCap cur hg hroom hfit => ?_, fun hpos b sLen sCap olds ho1 ho2 hgr h63 hfit => ?_⟩
  · rw [List.eq_nil_of_length_eq_zero h0]
    exact append_none_str hu hu2 hi b sLen sCap hle
  · have := run_append_nil_string (P := P) w t t2 ty e i z hu hu2 hi hz1 ⟨⟨l⟩⟩ hpos h63 h48
    rw [hsz] at this
    rw [this]
    congr 4
    simp
  · have := Lib.run_append_room_string (P := P) w t t2 ty e i hu hu2 hi hc1 g sLen sCap cur hg ⟨⟨l⟩⟩ hroom (by rw [hc1] at hfit; simpa [hsz] using hfit)
    rw [hsz, hsc] at this
    rw [this, hc1]
    simp
  · have := Lib.run_append_grow_string (P := P) w t t2 ty e i z hu hu2 hi hz1 b sLen sCap olds ho1 ho2 ⟨⟨l⟩⟩ hgr h63 hfit
    rw [hsz, hsc] at this
    exact this

theorem appendL_sound {σ σ' : St} {a : Act} {dst : Option Nat} {t t2 ty e : TypeId} {i : TypeInfo} {z : Value} {zs : List AV} {l : List UInt8} {s : AV} {vs : Value} (h : (appendXs σ dst e i.bytes (.int .u8) (bytesI l) s).Leaf σ') (hs : SRel C ρ σ a w) (hvs : VR C ρ σ.H w s vs)
    (hu : P.underlying t = some (.slice e)) (hu2 : P.underlying t2 = some .string) (hi : P.info? e = some i) (hc1 : i.size = 1) (hc2 : zs.length = 1) (hc3 : 1 ≤ i.bytes) (hz1 : i.zero = some z) (hz2 : z.cells.size = zs.length) (hz3 : ∀ v ∈ z.cells.toList, v.oneCell' = true) (hlim : l.length ≤ lim) :
    ∃ v w' ρ', (Builtin.append_ #[t, t2] ty #[vs, .string ⟨⟨l⟩⟩]).run P w = .ok v w' ∧ SRel C ρ' σ' (a.put dst v) w' ∧ Fr C σ.next ρ σ.H w ρ' σ'.H w' ∧ σ.next ≤ σ'.next := by
  have hlen : (bytesI l).length = l.length := by simp [bytesI]
  refine appendXs_sound (t := t) (t2 := t2) (ty := ty) (z := z) (zs := zs) (u := .int .u8) (xs := bytesI l) (cs := l.map fun b => Value.int .u8 (b.toNat : Int)) h hs hvs hlen.symm (appSrc_str hu hu2 hi hc1 hz1) hc1 hc2 hc3 (Nat.le_refl _) hz2 hz3 (rdl_bytes l) ?_ ?_ (fun v hv => by
    obtain ⟨b, _, rfl⟩ := List.mem_map.1 hv; rfl)
  · show (l.map _).length = (bytesI l).length * 1
    rw [hlen]; simp
  · show (bytesI l).length ≤ lim
    rw [hlen]; exact hlim

theorem appendStr_sound {σ σ' : St} {a : Act} {dst : Option Nat} {t t2 ty : TypeId} {s x : AV} {vs vx : Value} (h : (appendStr P σ dst t t2 s x).Leaf σ') (hs : SRel C ρ σ a w) (hvs : VR C ρ σ.H w s vs) (hvx : VR C ρ σ.H w x vx) :
    ∃ v w' ρ', (Builtin.append_ #[t, t2] ty #[vs, vx]).run P w = .ok v w' ∧ SRel C ρ' σ' (a.put dst v) w' ∧ Fr C σ.next ρ σ.H w ρ' σ'.H w' ∧ σ.next ≤ σ'.next := by
  unfold appendStr at h
  split at h
  · rename_i e hu hu2
    split at h
    · rename_i i hi
      split at h
      · rename_i zs hty hz
        split at h
        · rename_i hc
          simp only [Bool.and_eq_true] at hc
          obtain ⟨⟨hc1, hc2⟩, hc3⟩ := hc
          have hc1 := beq_true hc1
          have hc2 := beq_true hc2
          have hc3 := Nat.le_of_ble_eq_true hc3
          obtain ⟨z, hz1, hz2, hz3⟩ := zero_of hi hz
          split at h
          · rename_i l
            obtain ⟨e1, hlim⟩ := str_value hvx
            subst e1
            exact appendL_sound (ty := ty) h hs hvs hu hu2 hi hc1 hc2 hc3 hz1 hz2 hz3 hlim
          · cases h
        · cases h
      · cases h
    · cases h
  · cases h

theorem copySt_sound {σ σ' : St} {a : Act} {dst : Option Nat} {t t2 ty : TypeId} {d x : AV} {vd vx : Value} (h : (copySt P σ dst t d x).Leaf σ') (hs : SRel C ρ σ a w) (hvd : VR C ρ σ.H w d vd) (hvx : VR C ρ σ.H w x vx) :
    ∃ v w', (Builtin.copy_ #[t, t2] ty #[vd, vx]).run P w = .ok v w' ∧ SRel C ρ σ' (a.put dst v) w' ∧ Fr C σ.next ρ σ.H w ρ σ'.H w' ∧ σ'.next = σ.next := by
  have hm := hs.m
  unfold copySt at h
  split at h
  · rename_i e hu
    split at h
    · rename_i k off len
      split at h
      · rename_i e' u l hf
        split at h
        · rename_i n hn
          split at h
          · rename_i hb
            have hb := beq_true hb
            subst hb
            split at h
            · rename_i xs hxs
              cases h
              obtain ⟨ax, capx, cs, e1, hcs, hcl, hlim, hor⟩ := src_view hm hxs hvx
              subst e1
              obtain ⟨i, hi, hin⟩ : ∃ i, P.info? e = some i ∧ i.size = u.size := by
                unfold sizeAt at hn
                cases hq : P.info? e with
                | none => rw [hq] at hn; cases hn
                | some i => rw [hq] at hn; exact ⟨i, rfl, by simpa using hn⟩
              have hk := Heap.find_mem hf
              cases hvd with
              | own hk' hl hcp hmx hb hsz ha =>
                rename_i ad cap c fr
                have hun := Heap.mem_unique hm.nodup hk hk'
                injection hun with hu1 hu2 hu3
                subst hu1; subst hu2
                have hu3 := eq_of_heq hu3
                subst hu3
                obtain ⟨c0, d1, d2, d3, d4, d5⟩ := hm.mem k _ hk
                rw [hb] at d1
                injection d1 with d1
                injection d1 with d1 d1' d1''
                subst d1; subst d1''
                generalize hmn : min xs.length len = m
                have hmle : m ≤ len := by omega
                have hxt : (xs.take len).length = m := by simp; omega
                have hct : RdL (Rd (Ok C ρ σ.H w) w u) (xs.take len) (cs.take (m * u.size)) := by
                  have := RdL.take (fun x cs => Rd.length u x cs) xs _ m hcs
                  rwa [show xs.take m = xs.take len by rw [← hmn]; by_cases h : xs.length ≤ len
                                                       · rw [Nat.min_eq_left h, List.take_of_length_le (Nat.le_refl _), List.take_of_length_le h]
                                                       · rw [Nat.min_eq_right (by omega)]] at this
                have hctl : (cs.take (m * u.size)).length = m * u.size := by
                  rw [List.length_take, hcl]
                  have : m * u.size ≤ xs.length * u.size := Nat.mul_le_mul_right _ (by omega)
                  omega
                have hone := RdL.one (fun x cs => Rd.one u x cs) _ _ hct
                have hmx' : Nat.min xs.length len = m := hmn
                have hgo : VR C ρ σ.H w (lenI m) (goInt m) := vr_len (by omega)
                by_cases hm0 : m = 0
                · have hrun : (Builtin.copy_ #[t, t2] ty #[.slice ad len cap, .slice ax xs.length capx]).run P w = .ok (goInt 0) w := by
                    have hfc : (Builtin.firstCells u.size 0 (.slice ax xs.length capx)).run P w = .ok #[] w := by
                      cases ax <;> simp [Builtin.firstCells, loadCells, loadCellsFrom]
                    cases ad <;> simp [Builtin.copy_, run_underlying hu, Builtin.lenOf, sizeOf, typeInfo, hi, hin, hmx', hm0, hfc, storeCells]
                  have hxn : xs.take len = [] := List.eq_nil_of_length_eq_zero (by omega)
                  have hov : over l off (xs.take len) = l := by rw [hxn]; simp [over]
                  refine ⟨_, w, hrun, ?_, ?_, by rw [St.put_next]⟩
                  · have hup : σ.H.up k (.row e' u (over l off (xs.take len))) = σ.H := by rw [hov]; exact up_id0 hm.nodup hk
                    simp only [hup]
                    refine hs.put ?_
                    simpa [hm0] using hgo
                  · rw [St.put_H]
                    simp only [hov, up_id0 hm.nodup hk]
                    exact Fr.refl _ _ _ _ _
                · have hpos : 0 < xs.length := by omega
                  have hlenpos : 0 < len := by omega
                  obtain ⟨b, o, hax, hcell⟩ := hor.resolve_left (fun e => by rw [e] at hpos; simp at hpos)
                  subst hax
                  have ha' := ha.resolve_right (fun h => by omega)
                  subst ha'
                  have hmulm : (off + m) * u.size ≤ l.length * u.size := Nat.mul_le_mul_right _ (by omega)
                  rw [Nat.add_mul] at hmulm
                  have hfit : off * u.size + (cs.take (m * u.size)).length ≤ c.size := by rw [hctl]; omega
                  have hfc : (Builtin.firstCells u.size m (.slice (some ⟨b, o, none⟩) xs.length capx)).run P w = .ok (cs.take (m * u.size)).toArray w :=
                    run_firstCells_some (P := P) w u.size m ⟨b, o, none⟩ xs.length capx (cs.take (m * u.size)) hctl (fun j y hj => hcell j y (by
                      have hlt := (List.getElem?_eq_some_iff.1 hj).1
                      rw [hctl] at hlt
                      rwa [List.getElem?_take, if_pos hlt] at hj))
                  have hst := store_run (P := P) (vs := cs.take (m * u.size)) hb (o := off * u.size) hfit hone
                  have hrun : (Builtin.copy_ #[t, t2] ty #[.slice (some ⟨ρ k, off * u.size, none⟩) len cap, .slice (some ⟨b, o, none⟩) xs.length capx]).run P w = .ok (goInt m) (w.setRow (ρ k) ⟨over c.toList (off * u.size) (cs.take (m * u.size))⟩) := by
                    simp [Builtin.copy_, run_underlying hu, Builtin.lenOf, sizeOf, typeInfo, hi, hin, hmx', hfc, hst]
                  have hovl : (over l off (xs.take len)).length = l.length := over_length _ _ _ (by rw [hxt]; omega)
                  obtain ⟨hm', hext⟩ := hm.write (nb := .row e' u (over l off (xs.take len))) (c' := ⟨over c.toList (off * u.size) (cs.take (m * u.size))⟩) hk hb (by show c.size = (over c.toList _ _).length; rw [over_length _ _ _ (by simpa using hfit)]; simp)
                    (by intro e1 t1 l1 hh; injection hh with h1 h2 h3; subst h1; subst h2; have h3 := eq_of_heq h3; subst h3; exact ⟨_, rfl, by rw [hovl]; exact Nat.le_refl _⟩)
                    (fun H' w' he hh => by
                      refine ⟨_, hh, by rw [hovl]; show l.length * _ ≤ (over c.toList _ _).length; rw [over_length _ _ _ (by simpa using hfit)]; simpa using d2, by rw [hovl]; exact d3, ?_, fun v hv => ?_⟩
                      · rw [hovl]
                        show RdL _ _ ((over c.toList _ _).take _)
                        rw [(over_take c.toList (l.length * u.size) (off * u.size) (cs.take (m * u.size)) (by rw [hctl]; omega)).resolve_right (by simp; omega)]
                        exact RdL.over (fun x cs => Rd.length u x cs) _ _ _ _ _ (RdL.mono (fun x cs => Rd.mono he.data u x cs) _ _ d4) (RdL.mono (fun x cs => Rd.mono he.data u x cs) _ _ hct)
                      · rcases over_mem hv with hv | hv
                        · exact d5 v hv
                        · exact hone v hv)
                  have hfr := hext.fr (n := σ.next) (fun j _ hj => by rwa [Heap.keys_up] at hj)
                  refine ⟨_, _, hrun, (hs.frame hm' hfr (fun j hj => by rwa [Heap.keys_up])).put (hext.vr hgo), by rw [St.put_H]; exact hfr, by rw [St.put_next]⟩
            · cases h
          · cases h
        · cases h
      · cases h
    · cases h
  · cases h
end
end Go.Vg
