/-
  The engine, parts N O Q R S. Own work; no condition.
-/
import Derived.Test.YtbfajgbedclfeaaGreatDoorEB
import Derived.Lib.AppendStr
import Derived.Lib.AppendZeros
import Derived.RangeFuncNested
import Derived.OrdersIn
import Derived.TacticsIn
import Derived.Laws.Externs
import Derived.Tactics
namespace Go.Vg
open Go Go.RowKit

section
variable {C : Ctx} {ρ : Nat → Nat} {H : Heap} {w : World} {P : Program}

/-- A new row, made behind a draw. -/
theorem SRel.newRow {σ : St} {a : Act} (hs : SRel C ρ σ a w) {e : TypeId} {u : Ty} {xs : List u.T} {c : Array Value} {cap : Nat} {dst : Option Nat}
    (hr : RdL (Rd (Ok C ρ σ.H w) w u) xs (c.toList.take (xs.length * u.size))) (hlen : xs.length * u.size ≤ c.size) (hlim : xs.length ≤ lim) (h1 : ∀ v ∈ c.toList, v.oneCell' = true)
    (hcap : xs.length ≤ cap) (hmax : cap ≤ maxLen) (hsz : cap * u.size = c.size) :
    ∃ ρ', SRel C ρ' (({ σ with H := (σ.next, .row e u xs) :: σ.H, next := σ.next + 1 } : St).put dst (.own σ.next 0 xs.length)) (a.put dst (.slice (some ⟨w.heap.size, 0, none⟩) xs.length cap)) (w.drew.alloc (.cells c e)) ∧
      Fr C σ.next ρ σ.H w ρ' ((σ.next, .row e u xs) :: σ.H) (w.drew.alloc (.cells c e)) := by
  obtain ⟨hmd, hed⟩ := hs.m.grow (w' := w.drew) ((Below.refl _ _).drew)
  have hK : σ.next ∉ σ.H.keys := fun h => absurd (hs.m.lt _ h) (Nat.lt_irrefl _)
  obtain ⟨hm', hext⟩ := (hmd.mono (Nat.le_succ σ.next)).alloc (K := σ.next) (c := c) (e := e) (blk := .row e u xs) hK (Nat.lt_succ_self _) (fun ρ' H' w' he hh =>
    ⟨_, hh, hlen, hlim, RdL.mono (fun x cs => Rd.mono (fun b hb => by
      obtain ⟨h2, h3⟩ := he.data b ((hed.data b hb).1)
      exact ⟨h2, h3.trans (hed.data b hb).2⟩) u x cs) _ _ hr, h1⟩)
  have htr := hed.trans hext
  have hfr : Fr C σ.next ρ σ.H w (upd ρ σ.next w.heap.size) ((σ.next, .row e u xs) :: σ.H) (w.drew.alloc (.cells c e)) := htr.fr (fun k hk hm => by
    rcases List.mem_cons.1 hm with e | hm
    · exact absurd hk (by rw [e]; exact Nat.lt_irrefl _)
    · exact hm)
  refine ⟨_, (hs.frame hm' hfr (fun k hk => List.mem_cons_of_mem _ hk)).put ?_, hfr⟩
  refine .own (e := e) (t := u) (l := xs) (c := c) (fr := (0, 0)) (by simp) (by simp) hcap hmax ?_ (by rw [Nat.zero_add]; exact hsz) (Or.inl ?_)
  · show (w.drew.heap.push _)[upd ρ σ.next w.heap.size σ.next]? = _
    rw [upd_same]
    show (w.heap.push _)[w.heap.size]? = _
    simp
  · rw [upd_same]; simp

theorem St.put_H (σ : St) (dst : Option Nat) (x : AV) : (σ.put dst x).H = σ.H := by
  unfold St.put
  split
  · rfl
  · split <;> rfl
theorem St.put_next (σ : St) (dst : Option Nat) (x : AV) : (σ.put dst x).next = σ.next := by
  unfold St.put
  split
  · rfl
  · split <;> rfl

theorem up_id0 {H : Heap} {k : Nat} {b : Bk} (hn : H.keys.Nodup) (h : (k, b) ∈ H) : H.up k b = H := by
  induction H with
  | nil => rfl
  | cons x r ih =>
    obtain ⟨j, y⟩ := x
    have hn' := List.nodup_cons.1 hn
    simp only [Heap.up]
    cases hb : Nat.beq j k with
    | true =>
      have := beq_true hb; subst this
      rcases List.mem_cons.1 h with e | h
      · injection e with _ e; rw [e]
      · exact absurd (mem_keys h) hn'.1
    | false =>
      rcases List.mem_cons.1 h with e | h
      · injection e with e _; exact absurd e.symm (beq_false hb)
      · simp only [ih hn'.2 h]

/-- A value whose elements are appended: how the appending runs. -/
structure AppSrc (P : Program) (w : World) (t t2 ty e : TypeId) (i : TypeInfo) (z : Value) (vx : Value) (m : Nat) (cs : List Value) : Prop where
  zero : m = 0 → ∀ (b : Option Addr) (sLen sCap : Nat), sLen ≤ sCap → (Builtin.append_ #[t, t2] ty #[.slice b sLen sCap, vx]).run P w = .ok (.slice b sLen sCap) w
  first : 0 < m → (m : Int) ≤ 9223372036854775807 → m * i.bytes ≤ 281474976710656 → (Builtin.append_ #[t, t2] ty #[.slice none 0 0, vx]).run P w =
      .ok (.slice (some ⟨w.heap.size, 0, none⟩) m (grownCap w m 0 e)) (w.drew.alloc (.cells (cs.toArray ++ Builtin.zeroCells z.cells (grownCap w m 0 e - m)) e))
  room : 0 < m → ∀ (g sLen sCap : Nat) (cur : Array Value), w.heap[g]? = some (.cells cur e (0, 0)) → sLen + m ≤ sCap → sLen * i.size + cs.length ≤ cur.size →
      (Builtin.append_ #[t, t2] ty #[.slice (some ⟨g, 0, none⟩) sLen sCap, vx]).run P w =
        .ok (.slice (some ⟨g, 0, none⟩) (sLen + m) sCap) (w.setRow g (cur.toList.take (sLen * i.size) ++ cs ++ cur.toList.drop (sLen * i.size + cs.length)).toArray)
  grow : 0 < m → ∀ (b : Addr) (sLen sCap : Nat) (olds : List Value), olds.length = sLen * i.size → (∀ j v, olds[j]? = some v → w.cell? (b.add j) = some v) → sCap < sLen + m → ((sLen + m : Nat) : Int) ≤ 9223372036854775807 →
      Builtin.nextslicecap (sLen + m) sCap * i.bytes ≤ 281474976710656 → (Builtin.append_ #[t, t2] ty #[.slice (some b) sLen sCap, vx]).run P w =
        .ok (.slice (some ⟨w.heap.size, 0, none⟩) (sLen + m) (grownCap w (sLen + m) sCap e))
          (w.drew.alloc (.cells (olds.toArray ++ cs.toArray ++ Builtin.zeroCells z.cells (grownCap w (sLen + m) sCap e - (sLen + m))) e))

theorem appendX_sound {σ σ' : St} {a : Act} {dst : Option Nat} {t t2 ty e : TypeId} {i : TypeInfo} {z : Value} {zs : List AV} {u : Ty} {xs : List u.T} {cs : List Value} {k off len : Nat} {vs vx : Value} (h : (appendX σ dst e i.bytes u xs k off len).Leaf σ') (hs : SRel C ρ σ a w) (hvs : VR C ρ σ.H w (.ox k off len) vs)
    {mm : Nat} (hmm : mm = xs.length) (hsrc : AppSrc P w t t2 ty e i z vx mm cs) (hc1 : i.size = u.size) (hc2 : zs.length = u.size) (hc3 : 1 ≤ i.bytes) (hc4 : 1 ≤ u.size) (hz2 : z.cells.size = zs.length) (hz3 : ∀ v ∈ z.cells.toList, v.oneCell' = true)
    (hcs : RdL (Rd (Ok C ρ σ.H w) w u) xs cs) (hcl : cs.length = xs.length * u.size) (hlim : xs.length ≤ lim) (hcs1 : ∀ v ∈ cs, v.oneCell' = true) :
    ∃ v w' ρ', (Builtin.append_ #[t, t2] ty #[vs, vx]).run P w = .ok v w' ∧ SRel C ρ' σ' (a.put dst v) w' ∧ Fr C σ.next ρ σ.H w ρ' σ'.H w' ∧ σ.next ≤ σ'.next := by
  have hm := hs.m
  subst hmm
  unfold appendX at h
  split at h
  case h_2 => cases h
  rename_i e' u' l hf
  split at h
  case h_2 => cases h
  rename_i he
  have he := beq_true he
  subst he
  split at h
  case h_2 => cases h
  rename_i l' hl'
  obtain ⟨e2, e3⟩ := Ty.as_some hl'
  injection e2 with e2
  subst e2
  have e3' : l = l' := e3
  subst e3'
  cases h with
  | need hp h =>
    have hk := Heap.find_mem hf
    have hvs0 := hvs
    cases hvs with
    | ox hk' hl hmx hb hsz ha =>
      rename_i c fr
      have hun := Heap.mem_unique hm.nodup hk hk'
      injection hun with hu1 hu2 hu3
      subst hu1; subst hu2
      have hu3 := eq_of_heq hu3
      subst hu3
      by_cases hnil : xs = []
      · subst hnil
        cases h with
        | t h =>
          cases h
          exact ⟨_, w, ρ, hsrc.zero rfl _ len len (Nat.le_refl _), hs.put hvs0, by rw [St.put_H]; exact Fr.refl _ _ _ _ _, by rw [St.put_next]; exact Nat.le_refl _⟩
      · have hbf : xs.isEmpty = false := by simp [hnil]
        rw [hbf] at h
        cases h with
        | f h =>
          cases h
          have hpos : 0 < xs.length := List.length_pos_iff.2 hnil
          obtain ⟨c0, d1, d2, d3, d4, d5⟩ := hm.mem k _ hk
          rw [hb] at d1
          injection d1 with d1
          injection d1 with d1 d1' d1''
          subst d1; subst d1''
          have hlenl : ((l.drop off).take len).length = len := by simp; omega
          have hnew : ((l.drop off).take len ++ xs).length = len + xs.length := by rw [List.length_append, hlenl]
          have hlsz : off * u'.size + len * u'.size ≤ l.length * u'.size := by rw [← Nat.add_mul]; exact Nat.mul_le_mul_right _ hl
          have holdr : RdL (Rd (Ok C ρ σ.H w) w u') ((l.drop off).take len) ((c.toList.drop (off * u'.size)).take (len * u'.size)) := by
            have := RdL.take (fun x cs => Rd.length u' x cs) _ _ len (RdL.drop (fun x cs => Rd.length u' x cs) l _ off d4)
            rwa [List.drop_take, List.take_take, Nat.min_eq_left (by omega)] at this
          have hallr : RdL (Rd (Ok C ρ σ.H w) w u') ((l.drop off).take len ++ xs) ((c.toList.drop (off * u'.size)).take (len * u'.size) ++ cs) := RdL.append _ _ _ _ holdr hcs
          have hmul : (len + xs.length) * 1 ≤ (len + xs.length) * i.bytes := Nat.mul_le_mul_left _ hc3
          have hclen : ((c.toList.drop (off * u'.size)).take (len * u'.size)).length = len * u'.size := by simp; omega
          have hrun : ∀ ad : Option Addr, (ad = some ⟨ρ k, off * u'.size, none⟩ ∨ len = 0 ∧ off ≠ 0) → (Builtin.append_ #[t, t2] ty #[.slice ad len len, vx]).run P w =
              .ok (.slice (some ⟨w.heap.size, 0, none⟩) (len + xs.length) (grownCap w (len + xs.length) len e))
                (w.drew.alloc (.cells (((c.toList.drop (off * u'.size)).take (len * u'.size)).toArray ++ cs.toArray ++ Builtin.zeroCells z.cells (grownCap w (len + xs.length) len e - (len + xs.length))) e)) := by
            intro ad ha
            cases ad with
            | none =>
              have h0 : len = 0 := (ha.resolve_left (by simp)).1
              subst h0
              rw [Nat.zero_add] at hp hmul
              have := hsrc.first hpos (by omega) (by omega)
              simpa using this
            | some b =>
              refine hsrc.grow hpos b len len _ (by rw [hclen, hc1]) ?_ (by omega) (by omega) (growslice_fits (by omega) hp)
              intro j y hj
              have hlt : j < ((c.toList.drop (off * u'.size)).take (len * u'.size)).length := (List.getElem?_eq_some_iff.1 hj).1
              rw [hclen] at hlt
              rcases ha with ha | ⟨h0, _⟩
              · injection ha with ha
                subst ha
                rw [List.getElem?_take, if_pos hlt, List.getElem?_drop, Array.getElem?_toList] at hj
                rw [add_mk]
                simp [World.cell?, hb, hj]
              · subst h0
                omega
          have hrun := hrun _ ha
          have hge := grownCap_ge w (len + xs.length) len e
          have hcm : grownCap w (len + xs.length) len e ≤ maxLen := grownCap_le_maxLen w (len + xs.length) len e (by unfold maxLen; omega)
          have htk : (((c.toList.drop (off * u'.size)).take (len * u'.size)).toArray ++ cs.toArray ++ Builtin.zeroCells z.cells (grownCap w (len + xs.length) len e - (len + xs.length))).toList.take ((len + xs.length) * u'.size) = (c.toList.drop (off * u'.size)).take (len * u'.size) ++ cs := by
            simp only [Array.toList_append]
            rw [List.take_append_of_le_length (by rw [List.length_append, hclen, hcl, ← Nat.add_mul]; exact Nat.le_refl _)]
            rw [List.take_of_length_le (by rw [List.length_append, hclen, hcl, ← Nat.add_mul]; exact Nat.le_refl _)]
          obtain ⟨ρ', h5, h6⟩ := hs.newRow (e := e) (u := u') (xs := (l.drop off).take len ++ xs) (c := ((c.toList.drop (off * u'.size)).take (len * u'.size)).toArray ++ cs.toArray ++ Builtin.zeroCells z.cells (grownCap w (len + xs.length) len e - (len + xs.length))) (cap := grownCap w (len + xs.length) len e) (dst := dst)
            (by rw [hnew, htk]; exact hallr)
            (by rw [hnew]; simp only [Array.size_append, List.size_toArray, hclen, hcl, ← Nat.add_mul]; exact Nat.le_add_right _ _)
            (by rw [hnew]; unfold lim; omega)
            (by
              intro v hv
              simp only [Array.toList_append, List.mem_append] at hv
              rcases hv with (hv | hv) | hv
              · exact d5 v (List.mem_of_mem_drop (List.mem_of_mem_take hv))
              · exact hcs1 v hv
              · exact zeroCells_one hz3 v hv)
            (by rw [hnew]; exact hge) hcm
            (by simp only [Array.size_append, List.size_toArray, size_zeroCells, hclen, hcl, hz2, hc2, ← Nat.add_mul]; congr 1; omega)
          rw [hnew] at h5
          exact ⟨_, _, ρ', hrun, h5, by rw [St.put_H]; exact h6, by rw [St.put_next]; exact Nat.le_succ _⟩

theorem appendXs_sound {σ σ' : St} {a : Act} {dst : Option Nat} {t t2 ty e : TypeId} {i : TypeInfo} {z : Value} {zs : List AV} {u : Ty} {xs : List u.T} {cs : List Value} {s : AV} {vs vx : Value} (h : (appendXs σ dst e i.bytes u xs s).Leaf σ') (hs : SRel C ρ σ a w) (hvs : VR C ρ σ.H w s vs)
    {mm : Nat} (hmm : mm = xs.length) (hsrc : AppSrc P w t t2 ty e i z vx mm cs) (hc1 : i.size = u.size) (hc2 : zs.length = u.size) (hc3 : 1 ≤ i.bytes) (hc4 : 1 ≤ u.size) (hz2 : z.cells.size = zs.length) (hz3 : ∀ v ∈ z.cells.toList, v.oneCell' = true)
    (hcs : RdL (Rd (Ok C ρ σ.H w) w u) xs cs) (hcl : cs.length = xs.length * u.size) (hlim : xs.length ≤ lim) (hcs1 : ∀ v ∈ cs, v.oneCell' = true) :
    ∃ v w' ρ', (Builtin.append_ #[t, t2] ty #[vs, vx]).run P w = .ok v w' ∧ SRel C ρ' σ' (a.put dst v) w' ∧ Fr C σ.next ρ σ.H w ρ' σ'.H w' ∧ σ.next ≤ σ'.next := by
  have hm := hs.m
  subst hmm
  unfold appendXs at h
  split at h
  · cases hvs
    cases h with
    | need hp h =>
      by_cases hnil : xs = []
      · subst hnil
        cases h with
        | t h =>
          cases h
          exact ⟨_, w, ρ, hsrc.zero rfl none 0 0 (Nat.le_refl _), hs.put .nsl, by rw [St.put_H]; exact Fr.refl _ _ _ _ _, by rw [St.put_next]; exact Nat.le_refl _⟩
      · have hb : xs.isEmpty = false := by simp [hnil]
        rw [hb] at h
        cases h with
        | f h =>
          cases h
          have hpos : 0 < xs.length := List.length_pos_iff.2 hnil
          have hmul : xs.length * 1 ≤ xs.length * i.bytes := Nat.mul_le_mul_left _ hc3
          have hrun := hsrc.first hpos (by omega) (by omega)
          have hge := grownCap_ge w xs.length 0 e
          have hcm : grownCap w xs.length 0 e ≤ maxLen := grownCap_le_maxLen w xs.length 0 e (by unfold maxLen; omega)
          obtain ⟨ρ', h5, h6⟩ := hs.newRow (e := e) (u := u) (xs := xs) (c := cs.toArray ++ Builtin.zeroCells z.cells (grownCap w xs.length 0 e - xs.length)) (cap := grownCap w xs.length 0 e) (dst := dst)
            (by simp only [Array.toList_append]; rw [← hcl, List.take_left' (by simp)]; exact hcs)
            (by simp only [Array.size_append, List.size_toArray]; omega) hlim
            (by
              intro v hv
              simp only [Array.toList_append, List.mem_append] at hv
              rcases hv with hv | hv
              · exact hcs1 v hv
              · exact zeroCells_one hz3 v hv) hge hcm
            (by simp only [Array.size_append, List.size_toArray, size_zeroCells, hcl, hz2, hc2, ← Nat.add_mul]; congr 1; omega)
          exact ⟨_, _, ρ', hrun, h5, by rw [St.put_H]; exact h6, by rw [St.put_next]; exact Nat.le_succ _⟩
  · rename_i k len
    split at h
    · rename_i e' u' l hf
      split at h
      · rename_i he
        have he := beq_true he
        subst he
        split at h
        · rename_i l' hl'
          obtain ⟨e2, e3⟩ := Ty.as_some hl'
          injection e2 with e2
          subst e2
          have e3' : l = l' := e3
          subst e3'
          cases h with
          | need hp h =>
            cases h
            have hk := Heap.find_mem hf
            cases hvs with
            | own hk' hl hcp hmx hb hsz ha =>
              rename_i cap c fr
              have hun := Heap.mem_unique hm.nodup hk hk'
              injection hun with hu1 hu2 hu3
              subst hu1; subst hu2
              have hu3 := eq_of_heq hu3
              subst hu3
              have ha' := ha.resolve_right (fun h => h.2 rfl)
              rw [Nat.zero_mul] at ha'
              subst ha'
              rw [Nat.zero_add] at hl hsz
              obtain ⟨c0, d1, d2, d3, d4, d5⟩ := hm.mem k _ hk
              rw [hb] at d1
              injection d1 with d1
              injection d1 with d1 d1' d1''
              subst d1; subst d1''
              have hlenl : (l.take len).length = len := by simp; omega
              have hnew : (l.take len ++ xs).length = len + xs.length := by rw [List.length_append, hlenl]
              have hlsz : len * u'.size ≤ l.length * u'.size := Nat.mul_le_mul_right _ hl
              have holdr : RdL (Rd (Ok C ρ σ.H w) w u') (l.take len) (c.toList.take (len * u'.size)) := by
                have := RdL.take (fun x cs => Rd.length u' x cs) l _ len d4
                rwa [List.take_take, Nat.min_eq_left hlsz] at this
              have hallr : RdL (Rd (Ok C ρ σ.H w) w u') (l.take len ++ xs) (c.toList.take (len * u'.size) ++ cs) := RdL.append _ _ _ _ holdr hcs
              have hmul : (len + xs.length) * 1 ≤ (len + xs.length) * i.bytes := Nat.mul_le_mul_left _ hc3
              have hK : σ.next ∉ σ.H.keys := fun h => absurd (hm.lt _ h) (Nat.lt_irrefl _)
              have hclen : (c.toList.take (len * u'.size)).length = len * u'.size := by simp; omega
              -- what is shown of the new row, wherever it lies
              have fin : ∀ (B capn : Nat) (c' : Array Value) (w' : World), (B = ρ k ∨ w.heap.size ≤ B) → w.grownBy w' (some (ρ k)) → w'.heap[B]? = some (.cells c' e (0, 0)) →
                  c'.toList.take ((len + xs.length) * u'.size) = c.toList.take (len * u'.size) ++ cs → (len + xs.length) ≤ capn → capn ≤ maxLen → capn * u'.size = c'.size → (∀ v ∈ c'.toList, v.oneCell' = true) →
                  ∃ ρ', SRel C ρ' (({ σ with slots := mapSlots (neK k) dead σ.slots, H := (σ.next, .row e u' (l.take len ++ xs)) :: σ.H.keep (neK k) dead, next := σ.next + 1 } : St).put dst (.own σ.next 0 (len + xs.length)))
                      (a.put dst (.slice (some ⟨B, 0, none⟩) (len + xs.length) capn)) w' ∧ Fr C σ.next ρ σ.H w ρ' ((σ.next, .row e u' (l.take len ++ xs)) :: σ.H.keep (neK k) dead) w' := by
                intro B capn c' w' hB hg hbk htk hcap1 hcap2 hcap3 hone
                obtain ⟨m1, m2, m3⟩ := (hm.mono (Nat.le_succ σ.next)).swap (K := σ.next) (B := B) (l' := l.take len ++ xs) hk hK (Nat.lt_succ_self _) hB hg (fun ρ' H' hd => by
                  refine ⟨c', hbk, ?_, ?_, ?_, hone⟩
                  · rw [hnew, ← hcap3]; exact Nat.mul_le_mul_right _ hcap1
                  · rw [hnew]; unfold lim; omega
                  · rw [hnew, htk]; exact RdL.mono (fun x cs => Rd.mono hd u' x cs) _ _ hallr)
                refine ⟨_, (hs.keepTo m1 m2 (m3 _ (Nat.le_refl _)).data (m3 _ (Nat.le_refl _)).size).put ?_, m3 _ (Nat.le_refl _)⟩
                refine .own (e := e) (t := u') (l := l.take len ++ xs) (c := c') (fr := (0, 0)) (by simp) (by rw [hnew]; omega) hcap1 hcap2 (by rw [upd_same]; exact hbk) (by rw [Nat.zero_add]; exact hcap3) (Or.inl (by rw [upd_same]; simp))
              by_cases hnil : xs = []
              · subst hnil
                have hrun := hsrc.zero rfl (some ⟨ρ k, 0, none⟩) len cap hcp
                have hcs0 : cs = [] := List.eq_nil_of_length_eq_zero (by simpa using hcl)
                obtain ⟨ρ', h5, h6⟩ := fin (ρ k) cap c w (Or.inl rfl) ⟨rfl, rfl, rfl, Nat.le_refl _, fun _ _ _ => rfl⟩ hb (by simp [hcs0]) (by simpa using hcp) hmx hsz d5
                exact ⟨_, w, ρ', hrun, by simpa using h5, by rw [St.put_H]; exact h6, by rw [St.put_next]; exact Nat.le_succ _⟩
              · have hpos : 0 < xs.length := List.length_pos_iff.2 hnil
                by_cases hroom : len + xs.length ≤ cap
                · have hfit : len * i.size + cs.length ≤ c.size := by
                    rw [hcl, hc1, ← Nat.add_mul, ← hsz]; exact Nat.mul_le_mul_right _ hroom
                  have hrun := hsrc.room hpos (ρ k) len cap c hb hroom hfit
                  rw [hc1] at hrun
                  rw [hc1] at hfit
                  obtain ⟨ρ', h5, h6⟩ := fin (ρ k) cap (c.toList.take (len * u'.size) ++ cs ++ c.toList.drop (len * u'.size + cs.length)).toArray (w.setRow (ρ k) (c.toList.take (len * u'.size) ++ cs ++ c.toList.drop (len * u'.size + cs.length)).toArray) (Or.inl rfl) ⟨rfl, rfl, rfl, by simp, fun j _ hj => setRow_other _ _ _ _ (fun e => hj (by rw [e]))⟩
                    (setRow_heap _ _ _ _ _ _ hb) (by
                      rw [List.toList_toArray]
                      rw [List.take_append_of_le_length (by rw [List.length_append, hclen, hcl, ← Nat.add_mul]; exact Nat.le_refl _)]
                      rw [List.take_of_length_le (by rw [List.length_append, hclen, hcl, ← Nat.add_mul]; exact Nat.le_refl _)]) hroom hmx
                    (by rw [hsz]; simp; omega) (by
                      intro v hv
                      simp only [List.mem_append] at hv
                      rcases hv with (hv | hv) | hv
                      · exact d5 v (List.mem_of_mem_take hv)
                      · exact hcs1 v hv
                      · exact d5 v (List.mem_of_mem_drop hv))
                  exact ⟨_, _, ρ', hrun, h5, by rw [St.put_H]; exact h6, by rw [St.put_next]; exact Nat.le_succ _⟩
                · have holds : ∀ j y, (c.toList.take (len * u'.size))[j]? = some y → w.cell? ((⟨ρ k, 0, none⟩ : Addr).add j) = some y := by
                    intro j y hj
                    have hlt : j < (c.toList.take (len * u'.size)).length := (List.getElem?_eq_some_iff.1 hj).1
                    rw [hclen] at hlt
                    rw [List.getElem?_take, if_pos hlt, Array.getElem?_toList] at hj
                    rw [add_mk]
                    simp [World.cell?, hb, hj]
                  have hrun := hsrc.grow hpos ⟨ρ k, 0, none⟩ len cap (c.toList.take (len * u'.size)) (by rw [hclen, hc1]) holds (by omega) (by omega) (growslice_fits (by omega) hp)
                  have hge := grownCap_ge w (len + xs.length) cap e
                  have hcm : grownCap w (len + xs.length) cap e ≤ maxLen := grownCap_le_maxLen w (len + xs.length) cap e (by unfold maxLen; omega)
                  obtain ⟨ρ', h5, h6⟩ := fin w.heap.size (grownCap w (len + xs.length) cap e) ((c.toList.take (len * u'.size)).toArray ++ cs.toArray ++ Builtin.zeroCells z.cells (grownCap w (len + xs.length) cap e - (len + xs.length)))
                    (w.drew.alloc (.cells ((c.toList.take (len * u'.size)).toArray ++ cs.toArray ++ Builtin.zeroCells z.cells (grownCap w (len + xs.length) cap e - (len + xs.length))) e)) (Or.inr (Nat.le_refl _))
                    ⟨rfl, rfl, rfl, by simp, fun j hj _ => Below.heap_alloc w.drew _ j hj⟩ (by show (w.heap.push _)[w.heap.size]? = _; simp) (by
                      simp only [Array.toList_append]
                      rw [List.take_append_of_le_length (by rw [List.length_append, hclen, hcl, ← Nat.add_mul]; exact Nat.le_refl _)]
                      rw [List.take_of_length_le (by rw [List.length_append, hclen, hcl, ← Nat.add_mul]; exact Nat.le_refl _)]) hge hcm
                    (by simp only [Array.size_append, List.size_toArray, size_zeroCells, hclen, hcl, hz2, hc2, ← Nat.add_mul]; congr 1; omega) (by
                      intro v hv
                      simp only [Array.toList_append, List.mem_append] at hv
                      rcases hv with (hv | hv) | hv
                      · exact d5 v (List.mem_of_mem_take hv)
                      · exact hcs1 v hv
                      · exact zeroCells_one hz3 v hv)
                  exact ⟨_, _, ρ', hrun, h5, by rw [St.put_H]; exact h6, by rw [St.put_next]; exact Nat.le_succ _⟩
        · cases h
      · cases h
    · cases h
  · exact appendX_sound h hs hvs rfl hsrc hc1 hc2 hc3 hc4 hz2 hz3 hcs hcl hlim hcs1
  · cases h

theorem sameRow_eq {s x : AV} {k len : Nat} (h : sameRow s x = some (k, len)) : s = .own k 0 len := by
  unfold sameRow at h
  split at h
  · split at h
    · injection h with h
      injection h with h1 h2
      subst h1; subst h2; rfl
    · cases h
  · cases h

theorem appendIn_sound {σ σ' : St} {a : Act} {dst : Option Nat} {t t2 ty e : TypeId} {i : TypeInfo} {z : Value} {u : Ty} {xs : List u.T} {cs : List Value} {k len : Nat} {vs vx : Value} (h : (appendIn σ dst e u xs k len).Leaf σ') (hs : SRel C ρ σ a w) (hvs : VR C ρ σ.H w (.own k 0 len) vs)
    (hsrc : AppSrc P w t t2 ty e i z vx xs.length cs) (hc1 : i.size = u.size) (hc4 : 1 ≤ u.size)
    (hcs : RdL (Rd (Ok C ρ σ.H w) w u) xs cs) (hcl : cs.length = xs.length * u.size) (hcs1 : ∀ v ∈ cs, v.oneCell' = true) :
    ∃ v w' ρ', (Builtin.append_ #[t, t2] ty #[vs, vx]).run P w = .ok v w' ∧ SRel C ρ' σ' (a.put dst v) w' ∧ Fr C σ.next ρ σ.H w ρ' σ'.H w' ∧ σ.next ≤ σ'.next := by
  have hm := hs.m
  unfold appendIn at h
  split at h
  case h_2 => cases h
  rename_i e' u' l hf
  split at h
  case h_2 => cases h
  rename_i he
  have he := beq_true he
  subst he
  split at h
  case h_2 => cases h
  rename_i l' hl'
  obtain ⟨e2, e3⟩ := Ty.as_some hl'
  injection e2 with e2
  subst e2
  have e3' : l = l' := e3
  subst e3'
  cases h with
  | need hp h =>
    cases h
    have hk := Heap.find_mem hf
    cases hvs with
    | own hk' hl hcp hmx hb hsz ha =>
      rename_i cap c fr
      have hun := Heap.mem_unique hm.nodup hk hk'
      injection hun with hu1 hu2 hu3
      subst hu1; subst hu2
      have hu3 := eq_of_heq hu3
      subst hu3
      have ha' := ha.resolve_right (fun h => h.2 rfl)
      rw [Nat.zero_mul] at ha'
      subst ha'
      rw [Nat.zero_add] at hl hsz
      obtain ⟨c0, d1, d2, d3, d4, d5⟩ := hm.mem k _ hk
      rw [hb] at d1
      injection d1 with d1
      injection d1 with d1 d1' d1''
      subst d1; subst d1''
      have hcapl : l.length ≤ cap := by
        rw [← hsz] at d2
        exact Nat.le_of_mul_le_mul_right d2 hc4
      have hroom : len + xs.length ≤ cap := by omega
      by_cases hnil : xs = []
      · subst hnil
        have hrun := hsrc.zero rfl (some ⟨ρ k, 0, none⟩) len cap hcp
        have hov : over l len ([] : List u'.T) = l := by simp [over]
        have hup : σ.H.up k (.row e u' (over l len [])) = σ.H := by rw [hov]; exact up_id0 hm.nodup hk
        refine ⟨_, w, ρ, hrun, ?_, ?_, by rw [St.put_next]; exact Nat.le_refl _⟩
        · simp only [hup]
          exact hs.put (.own (off := 0) hk (by simpa using hl) hcp hmx hb (by simpa using hsz) (Or.inl (by simp)))
        · rw [St.put_H]
          simp only [hup]
          exact Fr.refl _ _ _ _ _
      · have hpos : 0 < xs.length := List.length_pos_iff.2 hnil
        have hfit : len * u'.size + cs.length ≤ c.size := by
          rw [hcl, ← Nat.add_mul, ← hsz]; exact Nat.mul_le_mul_right _ hroom
        have hfit' : len * i.size + cs.length ≤ c.size := by rw [hc1]; exact hfit
        have hrun := hsrc.room hpos (ρ k) len cap c hb hroom hfit'
        rw [hc1] at hrun
        have hovl : (over l len xs).length = l.length := over_length _ _ _ hp
        obtain ⟨hm', hext⟩ := hm.write (nb := .row e u' (over l len xs)) (c' := ⟨over c.toList (len * u'.size) cs⟩) hk hb (by show c.size = (over c.toList _ _).length; rw [over_length _ _ _ (by simpa using hfit)]; simp)
          (by intro e1 t1 l1 hh; injection hh with h1 h2 h3; subst h1; subst h2; have h3 := eq_of_heq h3; subst h3; exact ⟨_, rfl, by rw [hovl]; exact Nat.le_refl _⟩)
          (fun H' w' he hh => by
            refine ⟨_, hh, by rw [hovl]; show l.length * _ ≤ (over c.toList _ _).length; rw [over_length _ _ _ (by simpa using hfit)]; simpa using d2, by rw [hovl]; exact d3, ?_, fun v hv => ?_⟩
            · rw [hovl]
              show RdL _ _ ((over c.toList _ _).take _)
              have hle : (len + xs.length) * u'.size ≤ l.length * u'.size := Nat.mul_le_mul_right _ hp
              rw [Nat.add_mul] at hle
              rw [(over_take c.toList (l.length * u'.size) (len * u'.size) cs (by rw [hcl]; omega)).resolve_right (by simp; omega)]
              exact RdL.over (fun x cs => Rd.length u' x cs) _ _ _ _ _ (RdL.mono (fun x cs => Rd.mono he.data u' x cs) _ _ d4) (RdL.mono (fun x cs => Rd.mono he.data u' x cs) _ _ hcs)
            · rcases over_mem hv with hv | hv
              · exact d5 v hv
              · exact hcs1 v hv)
        have hfr := hext.fr (n := σ.next) (fun j _ hj => by rwa [Heap.keys_up] at hj)
        refine ⟨_, _, ρ, hrun, (hs.frame hm' hfr (fun j hj => by rwa [Heap.keys_up])).put ?_, by rw [St.put_H]; exact hfr, by rw [St.put_next]; exact Nat.le_refl _⟩
        exact .own (off := 0) (e := e) (t := u') (l := over l len xs) (c := ⟨over c.toList (len * u'.size) cs⟩) (fr := (0, 0)) (Heap.mem_up_same (mem_keys hk)) (by rw [hovl]; omega) hroom hmx (setRow_heap _ _ _ _ _ _ hb) (by show (0 + cap) * _ = (over c.toList _ _).length; rw [over_length _ _ _ (by simpa using hfit)]; simpa using hsz) (Or.inl (by simp))

theorem appendSt_sound {σ σ' : St} {a : Act} {dst : Option Nat} {t ty : TypeId} {s x : AV} {vs vx : Value} (h : (appendSt P σ dst t s x).Leaf σ') (hs : SRel C ρ σ a w) (hvs : VR C ρ σ.H w s vs) (hvx : VR C ρ σ.H w x vx) :
    ∃ v w' ρ', (Builtin.append_ #[t, t] ty #[vs, vx]).run P w = .ok v w' ∧ SRel C ρ' σ' (a.put dst v) w' ∧ Fr C σ.next ρ σ.H w ρ' σ'.H w' ∧ σ.next ≤ σ'.next := by
  have hm := hs.m
  unfold appendSt at h
  split at h
  · rename_i e hu
    split at h
    · rename_i i hi
      split at h
      · rename_i u zs hty hz
        split at h
        · rename_i hc
          simp only [Bool.and_eq_true] at hc
          obtain ⟨⟨⟨hc1, hc2⟩, hc3⟩, hc4⟩ := hc
          have hc1 := beq_true hc1
          have hc2 := beq_true hc2
          have hc3 := Nat.le_of_ble_eq_true hc3
          have hc4 := Nat.le_of_ble_eq_true hc4
          obtain ⟨z, hz1, hz2, hz3⟩ := zero_of hi hz
          split at h
          · rename_i xs hxs
            obtain ⟨ax, capx, cs, e1, hcs, hcl, hlim, hor⟩ := src_view hm hxs hvx
            subst e1
            have hcs1 := RdL.one (fun x cs => Rd.one u x cs) _ _ hcs
            have hsrc : AppSrc P w t t ty e i z (.slice ax xs.length capx) xs.length cs := by
              refine ⟨fun h0 b sLen sCap hle => ?_, fun hpos h63 h48 => ?_, fun hpos g sLen sCap cur hg hroom hfit => ?_, fun hpos b sLen sCap olds ho1 ho2 hgr h63 hfit => ?_⟩
              · rw [h0]; exact append_none hu hi b ax sLen sCap capx hle
              · obtain ⟨b, o, ha, hcell⟩ := hor.resolve_left (fun e => by rw [e] at hpos; simp at hpos)
                subst ha
                exact run_append_nil (P := P) w t ty e i z hu hi hz1 ⟨b, o, none⟩ xs.length capx cs (by rw [hcl, hc1]) hcell hpos h63 h48
              · obtain ⟨b, o, ha, hcell⟩ := hor.resolve_left (fun e => by rw [e] at hpos; simp at hpos)
                subst ha
                exact run_append_room (P := P) w t ty e i hu hi g sLen sCap cur hg ⟨b, o, none⟩ xs.length capx cs (by rw [hcl, hc1]) hcell hcs1 hroom hfit
              · obtain ⟨b', o, ha, hcell⟩ := hor.resolve_left (fun e => by rw [e] at hpos; simp at hpos)
                subst ha
                exact run_append_grow (P := P) w t ty e i z hu hi hz1 b sLen sCap olds ho1 ho2 ⟨b', o, none⟩ xs.length capx cs (by rw [hcl, hc1]) hcell hgr h63 hfit
            split at h
            · rename_i k len hsr
              rw [sameRow_eq hsr] at hvs
              exact appendIn_sound (z := z) h hs hvs hsrc hc1 hc4 hcs hcl hcs1
            · exact appendXs_sound (t := t) (t2 := t) (ty := ty) (z := z) (zs := zs) h hs hvs rfl hsrc hc1 hc2 hc3 hc4 hz2 hz3 hcs hcl hlim hcs1
          · cases h
        · cases h
      · cases h
    · cases h
  · cases h

theorem zeroCells_flat (z : Array Value) (n : Nat) : (Builtin.zeroCells z n).toList = flatRep z.toList n := madeCells_flat z n

theorem appendZ_sound {σ σ' : St} {a : Act} {dst : Option Nat} {t t2 ty : TypeId} {s x : AV} {vs vx : Value} (h : (appendZ P σ dst t t2 s x).Leaf σ') (hs : SRel C ρ σ a w) (hvs : VR C ρ σ.H w s vs) (hvx : VR C ρ σ.H w x vx) :
    ∃ v w' ρ', (Builtin.append_ #[t, t2] ty #[vs, vx]).run P w = .ok v w' ∧ SRel C ρ' σ' (a.put dst v) w' ∧ Fr C σ.next ρ σ.H w ρ' σ'.H w' ∧ σ.next ≤ σ'.next := by
  unfold appendZ at h
  split at h
  case h_2 => cases h
  rename_i e kn hu hu2
  split at h
  case h_2 => cases h
  rename_i i hi
  split at h
  case h_2 => cases h
  rename_i u zs hty hz
  split at h
  case h_2 => cases h
  rename_i y hp
  split at h
  case h_2 => cases h
  rename_i hc
  simp only [Bool.and_eq_true] at hc
  obtain ⟨⟨⟨hc1, hc2⟩, hc3⟩, hc4⟩ := hc
  have hc1 := beq_true hc1
  have hc2 := beq_true hc2
  have hc3 := Nat.le_of_ble_eq_true hc3
  have hc4 := Nat.le_of_ble_eq_true hc4
  obtain ⟨z, hz1, hz2, hz3⟩ := zero_of hi hz
  split at h
  case h_2 => cases h
  rename_i k n
  unfold appendZI at h
  cases h with
  | need hq h =>
    cases h
    cases hvs
    obtain ⟨en, -⟩ := int_value hvx
    subst en
    obtain ⟨m, rfl⟩ : ∃ m : Nat, n = (m : Int) := ⟨Int.toNat n, (Int.toNat_of_nonneg (Int.le_trans (by decide) hq.1)).symm⟩
    have hm0 : 0 < m := by have := hq.1; omega
    have hmb : m * i.bytes ≤ 140737488355328 := by
      have h2 : ((m * i.bytes : Nat) : Int) ≤ 140737488355328 := by rw [Int.natCast_mul]; exact hq.2
      omega
    have hm1 : m * 1 ≤ m * i.bytes := Nat.mul_le_mul_left _ hc3
    have hrun := Lib.run_append_nil_zeros (P := P) w t t2 ty e i z k kn hu hu2 hi hz1 m hm0 (by omega) (by omega) (by omega)
    have hge := grownCap_ge w m 0 e
    have hcm : grownCap w m 0 e ≤ maxLen := grownCap_le_maxLen w m 0 e (by unfold maxLen; omega)
    obtain ⟨z', hz1', hzr, hz3'⟩ := zeroAVs_sound (C := C) (ρ := ρ) (H := σ.H) (w := w) hz
    have hlz : z.cells.toList.length = u.size := by simp; omega
    have hzz : RdL (Rd (Ok C ρ σ.H w) w u) (List.replicate m y) (flatRep z.cells.toList m) := by
      have : z' = z := by
        have e1 : (zeroValue e).run P w = .ok z w := by simp [zeroValue, typeInfo, hi, hz1]
        rw [hz1'] at e1
        injection e1
      subst this
      obtain ⟨c1, c2, e1, hl, h2⟩ := pack_sound _ _ _ _ _ hp hzr
      cases h2
      simp only [List.append_nil] at e1
      rw [e1]
      exact RdL.replicate hl m
    have hlf : (flatRep z.cells.toList m).length = m * u.size := by rw [flatRep_length, hlz]
    obtain ⟨ρ', h5, h6⟩ := hs.newRow (e := e) (u := u) (xs := List.replicate m y) (c := Builtin.zeroCells z.cells m ++ Builtin.zeroCells z.cells (grownCap w m 0 e - m)) (cap := grownCap w m 0 e) (dst := dst)
      (by
        rw [List.length_replicate, Array.toList_append, zeroCells_flat, List.take_append_of_le_length (by rw [hlf]; exact Nat.le_refl _), List.take_of_length_le (by rw [hlf]; exact Nat.le_refl _)]
        exact hzz)
      (by rw [List.length_replicate]; simp only [Array.size_append, size_zeroCells, hz2, hc2]; exact Nat.le_add_right _ _)
      (by rw [List.length_replicate]; unfold lim; omega)
      (by
        intro v hv
        simp only [Array.toList_append, List.mem_append] at hv
        rcases hv with hv | hv
        · exact zeroCells_one hz3 v hv
        · exact zeroCells_one hz3 v hv)
      (by rw [List.length_replicate]; exact hge) hcm
      (by simp only [Array.size_append, size_zeroCells, hz2, hc2, ← Nat.add_mul]; congr 1; omega)
    rw [List.length_replicate] at h5
    exact ⟨_, _, ρ', hrun, by simpa using h5, by rw [St.put_H]; exact h6, by rw [St.put_next]; exact Nat.le_succ _⟩

theorem append_none_str {t t2 ty e : TypeId} {i : TypeInfo} (hu : P.underlying t = some (.slice e)) (hu2 : P.underlying t2 = some .string) (hi : P.info? e = some i) (b : Option Addr) (sLen sCap : Nat) (h : sLen ≤ sCap) :
    (Builtin.append_ #[t, t2] ty #[.slice b sLen sCap, .string ⟨⟨[]⟩⟩]).run P w = .ok (.slice b sLen sCap) w := by
  have hz : (⟨⟨[]⟩⟩ : ByteArray).size = 0 := rfl
  cases b <;> simp [Builtin.append_, run_underlying hu, run_underlying hu2, sizeOf, typeInfo, hi, Builtin.lenOf, hz, h, Builtin.firstCells, storeCells]

theorem appSrc_str {t t2 ty e : TypeId} {i : TypeInfo} {z : Value} {l : List UInt8} (hu : P.underlying t = some (.slice e)) (hu2 : P.underlying t2 = some .string) (hi : P.info? e = some i) (hc1 : i.size = 1) (hz1 : i.zero = some z) :
    AppSrc P w t t2 ty e i z (.string ⟨⟨l⟩⟩) l.length (l.map fun b => Value.int .u8 (b.toNat : Int)) := by
  have hsz : (⟨⟨l⟩⟩ : ByteArray).size = l.length := rfl
  have hsc : Lib.strCells ⟨⟨l⟩⟩ = l.map fun b => Value.int .u8 (b.toNat : Int) := rfl
  refine ⟨fun h0 b sLen sCap hle => ?_, fun hpos h63 h48 => ?_, fun hpos g sLen sCap cur hg hroom hfit => ?_, fun hpos b sLen sCap olds ho1 ho2 hgr h63 hfit => ?_⟩
  · rw [List.eq_nil_of_length_eq_zero h0]
    exact append_none_str hu hu2 hi b sLen sCap hle
  · have := run_append_nil_string (P := P) w t t2 ty e i z hu hu2 hi hz1 ⟨⟨l⟩⟩ hpos h63 h48
    rw [hsz] at this
    rw [this]
    congr 4
    simp
  · have := Lib.run_append_room_string (P := P) w t t2 ty e i hu hu2 hi hc1 g sLen sCap cur hg ⟨⟨l⟩⟩ hroom (by rw [hc1] at hfit; simpa [hsz] using hfit)
    rw [hsz, hsc] at this
    rw [this, hc1]
    simp
  · have := Lib.run_append_grow_string (P := P) w t t2 ty e i z hu hu2 hi hz1 b sLen sCap olds ho1 ho2 ⟨⟨l⟩⟩ hgr h63 hfit
    rw [hsz, hsc] at this
    exact this

theorem appendL_sound {σ σ' : St} {a : Act} {dst : Option Nat} {t t2 ty e : TypeId} {i : TypeInfo} {z : Value} {zs : List AV} {l : List UInt8} {s : AV} {vs : Value} (h : (appendXs σ dst e i.bytes (.int .u8) (bytesI l) s).Leaf σ') (hs : SRel C ρ σ a w) (hvs : VR C ρ σ.H w s vs)
    (hu : P.underlying t = some (.slice e)) (hu2 : P.underlying t2 = some .string) (hi : P.info? e = some i) (hc1 : i.size = 1) (hc2 : zs.length = 1) (hc3 : 1 ≤ i.bytes) (hz1 : i.zero = some z) (hz2 : z.cells.size = zs.length) (hz3 : ∀ v ∈ z.cells.toList, v.oneCell' = true) (hlim : l.length ≤ lim) :
    ∃ v w' ρ', (Builtin.append_ #[t, t2] ty #[vs, .string ⟨⟨l⟩⟩]).run P w = .ok v w' ∧ SRel C ρ' σ' (a.put dst v) w' ∧ Fr C σ.next ρ σ.H w ρ' σ'.H w' ∧ σ.next ≤ σ'.next := by
  have hlen : (bytesI l).length = l.length := by simp [bytesI]
  refine appendXs_sound (t := t) (t2 := t2) (ty := ty) (z := z) (zs := zs) (u := .int .u8) (xs := bytesI l) (cs := l.map fun b => Value.int .u8 (b.toNat : Int)) h hs hvs hlen.symm (appSrc_str hu hu2 hi hc1 hz1) hc1 hc2 hc3 (Nat.le_refl _) hz2 hz3 (rdl_bytes l) ?_ ?_ (fun v hv => by
    obtain ⟨b, _, rfl⟩ := List.mem_map.1 hv; rfl)
  · show (l.map _).length = (bytesI l).length * 1
    rw [hlen]; simp
  · show (bytesI l).length ≤ lim
    rw [hlen]; exact hlim

theorem appendStr_sound {σ σ' : St} {a : Act} {dst : Option Nat} {t t2 ty : TypeId} {s x : AV} {vs vx : Value} (h : (appendStr P σ dst t t2 s x).Leaf σ') (hs : SRel C ρ σ a w) (hvs : VR C ρ σ.H w s vs) (hvx : VR C ρ σ.H w x vx) :
    ∃ v w' ρ', (Builtin.append_ #[t, t2] ty #[vs, vx]).run P w = .ok v w' ∧ SRel C ρ' σ' (a.put dst v) w' ∧ Fr C σ.next ρ σ.H w ρ' σ'.H w' ∧ σ.next ≤ σ'.next := by
  unfold appendStr at h
  split at h
  · rename_i e hu hu2
    split at h
    · rename_i i hi
      split at h
      · rename_i zs hty hz
        split at h
        · rename_i hc
          simp only [Bool.and_eq_true] at hc
          obtain ⟨⟨hc1, hc2⟩, hc3⟩ := hc
          have hc1 := beq_true hc1
          have hc2 := beq_true hc2
          have hc3 := Nat.le_of_ble_eq_true hc3
          obtain ⟨z, hz1, hz2, hz3⟩ := zero_of hi hz
          split at h
          · rename_i l
            obtain ⟨e1, hlim⟩ := str_value hvx
            subst e1
            exact appendL_sound (ty := ty) h hs hvs hu hu2 hi hc1 hc2 hc3 hz1 hz2 hz3 hlim
          · cases h
        · cases h
      · cases h
    · cases h
  · cases h

theorem copySt_sound {σ σ' : St} {a : Act} {dst : Option Nat} {t t2 ty : TypeId} {d x : AV} {vd vx : Value} (h : (copySt P σ dst t d x).Leaf σ') (hs : SRel C ρ σ a w) (hvd : VR C ρ σ.H w d vd) (hvx : VR C ρ σ.H w x vx) :
    ∃ v w', (Builtin.copy_ #[t, t2] ty #[vd, vx]).run P w = .ok v w' ∧ SRel C ρ σ' (a.put dst v) w' ∧ Fr C σ.next ρ σ.H w ρ σ'.H w' ∧ σ'.next = σ.next := by
  have hm := hs.m
  unfold copySt at h
  split at h
  · rename_i e hu
    split at h
    · rename_i k off len
      split at h
      · rename_i e' u l hf
        split at h
        · rename_i n hn
          split at h
          · rename_i hb
            have hb := beq_true hb
            subst hb
            split at h
            · rename_i xs hxs
              cases h
              obtain ⟨ax, capx, cs, e1, hcs, hcl, hlim, hor⟩ := src_view hm hxs hvx
              subst e1
              obtain ⟨i, hi, hin⟩ : ∃ i, P.info? e = some i ∧ i.size = u.size := by
                unfold sizeAt at hn
                cases hq : P.info? e with
                | none => rw [hq] at hn; cases hn
                | some i => rw [hq] at hn; exact ⟨i, rfl, by simpa using hn⟩
              have hk := Heap.find_mem hf
              cases hvd with
              | own hk' hl hcp hmx hb hsz ha =>
                rename_i ad cap c fr
                have hun := Heap.mem_unique hm.nodup hk hk'
                injection hun with hu1 hu2 hu3
                subst hu1; subst hu2
                have hu3 := eq_of_heq hu3
                subst hu3
                obtain ⟨c0, d1, d2, d3, d4, d5⟩ := hm.mem k _ hk
                rw [hb] at d1
                injection d1 with d1
                injection d1 with d1 d1' d1''
                subst d1; subst d1''
                generalize hmn : min xs.length len = m
                have hmle : m ≤ len := by omega
                have hxt : (xs.take len).length = m := by simp; omega
                have hct : RdL (Rd (Ok C ρ σ.H w) w u) (xs.take len) (cs.take (m * u.size)) := by
                  have := RdL.take (fun x cs => Rd.length u x cs) xs _ m hcs
                  rwa [show xs.take m = xs.take len by rw [← hmn]; by_cases h : xs.length ≤ len
                                                       · rw [Nat.min_eq_left h, List.take_of_length_le (Nat.le_refl _), List.take_of_length_le h]
                                                       · rw [Nat.min_eq_right (by omega)]] at this
                have hctl : (cs.take (m * u.size)).length = m * u.size := by
                  rw [List.length_take, hcl]
                  have : m * u.size ≤ xs.length * u.size := Nat.mul_le_mul_right _ (by omega)
                  omega
                have hone := RdL.one (fun x cs => Rd.one u x cs) _ _ hct
                have hmx' : Nat.min xs.length len = m := hmn
                have hgo : VR C ρ σ.H w (lenI m) (goInt m) := vr_len (by omega)
                by_cases hm0 : m = 0
                · have hrun : (Builtin.copy_ #[t, t2] ty #[.slice ad len cap, .slice ax xs.length capx]).run P w = .ok (goInt 0) w := by
                    have hfc : (Builtin.firstCells u.size 0 (.slice ax xs.length capx)).run P w = .ok #[] w := by
                      cases ax <;> simp [Builtin.firstCells, loadCells, loadCellsFrom]
                    cases ad <;> simp [Builtin.copy_, run_underlying hu, Builtin.lenOf, sizeOf, typeInfo, hi, hin, hmx', hm0, hfc, storeCells]
                  have hxn : xs.take len = [] := List.eq_nil_of_length_eq_zero (by omega)
                  have hov : over l off (xs.take len) = l := by rw [hxn]; simp [over]
                  refine ⟨_, w, hrun, ?_, ?_, by rw [St.put_next]⟩
                  · have hup : σ.H.up k (.row e' u (over l off (xs.take len))) = σ.H := by rw [hov]; exact up_id0 hm.nodup hk
                    simp only [hup]
                    refine hs.put ?_
                    simpa [hm0] using hgo
                  · rw [St.put_H]
                    simp only [hov, up_id0 hm.nodup hk]
                    exact Fr.refl _ _ _ _ _
                · have hpos : 0 < xs.length := by omega
                  have hlenpos : 0 < len := by omega
                  obtain ⟨b, o, hax, hcell⟩ := hor.resolve_left (fun e => by rw [e] at hpos; simp at hpos)
                  subst hax
                  have ha' := ha.resolve_right (fun h => by omega)
                  subst ha'
                  have hmulm : (off + m) * u.size ≤ l.length * u.size := Nat.mul_le_mul_right _ (by omega)
                  rw [Nat.add_mul] at hmulm
                  have hfit : off * u.size + (cs.take (m * u.size)).length ≤ c.size := by rw [hctl]; omega
                  have hfc : (Builtin.firstCells u.size m (.slice (some ⟨b, o, none⟩) xs.length capx)).run P w = .ok (cs.take (m * u.size)).toArray w :=
                    run_firstCells_some (P := P) w u.size m ⟨b, o, none⟩ xs.length capx (cs.take (m * u.size)) hctl (fun j y hj => hcell j y (by
                      have hlt := (List.getElem?_eq_some_iff.1 hj).1
                      rw [hctl] at hlt
                      rwa [List.getElem?_take, if_pos hlt] at hj))
                  have hst := store_run (P := P) (vs := cs.take (m * u.size)) hb (o := off * u.size) hfit hone
                  have hrun : (Builtin.copy_ #[t, t2] ty #[.slice (some ⟨ρ k, off * u.size, none⟩) len cap, .slice (some ⟨b, o, none⟩) xs.length capx]).run P w = .ok (goInt m) (w.setRow (ρ k) ⟨over c.toList (off * u.size) (cs.take (m * u.size))⟩) := by
                    simp [Builtin.copy_, run_underlying hu, Builtin.lenOf, sizeOf, typeInfo, hi, hin, hmx', hfc, hst]
                  have hovl : (over l off (xs.take len)).length = l.length := over_length _ _ _ (by rw [hxt]; omega)
                  obtain ⟨hm', hext⟩ := hm.write (nb := .row e' u (over l off (xs.take len))) (c' := ⟨over c.toList (off * u.size) (cs.take (m * u.size))⟩) hk hb (by show c.size = (over c.toList _ _).length; rw [over_length _ _ _ (by simpa using hfit)]; simp)
                    (by intro e1 t1 l1 hh; injection hh with h1 h2 h3; subst h1; subst h2; have h3 := eq_of_heq h3; subst h3; exact ⟨_, rfl, by rw [hovl]; exact Nat.le_refl _⟩)
                    (fun H' w' he hh => by
                      refine ⟨_, hh, by rw [hovl]; show l.length * _ ≤ (over c.toList _ _).length; rw [over_length _ _ _ (by simpa using hfit)]; simpa using d2, by rw [hovl]; exact d3, ?_, fun v hv => ?_⟩
                      · rw [hovl]
                        show RdL _ _ ((over c.toList _ _).take _)
                        rw [(over_take c.toList (l.length * u.size) (off * u.size) (cs.take (m * u.size)) (by rw [hctl]; omega)).resolve_right (by simp; omega)]
                        exact RdL.over (fun x cs => Rd.length u x cs) _ _ _ _ _ (RdL.mono (fun x cs => Rd.mono he.data u x cs) _ _ d4) (RdL.mono (fun x cs => Rd.mono he.data u x cs) _ _ hct)
                      · rcases over_mem hv with hv | hv
                        · exact d5 v hv
                        · exact hone v hv)
                  have hfr := hext.fr (n := σ.next) (fun j _ hj => by rwa [Heap.keys_up] at hj)
                  refine ⟨_, _, hrun, (hs.frame hm' hfr (fun j hj => by rwa [Heap.keys_up])).put (hext.vr hgo), by rw [St.put_H]; exact hfr, by rw [St.put_next]⟩
            · cases h
          · cases h
        · cases h
      · cases h
    · cases h
  · cases h
end
section
variable {C : Ctx} {ρ : Nat → Nat} {w : World} {P : Program}
/-- 'copy' of data of one cell each into a slice of one of the call's own blocks of variables. -/
def copyVars (P : Program) (σ : St) (dst : Option Nat) (k n : Nat) (e : TypeId) (x : AV) : T St :=
  match σ.H.find k with
  | some (.vars e' cells) => match tyOf P 20 e, sizeAt P e with
    | some u, some m => match Nat.beq m 1 && Nat.beq u.size 1 && !u.agg && Nat.ble n cells.length with
      | true => match toDL σ.H (.sl u) x with
        | some (xs : List u.T) => .ok (({ σ with H := σ.H.up k (.vars e' (over cells 0 ((xs.take n).map fun y => AV.d u y))) } : St).put dst (lenI (min xs.length n)))
        | none => .bad
      | false => .bad
    | _, _ => .bad
  | _ => .bad

theorem vrs_data {ok : Heap} {H : Heap} {u : Ty} (hu : u.agg = false) (h1 : u.size = 1) : ∀ (xs : List u.T) (cs : List Value), RdL (Rd (Ok C ρ H w) w u) xs cs → VRs C ρ H w (xs.map fun y => AV.d u y) cs
  | [], cs, h => by
    have : cs = [] := by simpa [RdL] using h
    subst this; exact .nil
  | x :: xs, _, ⟨c1, c2, e, h2, h3⟩ => by
    subst e
    have hl := Rd.length u x c1 h2
    rw [h1] at hl
    match c1, hl, h2 with
    | [v], _, h2 => exact .cons (.d ⟨[v], h2, by cases u <;> first | rfl | cases hu⟩) (vrs_data (ok := ok) hu h1 xs c2 h3)

theorem vrs_ext {ρ' : Nat → Nat} {H H' : Heap} {w' : World} (he : Ext C ρ H w ρ' H' w') : ∀ {l : List AV} {vs : List Value}, VRs C ρ H w l vs → VRs C ρ' H' w' l vs
  | _, _, .nil => .nil
  | _, _, .cons h hs => .cons (he.vr h) (vrs_ext he hs)

theorem copyVars_sound {σ σ' : St} {a : Act} {dst : Option Nat} {t t2 ty e : TypeId} {k n cap : Nat} {x : AV} {vx : Value} (h : (copyVars P σ dst k n e x).Leaf σ') (hu0 : P.underlying t = some (.slice e)) (hs : SRel C ρ σ a w) (hvx : VR C ρ σ.H w x vx) (hn' : n ≤ lim) :
    ∃ v w', (Builtin.copy_ #[t, t2] ty #[.slice (some ⟨ρ k, 0, none⟩) n cap, vx]).run P w = .ok v w' ∧ SRel C ρ σ' (a.put dst v) w' ∧ Fr C σ.next ρ σ.H w ρ σ'.H w' ∧ σ'.next = σ.next := by
  have hm := hs.m
  unfold copyVars at h
  split at h
  · rename_i e' cells hf
    split at h
    · rename_i u m0 hu hsz
      split at h
      · rename_i hb
        simp only [Bool.and_eq_true, Bool.not_eq_true'] at hb
        obtain ⟨⟨⟨b1, b2⟩, b3⟩, b4⟩ := hb
        have b1 := beq_true b1
        have b2 := beq_true b2
        have b4 := Nat.le_of_ble_eq_true b4
        subst b1
        split at h
        · rename_i xs hxs
          cases h
          obtain ⟨ax, capx, cs, e1, hcs, hcl, hlim, hor⟩ := src_view hm hxs hvx
          subst e1
          obtain ⟨i, hi, hin⟩ : ∃ i, P.info? e = some i ∧ i.size = 1 := by
            unfold sizeAt at hsz
            cases hq : P.info? e with
            | none => rw [hq] at hsz; cases hsz
            | some i => rw [hq] at hsz; exact ⟨i, rfl, by simpa using hsz⟩
          have hk := Heap.find_mem hf
          obtain ⟨c0, d1, d2, d3⟩ := hm.mem k _ hk
          have hcl0 : cells.length = c0.toList.length := VRs.length d2
          rw [b2, Nat.mul_one] at hcl
          generalize hmn : min xs.length n = m
          have hxt : (xs.take n).length = m := by simp; omega
          have hct : RdL (Rd (Ok C ρ σ.H w) w u) (xs.take n) (cs.take m) := by
            have := RdL.take (fun x cs => Rd.length u x cs) xs _ m hcs
            rw [b2, Nat.mul_one] at this
            have hxm : xs.take m = xs.take n := by
              rw [← hmn]
              by_cases h : xs.length ≤ n
              · rw [Nat.min_eq_left h, List.take_of_length_le (Nat.le_refl _), List.take_of_length_le h]
              · rw [Nat.min_eq_right (by omega)]
            rwa [hxm] at this
          have hctl : (cs.take m).length = m := by rw [List.length_take, hcl]; omega
          have hone := RdL.one (fun x cs => Rd.one u x cs) _ _ hct
          have hmx' : Nat.min xs.length n = m := hmn
          have hgo : VR C ρ σ.H w (lenI m) (goInt m) := vr_len (by omega)
          have hfit : 0 + (cs.take m).length ≤ c0.size := by rw [hctl]; have : c0.toList.length = c0.size := Array.length_toList; omega
          have hfc : (Builtin.firstCells 1 m (.slice ax xs.length capx)).run P w = .ok (cs.take m).toArray w := by
            by_cases hm0 : m = 0
            · subst hm0
              cases ax <;> simp [Builtin.firstCells, loadCells, loadCellsFrom]
            · obtain ⟨b, o, hax, hcell⟩ := hor.resolve_left (fun e => by rw [e] at hxt; simp at hxt; omega)
              subst hax
              exact run_firstCells_some (P := P) w 1 m ⟨b, o, none⟩ xs.length capx (cs.take m) (by rw [hctl]; omega) (fun j y hj => hcell j y (by
                have hlt := (List.getElem?_eq_some_iff.1 hj).1
                rw [hctl] at hlt
                rwa [List.getElem?_take, if_pos hlt] at hj))
          have hst := store_run (P := P) (vs := cs.take m) d1 (o := 0) hfit hone
          have hrun : (Builtin.copy_ #[t, t2] ty #[.slice (some ⟨ρ k, 0, none⟩) n cap, .slice ax xs.length capx]).run P w = .ok (goInt m) (w.setRow (ρ k) ⟨over c0.toList 0 (cs.take m)⟩) := by
            simp [Builtin.copy_, run_underlying hu0, Builtin.lenOf, sizeOf, typeInfo, hi, hin, hmx', hfc, hst]
          obtain ⟨hm', hext⟩ := hm.write (nb := .vars e' (over cells 0 ((xs.take n).map fun y => AV.d u y))) (c' := ⟨over c0.toList 0 (cs.take m)⟩) hk d1 (by show c0.size = (over c0.toList _ _).length; rw [over_length _ _ _ (by simpa using hfit)]; simp)
            (by intro e1 t1 l1 hh; cases hh)
            (fun H' w' he hh => by
              refine ⟨_, hh, ?_, fun v hv => ?_⟩
              · exact VRs.over (vrs_ext he d2) (vrs_ext he (vrs_data (ok := σ.H) b3 b2 _ _ hct)) 0
              · rcases over_mem hv with hv | hv
                · exact d3 v hv
                · exact hone v hv)
          have hfr := hext.fr (n := σ.next) (fun j _ hj => by rwa [Heap.keys_up] at hj)
          exact ⟨_, _, hrun, (hs.frame hm' hfr (fun j hj => by rwa [Heap.keys_up])).put (hext.vr hgo), by rw [St.put_H]; exact hfr, by rw [St.put_next]⟩
        · cases h
      · cases h
    · cases h
  · cases h

/-- 'copy' into a slice. -/
def copyOp (P : Program) (σ : St) (dst : Option Nat) (t : TypeId) (d x : AV) : T St :=
  match d with
  | .sv k o n _ => match o, P.underlying t with
    | 0, some (.slice e) => copyVars P σ dst k n e x
    | _, _ => .bad
  | d => copySt P σ dst t d x

theorem copyOp_sound {σ σ' : St} {a : Act} {dst : Option Nat} {t t2 ty : TypeId} {d x : AV} {vd vx : Value} (h : (copyOp P σ dst t d x).Leaf σ') (hs : SRel C ρ σ a w) (hvd : VR C ρ σ.H w d vd) (hvx : VR C ρ σ.H w x vx) :
    ∃ v w', (Builtin.copy_ #[t, t2] ty #[vd, vx]).run P w = .ok v w' ∧ SRel C ρ σ' (a.put dst v) w' ∧ Fr C σ.next ρ σ.H w ρ σ'.H w' ∧ σ'.next = σ.next := by
  unfold copyOp at h
  split at h
  · split at h
    · rename_i hu
      obtain ⟨rfl, hl, _⟩ := VR.sv_inv hvd
      exact copyVars_sound h hu hs hvx hl
    · cases h
  · exact copySt_sound h hs hvd hvx
end
end Go.Vg

namespace Go.Vg
open Go Go.RowKit

/-- What is known of the world at the start is known of every world that has grown out of it. -/
def GMono (G : World → Prop) : Prop := ∀ w w', Below w.heap.size w w' → G w → G w'

/-- What is called: a function, or the body of a range over a function. -/
inductive Tgt where
  | fn (f : FuncId)
  | yld (l : Nat)

/-- No fence; in a round of the loop whose record is block r, if there is one. -/
def wideR (r : Option Nat) : Fence := { Fence.wide with round := r }

theorem callsIn_wideR {r : Option Nat} {n : Nat} {P : Program} {f : FuncId} {args : Array Value} {w : World} {R : Ending → World → Prop} : CallsIn (wideR r) n P f args w R ↔ Calls P f args w R :=
  callsIn_wide (n := n)

theorem wpIn_of_wp {r : Option Nat} {P : Program} {o : Oper} {a : Act} {w : World} {nx : Act → World → Prop} {Q : Exit → Act → World → Prop} (hd : ∀ c, o.op ≠ .defer c) (h : o.wp P a w nx Q) : o.wpIn (wideR r) 0 P a w nx Q := by
  refine ⟨fun _ _ => trivial, ?_⟩
  rw [Oper.semAt_eq _ _ _ hd]
  unfold Oper.wp at h
  generalize (execOp a.eval o).run P w = x at h
  have hdep : (wideR r).depth.isSome = true → 1 ≤ 0 := fun h => by cases h
  cases x with
  | ok y w' =>
    cases y with
    | value v => exact h
    | skip => exact h
    | defer d => exact h
    | enter f args => exact ⟨hdep, callsIn_wideR.2 h⟩
    | row row args => exact ⟨hdep, fun c cs _ => let ⟨v, w', r, s⟩ := h c cs; ⟨v, w', r, stepsIn_wide.2 s⟩⟩
    | _ => exact h.elim
  | halt x w' => cases x <;> exact h

/-- A call that is entered: function, arguments, memory, the next key; what must hold of its result. -/
abbrev CallT := Tgt → List AV → Heap → Nat → (AV → Heap → Nat → Prop) → Prop

def hasKey (H : Heap) (k : Nat) : Bool :=
  match H.find k with
  | some _ => true
  | none => false

mutual
def ownKeys : AV → List Nat
  | .own k _ _ => [k]
  | .ox k _ _ => [k]
  | .fn _ a b => ownKeysL a ++ ownKeysL b
  | .ag l => ownKeysL l
  | .tup l => ownKeysL l
  | _ => []
def ownKeysL : List AV → List Nat
  | [] => []
  | a :: as => ownKeys a ++ ownKeysL as
end

def St.thaw (σ : St) (k : Nat) : St :=
  match σ.H.find k with
  | some (.row _ t l) => { σ with slots := mapSlots (neK k) (asData t l) σ.slots, H := σ.H.keep (neK k) (asData t l) }
  | _ => σ

def St.thaws (σ : St) : List Nat → St
  | [] => σ
  | k :: ks => (σ.thaw k).thaws ks

def deepOwn : AV → Bool
  | .ag l => match ownKeysL l with | [] => false | _ :: _ => true
  | _ => false

def anyDeep : List AV → Bool
  | [] => false
  | a :: as => deepOwn a || anyDeep as

def St.grow (σ : St) (dst : Option Nat) (r : AV) (new : Heap) : St := ({ σ with H := new ++ σ.H, next := σ.next + 1 } : St).put dst r

/-- unsafe.String of the bytes of one of the call's own rows, which is given away. -/
def unsafeStrI (P : Program) (σ : St) (dst : Option Nat) (pt : TypeId) (p : AV) (m : Int) : T St :=
  match p with
  | .eptr k 0 => match σ.H.find k with
    | some (.row e (.int .u8) l) => match P.underlying pt with
      | some (.pointer e') => match Nat.beq e' e && Nat.beq (P.cellsOf e) 1 with
        | true => .need (1 ≤ m ∧ m ≤ ((l : List Int).length : Int)) (.ok ((σ.thaw k).put dst (.d .str (strOf ((l : List Int).take m.toNat)))))
        | false => .bad
      | _ => .bad
    | _ => .bad
  | .nilp => .need (m = 0) (.ok (σ.put dst (.d .str [])))
  | _ => .bad

def unsafeStr (P : Program) (σ : St) (dst : Option Nat) (pt : TypeId) (p n : AV) : T St :=
  match n with
  | .d (.int .i64) m => unsafeStrI P σ dst pt p m
  | _ => .bad

/-- A function of the model's own that hands its argument back. -/
def noEsc (P : Program) (g : FuncId) : Bool :=
  match P.funcs[g]? with
  | some fn => fn.body.isNone && fn.name == "internal/abi.NoEscape" && (fn.origin == "internal/abi.NoEscape" || fn.origin == "")
  | none => false

/-- The state in which values are stored into a row: their own rows are given away. -/
def St.freed (σ : St) (x : AV) : St :=
  match ownKeys x with
  | [] => σ
  | k :: ks => σ.thaws (k :: ks)

def storeOp (P : Program) (σ : St) (t : TypeId) (a x : Operand) : T St :=
  match σ.eval a with
  | .eptr _ _ => storeSt P (σ.freed (σ.eval x)) t ((σ.freed (σ.eval x)).eval a) ((σ.freed (σ.eval x)).eval x)
  | _ => storeSt P σ t (σ.eval a) (σ.eval x)

def builtinOp (P : Program) (σ : St) (dst : Option Nat) (b : Builtin) (args : List Operand) (ts : List TypeId) : Option (T St) :=
  match b with
  | .append => match args, ts with
    | [s, x], [t, u] => match Nat.beq t u with
      | true => some (appendSt P σ dst t (σ.eval s) (σ.eval x).soft)
      | false => match P.underlying u with
        | some (.int _) => some (appendZ P σ dst t u (σ.eval s) (σ.eval x))
        | _ => some (appendStr P σ dst t u (σ.eval s) (σ.eval x))
    | _, _ => some .bad
  | .copy => match args, ts with
    | [d, x], [t, u] => match Nat.beq t u with
      | true => some (copyOp P σ dst t (σ.eval d).soft (σ.eval x).soft)
      | false => some .bad
    | _, _ => some .bad
  | .unsafeString => match args, ts with
    | [p, n], [pt, _] => some (unsafeStr P σ dst pt (σ.eval p) (σ.eval n))
    | _, _ => some .bad
  | _ => none

/-- An entry of a map is set. -/
def setE : List (DK × AV) → DK → AV → List (DK × AV)
  | [], n, v => [(n, v)]
  | (k, x) :: r, n, v => match eqK n k with
    | true => (n, v) :: r
    | false => (k, x) :: setE r n v

def mapSt (P : Program) (σ : St) (t : TypeId) (m i v : AV) : T St :=
  match P.underlying t with
  | some (.map kt _) => match kkAt P kt with
    | some k => match m, dkOf k i with
      | .mp K, some n => match σ.H.find K with
        | some (.dic k'' l) => match decide (k'' = k) with
          | true => .ok { σ with H := σ.H.up K (.dic k (setE l n v)) }
          | false => .bad
        | _ => .bad
      | _, _ => .bad
    | none => .bad
  | _ => .bad

/-! Panics. -/
/-- How an operation ends: it goes on, or it panics. -/
inductive Fi where
  | go (σ : St)
  | pan (ch : List PanicEntry) (σ : St)

/-- The chain of a panic with an interface value, if this holds a number, or a struct of one number. -/
def chainOf : AV → Option (List PanicEntry)
  | .ifc k (.pair (.int kk) .unit) x => some [{ v := .iface k (.agg #[.int kk x.1]), recovered := false }]
  | .ifc k (.int kk) x => some [{ v := .iface k (.int kk x), recovered := false }]
  | _ => none

def ofValue : Value → Option AV
  | .iface k (.agg ⟨[.int kk n]⟩) => match decide (kk.min ≤ n) && decide (n ≤ kk.max) with
    | true => some (.ifc k (.pair (.int kk) .unit) (n, ()))
    | false => none
  | .iface k (.int kk n) => match decide (kk.min ≤ n) && decide (n ≤ kk.max) with
    | true => some (.ifc k (.int kk) n)
    | false => none
  | _ => none

/-- The value of a chain of one panic. -/
def ofChain : List PanicEntry → Option AV
  | [⟨v, false, false⟩] => ofValue v
  | _ => none

/-- The same, as something to be shown. -/
def ofChainP (ch : List PanicEntry) (K : AV → Prop) : Prop := match ch with
  | [⟨.iface k (.agg ⟨[.int kk n]⟩), false, false⟩] => (kk.min ≤ n ∧ n ≤ kk.max) ∧ K (.ifc k (.pair (.int kk) .unit) (n, ()))
  | [⟨.iface k (.int kk n), false, false⟩] => (kk.min ≤ n ∧ n ≤ kk.max) ∧ K (.ifc k (.int kk) n)
  | _ => False
theorem ofChainP_of {ch : List PanicEntry} {K : AV → Prop} (h : ofChainP ch K) : ∃ x, ofChain ch = some x ∧ K x := by
  unfold ofChainP at h
  split at h
  · refine ⟨_, ?_, h.2⟩
    simp only [ofChain, ofValue, decide_eq_true h.1.1, decide_eq_true h.1.2, Bool.and_self]
  · refine ⟨_, ?_, h.2⟩
    simp only [ofChain, ofValue, decide_eq_true h.1.1, decide_eq_true h.1.2, Bool.and_self]
  · exact h.elim
theorem ofChainP_mk {ch : List PanicEntry} {x : AV} {K : AV → Prop} (h : ofChain ch = some x) (hk : K x) : ofChainP ch K := by
  unfold ofChain at h
  split at h
  · unfold ofValue at h
    split at h
    · split at h
      · rename_i hc
        injection h with h; subst h
        rw [Bool.and_eq_true, decide_eq_true_eq, decide_eq_true_eq] at hc
        exact ⟨hc, hk⟩
      · cases h
    · split at h
      · rename_i hc
        injection h with h; subst h
        rw [Bool.and_eq_true, decide_eq_true_eq, decide_eq_true_eq] at hc
        exact ⟨hc, hk⟩
      · cases h
    · cases h
  · cases h

/-- A call's result that stands for a panic. -/
def panE (x : AV) : AV := .tup [.und, .und, .und, x]
def isPan : AV → Option AV
  | .tup [.und, .und, .und, x] => some x
  | _ => none

/-- Behind an entered call. -/
def afterC (σ : St) (dst : Option Nat) (K : Fi → Prop) (r : AV) (H' : Heap) (n' : Nat) : Prop :=
  match isPan r with
  | none => K (.go (({ slots := mapSlots (hasKey H') dead σ.slots, H := H', next := n', n := σ.n } : St).put dst r))
  | some x => match chainOf x with
    | some ch => K (.pan ch { slots := mapSlots (hasKey H') dead σ.slots, H := H', next := n', n := σ.n })
    | none => False

def seqF (f : St → Prop) (K : Fi → Prop) : Fi → Prop
  | .go σ => f σ
  | .pan ch σ => K (.pan ch σ)

/-- One operation in its turn. -/
def opS (P : Program) (Γ : Cons) (call : CallT) (o : Oper) (σ : St) (K : Fi → Prop) : Prop :=
  match o.op with
  | .store t a x => (storeOp P σ t a x).holds fun σ' => K (.go (σ'.put o.dst .und))
  | .buildSlice _ _ ps => (evM P Γ (σ.freed (.ag (ps.toList.map fun x => σ.eval x.2))).next (σ.freed (.ag (ps.toList.map fun x => σ.eval x.2))).H (σ.freed (.ag (ps.toList.map fun x => σ.eval x.2))).eval o).holds
      fun x => K (.go ((σ.freed (.ag (ps.toList.map fun x => σ.eval x.2))).grow o.dst x.1 x.2))
  | .call { callee := .builtin b, args, argTypes } => match builtinOp P σ o.dst b args.toList argTypes.toList with
    | some r => r.holds fun σ' => K (.go σ')
    | none => (evM P Γ σ.next σ.H σ.eval o).holds fun x => K (.go (σ.grow o.dst x.1 x.2))
  | .call { callee := .value f, args, .. } => match σ.eval f with
    | .fn g first caps => match Γ.find g with
      | some c => match !(noSl c.res) || anyDeep (args.toList.map σ.eval) with
        | true => (evM P Γ σ.next (σ.thaws (ownKeysL (args.toList.map σ.eval))).H (σ.thaws (ownKeysL (args.toList.map σ.eval))).eval o).holds fun x => K (.go ((σ.thaws (ownKeysL (args.toList.map σ.eval))).grow o.dst x.1 x.2))
        | false => (evM P Γ σ.next σ.H σ.eval o).holds fun x => K (.go (σ.grow o.dst x.1 x.2))
      | none => match noEsc P g with
        | true => match args.toList, first, caps with
          | [x], [], [] => K (.go (σ.put o.dst (σ.eval x)))
          | _, _, _ => False
        | false => call (.fn g) (first ++ args.toList.map σ.eval ++ caps) σ.H σ.next (afterC σ o.dst K)
    | .yld l => call (.yld l) (args.toList.map σ.eval) σ.H σ.next (afterC σ o.dst K)
    | _ => False
  | .panic x => match chainOf (σ.eval x) with
    | some ch => K (.pan ch σ)
    | none => False
  | .slice _ y _ _ (some _) => (evM P Γ (σ.freed (σ.eval y)).next (σ.freed (σ.eval y)).H (σ.freed (σ.eval y)).eval o).holds fun x => K (.go ((σ.freed (σ.eval y)).grow o.dst x.1 x.2))
  | .mapUpdate t m i x => (mapSt P σ t (σ.eval m) (σ.eval i) (σ.eval x)).holds fun σ' => K (.go (σ'.put o.dst .und))
  | .insert t m i x => (mapSt P σ t (σ.eval m) (σ.eval i) (σ.eval x)).holds fun σ' => K (.go (σ'.put o.dst .und))
  | _ => (evM P Γ σ.next σ.H σ.eval o).holds fun x => K (.go (σ.grow o.dst x.1 x.2))

/-- The slot by which an operation is guarded. -/
def guardSlot (ops : Array Oper) (j : Nat) : Option Nat := (ops[j]?).bind (·.dst)

def execSeq (P : Program) (Γ : Cons) (call : CallT) (ops : Array Oper) : List Oper → St → (Fi → Prop) → Prop
  | [], σ, K => K (.go σ)
  | o :: rest, σ, K => match o.guard with
    | none => opS P Γ call o σ (seqF (fun σ' => execSeq P Γ call ops rest σ' K) K)
    | some (j, want) => match guardSlot ops j with
      | some t => match look σ.slots t with
        | .d .bool x => bcase x
            (match want with
              | true => opS P Γ call o (σ.put (some t) (.d .bool true)) (seqF (fun σ' => execSeq P Γ call ops rest σ' K) K)
              | false => execSeq P Γ call ops rest ((σ.put (some t) (.d .bool true)).put o.dst .und) K)
            (match want with
              | true => execSeq P Γ call ops rest ((σ.put (some t) (.d .bool false)).put o.dst .und) K
              | false => opS P Γ call o (σ.put (some t) (.d .bool false)) (seqF (fun σ' => execSeq P Γ call ops rest σ' K) K))
        | .und => execSeq P Γ call ops rest (σ.put o.dst .und) K
        | _ => False
      | none => False

section
variable {C : Ctx} {P : Program} {G : World → Prop}

theorem dic_set {R : AV → Value → Prop} {w : World} {kt : TypeId} {k : KK} (hkk : kkAt P kt = some k) {n : DK} {kv : Value} (hk : KeyR k n kv) {v : AV} {val : Value} (hv : R v val) (born : Nat) : ∀ {l : List (DK × AV)} {es : List MapEntry} (i : Nat), MapR R k l es →
    (Fnd P w kt k kv es i none ∧ MapR R k (setE l n v) (es ++ [⟨kv, val, born⟩])) ∨
    ∃ j u, Fnd P w kt k kv es i (some (i + j, u)) ∧ (∃ e, es[j]? = some e ∧ e.key = kv) ∧ MapR R k (setE l n v) (es.modify j fun e => { e with key := kv, val := val })
  | [], [], _, _ => Or.inl ⟨fnd_nil, hk, hv, trivial⟩
  | x :: l, e :: es, i, ⟨h1, h2, h3⟩ => by
    have ih := dic_set (w := w) (v := v) (val := val) hkk hk hv born (i + 1) h3
    have e1 : setE (x :: l) n v = match eqK n x.1 with | true => (n, v) :: l | false => x :: setE l n v := rfl
    rw [e1]
    cases hb : eqK n x.1 with
    | true =>
      have hx : n = x.1 := eqK_eq hb
      exact Or.inr ⟨0, _, fnd_hit hkk hk h1 hb, ⟨e, rfl, by rw [h1.2, ← hx]; exact hk.2.symm⟩, hk, hv, h3⟩
    | false =>
      rcases ih with ⟨g1, g2⟩ | ⟨j, u, g1, g2, g3⟩
      · exact Or.inl ⟨fnd_miss hkk hk h1 hb g1, h1, h2, g2⟩
      · exact Or.inr ⟨j + 1, u, by rw [show i + (j + 1) = i + 1 + j by omega]; exact fnd_miss hkk hk h1 hb g1, by simpa using g2, h1, h2, g3⟩
  | [], _ :: _, _, h => h.elim
  | _ :: _, [], _, h => h.elim

/-- A change of a block that is no row. -/
theorem MRel.chg {ρ : Nat → Nat} {H : Heap} {next : Nat} {w : World} (hm : MRel C ρ H next w) {l : Nat} {ob nb : Bk} {o O : Obj} (hk : (l, ob) ∈ H) (hl : w.heap[ρ l]? = some o) (hc : ∀ c e fr, o ≠ .cells c e fr) (hr : ∀ e t m, ob ≠ .row e t m)
    (hb : ∀ (H' : Heap) (w' : World), Ext C ρ H w ρ H' w' → w'.heap[ρ l]? = some O → BkR C ρ H' w' (ρ l) nb) :
    MRel C ρ (H.up l nb) next (w.putObj (ρ l) O) ∧ Ext C ρ H w ρ (H.up l nb) (w.putObj (ρ l) O) := by
  have hkk := mem_keys hk
  have hlt := lt_of_block hl
  have hext : Ext C ρ H w ρ (H.up l nb) (w.putObj (ρ l) O) := by
    refine ⟨fun b hb => ?_, fun j hj => ⟨by rw [Heap.keys_up]; exact hj, rfl⟩, fun j e' t m hmem => ?_, by simp⟩
    · obtain ⟨h1, h2, h3⟩ := hb
      exact ⟨⟨h1, by simpa using h2, fun j hj => h3 j (by rwa [Heap.keys_up] at hj)⟩, World.putObj_heap_other (fun e => h3 l hkk e.symm)⟩
    · have hne : j ≠ l := fun e => by subst e; exact hr _ _ _ (Heap.mem_unique hm.nodup hk hmem)
      refine ⟨m, (Heap.mem_up_ne hne).2 hmem, Nat.le_refl _, fun c fr hcc => ⟨c, fr, ?_, rfl⟩⟩
      rw [World.putObj_heap_other]; exact hcc
      intro e
      rw [e, hl] at hcc
      injection hcc with hcc
      exact hc _ _ _ hcc
  refine ⟨⟨?_, ?_, ?_, ?_, ?_, ?_⟩, hext⟩
  · exact hm.below.trans ⟨rfl, rfl, rfl, by simp, fun i hi => World.putObj_heap_other (fun e => by have := hm.low l hkk; omega)⟩
  · rw [Heap.keys_up]; exact hm.nodup
  · rw [Heap.keys_up]; exact hm.lt
  · rw [Heap.keys_up]; exact hm.inj
  · rw [Heap.keys_up]; exact hm.low
  · intro j b hjb
    by_cases hj : j = l
    · subst hj
      rw [Heap.mem_up_eq hm.nodup hjb]
      exact hb _ _ hext (World.putObj_heap_same hlt)
    · have hjb' := (Heap.mem_up_ne hj).1 hjb
      exact (hm.mem j b hjb').ext hext (World.putObj_heap_other (fun e => hj (hm.inj j (mem_keys hjb') l hkk e)))

theorem mapSt_sound {ρ : Nat → Nat} {σ σ' : St} {a : Act} {w : World} {t : TypeId} {m i v : AV} {vm vi vv : Value} (h : (mapSt P σ t m i v).Leaf σ') (hs : SRel C ρ σ a w) (hvm : VR C ρ σ.H w m vm) (hvi : VR C ρ σ.H w i vi) (hvv : VR C ρ σ.H w v vv) :
    ∃ w', (Instr.mapUpdate t vm vi vv).run P w = .ok () w' ∧ SRel C ρ σ' a w' ∧ Fr C σ.next ρ σ.H w ρ σ'.H w' ∧ σ'.next = σ.next := by
  unfold mapSt at h
  split at h
  case h_2 => cases h
  rename_i kt et hu
  split at h
  case h_2 => cases h
  rename_i k hk
  split at h
  case h_2 => cases h
  rename_i K n hn
  split at h
  case h_2 => cases h
  rename_i k'' l hf
  split at h
  case h_2 => cases h
  rename_i hc
  cases h
  have e2 := of_decide_eq_true hc
  subst e2
  cases hvm with
  | mp hkk =>
    obtain ⟨es, c, hb, hR⟩ := hs.m.mem _ _ (Heap.find_mem hf)
    have hkr := dkOf_sound hn hvi
    have fin : ∀ (es' : Array MapEntry) (c' : Nat), MapR (VR C ρ σ.H w) k'' (setE l n v) es'.toList → (Instr.mapUpdate t (.map (some (ρ K))) vi vv).run P w = .ok () (w.putObj (ρ K) (.map es' c')) →
        ∃ w', (Instr.mapUpdate t (.map (some (ρ K))) vi vv).run P w = .ok () w' ∧ SRel C ρ { σ with H := σ.H.up K (.dic k'' (setE l n v)) } a w' ∧ Fr C σ.next ρ σ.H w ρ (σ.H.up K (.dic k'' (setE l n v))) w' ∧ σ.next = σ.next := by
      intro es' c' hR' hrun
      obtain ⟨hm', hext⟩ := hs.m.chg (O := .map es' c') (nb := .dic k'' (setE l n v)) (Heap.find_mem hf) hb (fun _ _ _ h => by cases h) (fun _ _ _ h => by cases h) (fun H' w' he hh => ⟨es', c', hh, hR'.imp fun _ _ => he.vr⟩)
      have hfr := hext.fr (n := σ.next) (fun k _ hk => by rwa [Heap.keys_up] at hk)
      exact ⟨_, hrun, hs.frame (next' := σ.next) hm' hfr (fun k hk => by rw [Heap.keys_up]; exact hk), hfr, rfl⟩
    rcases dic_set (w := w) hk hkr hvv c 0 hR with ⟨g1, g2⟩ | ⟨j, u, g1, ⟨e, g2, g4⟩, g3⟩
    · refine fin (es.push ⟨vi, vv, c⟩) (c + 1) (by simpa using g2) ?_
      simp [Instr.mapUpdate, run_underlying hu, MapKept.run_getObj_map hb, key_check hk hkr, fnd_run hk g1, MapKept.run_setObj_map _ hb, Result.andThen, World.putObj]
    · rw [Nat.zero_add] at g1
      have g5 : es[j]? = some e := by simpa using g2
      refine fin (es.modify j fun e => { e with key := vi, val := vv }) c (by simpa using g3) ?_
      simp [Instr.mapUpdate, run_underlying hu, MapKept.run_getObj_map hb, key_check hk hkr, fnd_run hk g1, g5, g4, key_stays hk hkr, MapKept.run_setObj_map _ hb, Result.andThen, World.putObj]

/-- Some state of which K holds has been reached. -/
def Reach (C : Ctx) (σ : St) (ρ : Nat → Nat) (w : World) (K : St → Prop) (a' : Act) (w' : World) : Prop :=
  ∃ ρ' σ', K σ' ∧ SRel C ρ' σ' a' w' ∧ Fr C σ.next ρ σ.H w ρ' σ'.H w' ∧ σ.next ≤ σ'.next

theorem Reach.trans {σ σ1 : St} {ρ ρ1 : Nat → Nat} {w w1 : World} {K : St → Prop} {a' : Act} {w' : World} (hf : Fr C σ.next ρ σ.H w ρ1 σ1.H w1) (hn : σ.next ≤ σ1.next) (h : Reach C σ1 ρ1 w1 K a' w') : Reach C σ ρ w K a' w' := by
  obtain ⟨ρ', σ', h1, h2, h3, h4⟩ := h
  exact ⟨ρ', σ', h1, h2, hf.trans hn h3, Nat.le_trans hn h4⟩

/-- What an entered call owes: how it ends. -/
def CallEnd (C : Ctx) (ρ : Nat → Nat) (H : Heap) (next : Nat) (w : World) (K : AV → Heap → Nat → Prop) (e : Ending) (w' : World) : Prop :=
  ∃ ρ' r H' n', K r H' n' ∧ MRel C ρ' H' n' w' ∧ Fr C next ρ H w ρ' H' w' ∧ next ≤ n' ∧ ((∃ v, e = .returned v ∧ isPan r = none ∧ VR C ρ' H' w' r v) ∨ ∃ x ch, r = panE x ∧ chainOf x = some ch ∧ e = .panicked ch)

/-- What an entered call owes. -/
structure CallSat (P : Program) (G : World → Prop) (call : CallT) : Prop where
  fn : ∀ f args H next K, call (.fn f) args H next K → ∀ (C : Ctx) (ρ : Nat → Nat) (w : World) (vs : List Value), G C.w0 → MRel C ρ H next w → VRs C ρ H w args vs →
    enters P f = true ∧ Calls P f ⟨vs⟩ w (CallEnd C ρ H next w K)
  yld : ∀ l args H next K, call (.yld l) args H next K → ∀ (C : Ctx) (ρ : Nat → Nat) (w : World) (vs : List Value), G C.w0 → MRel C ρ H next w → VRs C ρ H w args vs →
    ∃ fn tmps assign body, (Instr.yield (ρ l) ⟨vs⟩).run P w = .ok (.round (ρ l) fn tmps assign body) w ∧ RoundIn Fence.wide 0 P (ρ l) fn tmps assign body w (CallEnd C ρ H next w K)

theorem chainOf_sound {ρ : Nat → Nat} {H : Heap} {w : World} {x : AV} {v : Value} {ch : List PanicEntry} (h : chainOf x = some ch) (hv : VR C ρ H w x v) : ch = [{ v := v, recovered := false }] ∧ ∃ k u, v = .iface k u := by
  unfold chainOf at h
  split at h
  · injection h with h
    subst h
    cases hv with
    | ifc hr =>
      obtain ⟨cs, ⟨c1, c2, e, ⟨e1, _⟩, e2⟩, hv⟩ := hr
      have e2 : c2 = [] := e2
      subst e1; subst e2
      simp only [List.append_nil] at e
      subst e
      have hv : _ = Value.agg _ := hv
      subst hv
      exact ⟨rfl, _, _, rfl⟩
  · injection h with h
    subst h
    cases hv with
    | ifc hr =>
      obtain ⟨cs, ⟨e, _⟩, hv⟩ := hr
      have hv : cs = [_] := hv
      rw [e] at hv
      injection hv with hv
      subst hv
      exact ⟨rfl, _, _, rfl⟩
  · cases h

theorem ofChain_chain {ch : List PanicEntry} {x : AV} (h : ofChain ch = some x) : chainOf x = some ch := by
  unfold ofChain at h
  split at h
  · unfold ofValue at h
    split at h
    · split at h
      · injection h with h; subst h; rfl
      · cases h
    · split at h
      · injection h with h; subst h; rfl
      · cases h
    · cases h
  · cases h

theorem SRel.g {ρ : Nat → Nat} {σ : St} {a : Act} {w : World} (hG : GMono G) (hC : G C.w0) (h : SRel C ρ σ a w) : G w := hG _ _ h.m.below hC

theorem hasKey_iff {H : Heap} {k : Nat} : hasKey H k = true ↔ k ∈ H.keys := by
  unfold hasKey
  constructor
  · intro h
    split at h
    · rename_i b hb; exact mem_keys (Heap.find_mem hb)
    · cases h
  · intro h
    split
    · rfl
    · rename_i hn
      exfalso
      induction H with
      | nil => simp [Heap.keys] at h
      | cons x r ih =>
        obtain ⟨j, b⟩ := x
        simp only [Heap.find] at hn
        cases hb : Nat.beq j k with
        | true => rw [hb] at hn; cases hn
        | false =>
          rw [hb] at hn
          rcases List.mem_cons.1 h with e | h
          · exact beq_false hb e.symm
          · exact ih h hn

theorem St.thaw_sound {ρ : Nat → Nat} {σ : St} {a : Act} {w : World} (h : SRel C ρ σ a w) (k : Nat) : SRel C ρ (σ.thaw k) a w ∧ Fr C σ.next ρ σ.H w ρ (σ.thaw k).H w ∧ (σ.thaw k).next = σ.next := by
  unfold St.thaw
  split
  · rename_i e t l hf
    obtain ⟨h1, h2, h3⟩ := h.m.thaw (Heap.find_mem hf)
    exact ⟨h.keepTo h1 h2 (h3 0).data (Nat.le_refl _), h3 _, rfl⟩
  · exact ⟨h, Fr.refl _ _ _ _ _, rfl⟩

theorem St.thaws_sound {ρ : Nat → Nat} {a : Act} {w : World} : ∀ (ks : List Nat) {σ : St}, SRel C ρ σ a w → SRel C ρ (σ.thaws ks) a w ∧ Fr C σ.next ρ σ.H w ρ (σ.thaws ks).H w ∧ (σ.thaws ks).next = σ.next
  | [], σ, h => ⟨h, Fr.refl _ _ _ _ _, rfl⟩
  | k :: ks, σ, h => by
    obtain ⟨h1, h2, h3⟩ := St.thaw_sound h k
    obtain ⟨h4, h5, h6⟩ := St.thaws_sound ks h1
    refine ⟨h4, h2.trans (n' := (σ.thaw k).next) (by omega) h5, by rw [St.thaws, h6, h3]⟩

theorem St.freed_sound {ρ : Nat → Nat} {σ : St} {a : Act} {w : World} (h : SRel C ρ σ a w) (x : AV) : SRel C ρ (σ.freed x) a w ∧ Fr C σ.next ρ σ.H w ρ (σ.freed x).H w ∧ (σ.freed x).next = σ.next := by
  unfold St.freed
  split
  · exact ⟨h, Fr.refl _ _ _ _ _, rfl⟩
  · exact St.thaws_sound _ h

theorem noEsc_run {g : FuncId} (h : noEsc P g = true) (x : Value) (w : World) : (callFunc g #[x]).run P w = .ok (.value x) w := by
  unfold noEsc at h
  split at h
  · rename_i fn hf
    simp only [Bool.and_eq_true, Bool.or_eq_true, beq_iff_eq] at h
    obtain ⟨⟨hb, hn⟩, ho⟩ := h
    have e1 : Extern.findNext fn = none := by
      have h1 : Extern.allNextRows.lookup "internal/abi.NoEscape" = none := by kernel_rfl
      have h2 : Extern.allNextRows.lookup "" = none := by kernel_rfl
      unfold Extern.findNext
      rcases ho with ho | ho <;> simp [hn, ho, h1, h2]
    have e2 : Extern.find fn = some Extern.AbiNoEscape.same := by
      have h1 : Extern.allGenericRows.lookup "internal/abi.NoEscape" = none := by kernel_rfl
      have h2 : Extern.allTypedRows.lookup "internal/abi.NoEscape" = none := by kernel_rfl
      have h3 : Extern.allRows.lookup "internal/abi.NoEscape" = some Extern.AbiNoEscape.same := by kernel_rfl
      unfold Extern.find
      simp [hn, h1, h2, h3]
    rw [run_callFunc_extern hf (by rw [hn]; decide) hb e1 e2]
    rfl
  · cases h

/-- A row of bytes of the call's own that is made a string of: nobody writes it from now on. -/
theorem SRel.frozen {ρ : Nat → Nat} {σ : St} {a : Act} {w w' : World} (hs : SRel C ρ σ a w) {k : Nat} {e : TypeId} {t : Ty} {l : List t.T} (hf : σ.H.find k = some (.row e t l)) {fr : Nat × Nat} {c : Array Value} (hc : w.heap[ρ k]? = some (.cells c e (0, 0))) (hc' : w'.heap[ρ k]? = some (.cells c e fr))
    (hoth : ∀ j, j ≠ ρ k → w'.heap[j]? = w.heap[j]?) (hsz : w'.heap.size = w.heap.size) (hbel : Below C.w0.heap.size C.w0 w') : SRel C ρ (σ.thaw k) a w' ∧ Fr C σ.next ρ σ.H w ρ (σ.thaw k).H w' ∧ (σ.thaw k).next = σ.next := by
  have hk := Heap.find_mem hf
  have hkk := mem_keys hk
  have hm := hs.m
  have eT : σ.thaw k = { σ with slots := mapSlots (neK k) (asData t l) σ.slots, H := σ.H.keep (neK k) (asData t l) } := by unfold St.thaw; rw [hf]
  rw [eT]
  have hd : ∀ b, Ok C ρ σ.H w b → Ok C ρ (σ.H.keep (neK k) (asData t l)) w' b ∧ w'.heap[b]? = w.heap[b]? := fun b hb =>
    ⟨⟨hb.1, by rw [hsz]; exact hb.2.1, fun j hj => hb.2.2 j (Heap.keys_keep.1 hj).2⟩, hoth b (fun e => hb.2.2 k hkk e.symm)⟩
  have hokk : Ok C ρ (σ.H.keep (neK k) (asData t l)) w' (ρ k) :=
    ⟨Or.inr (hm.low k hkk), by rw [hsz]; exact hm.key_lt hkk, fun j hj e => by
      obtain ⟨h1, h2⟩ := Heap.keys_keep.1 hj
      exact neK_true h1 (hm.inj j h2 k hkk e)⟩
  have hblk : ∀ j ∈ σ.H.keys, neK k j = true → w'.heap[ρ j]? = w.heap[ρ j]? := fun j hj hp => hoth _ (fun e => neK_true hp (hm.inj j hj k hkk e))
  have hrows : ∀ j e' t' l', (j, Bk.row e' t' l') ∈ σ.H → neK k j = true → (j, Bk.row e' t' l') ∈ σ.H.keep (neK k) (asData t l) :=
    fun j e' t' l' hj hp => Heap.mem_keep.2 ⟨hp, _, hj, rfl⟩
  have hrow' : ∀ j e' t' l', (j, Bk.row e' t' l') ∈ σ.H → neK k j = true → ∃ l'', (j, Bk.row e' t' l'') ∈ σ.H.keep (neK k) (asData t l) ∧ l'.length ≤ l''.length ∧
      ∀ c fr, w.heap[ρ j]? = some (.cells c e' fr) → ∃ c' fr', w'.heap[ρ j]? = some (.cells c' e' fr') ∧ c.size = c'.size :=
    fun j e' t' l' hj hp => ⟨l', hrows j e' t' l' hj hp, Nat.le_refl _, fun c fr h => ⟨c, fr, by rw [hblk j (mem_keys hj) hp]; exact h, rfl⟩⟩
  have hv : ∀ x v, VR C ρ σ.H w x v → VR C ρ (σ.H.keep (neK k) (asData t l)) w' (x.map (neK k) (asData t l)) v := by
    intro x v hx
    refine VR.map hd (fun j hj hp => ⟨Heap.keys_keep.2 ⟨hp, hj⟩, rfl⟩) hrow' ?_ hx
    intro j off len v hp hov
    have := neK_false hp
    subst this
    cases hov with
    | own h hl hcp hmx hb hs' ha =>
      have hu := Heap.mem_unique hm.nodup hk h
      injection hu with hu1 hu2 hu3
      subst hu1; subst hu2
      have hu3 := eq_of_heq hu3
      subst hu3
      obtain ⟨c1, h1, h2, h3, h4, h5⟩ := hm.ownCells hk hl
      rw [hc] at h1
      injection h1 with h1
      injection h1 with h1 _ _
      subst h1
      refine .d ⟨_, ⟨_, _, by rw [h3], by rw [h3]; exact hcp, by rw [h3]; exact h4, ?_⟩, rfl⟩
      by_cases hnil : (l.drop off).take len = []
      · exact Or.inl hnil
      · have hpos : 0 < len := by
          rw [← h3]; exact List.length_pos_iff.2 hnil
        have ha' := ha.resolve_right (fun h => by omega)
        exact Or.inr ⟨ρ j, off * t.size, c, e, fr, ha', hokk, hc', h2, RdL.mono (fun x cs => Rd.mono hd t x cs) _ _ h5⟩
  have hm' : MRel C ρ (σ.H.keep (neK k) (asData t l)) σ.next w' := by
    refine ⟨hbel, Heap.nodup_keep hm.nodup, fun j hj => hm.lt j (Heap.keys_keep.1 hj).2, fun j hj j' hj' => hm.inj j (Heap.keys_keep.1 hj).2 j' (Heap.keys_keep.1 hj').2,
      fun j hj => hm.low j (Heap.keys_keep.1 hj).2, fun j b hj => ?_⟩
    obtain ⟨hp, b', hb', e'⟩ := Heap.mem_keep.1 hj
    subst e'
    exact (hm.mem j b' hb').map hd hv (hblk j (mem_keys hb') hp)
  refine ⟨hs.keepTo hm' hv hd (by rw [hsz]; exact Nat.le_refl _), ⟨hd, fun j _ hj => ⟨(Heap.keys_keep.1 hj).2, rfl⟩, fun j e' t' l' _ hj hj' => hrow' j e' t' l' hj (Heap.keys_keep.1 hj').1, by rw [hsz]; exact Nat.le_refl _⟩, rfl⟩

theorem rdl_range {ok : Nat → Prop} {w : World} : ∀ (l : List Int) (cs : List Value), RdL (Rd ok w (.int .u8)) l cs → ∀ x ∈ l, 0 ≤ x ∧ x ≤ 255
  | [], _, _, x, hx => by cases hx
  | y :: l, cs, ⟨c1, c2, _, ⟨_, h1, h2⟩, h3⟩, x, hx => by
    rcases List.mem_cons.1 hx with rfl | hx
    · exact ⟨h1, h2⟩
    · exact rdl_range l c2 h3 x hx

theorem freeze_size (w : World) (p : Addr) (n : Nat) : (w.freeze p n).heap.size = w.heap.size := by
  unfold World.freeze
  split <;> simp

theorem freeze_other {w : World} {b j : Nat} (h : j ≠ b) (n : Nat) : (w.freeze ⟨b, 0, none⟩ n).heap[j]? = w.heap[j]? := by
  unfold World.freeze
  split
  · rfl
  · simp [Array.getElem?_modify, Ne.symm h]

theorem freeze_same {w : World} {b : Nat} {c : Array Value} {e : TypeId} {fr : Nat × Nat} (h : w.heap[b]? = some (.cells c e fr)) (n : Nat) : ∃ fr', (w.freeze ⟨b, 0, none⟩ n).heap[b]? = some (.cells c e fr') := by
  unfold World.freeze
  split
  · exact ⟨fr, h⟩
  · simp [Array.getElem?_modify, h]

theorem unsafeRow {ρ : Nat → Nat} {σ : St} {a : Act} {w : World} {dst : Option Nat} {pt it ty e : TypeId} {k : Nat} {l : List Int} {m : Int} {c : Array Value} (hs : SRel C ρ σ a w) (hf : σ.H.find k = some (.row e (.int .u8) l)) (hc : w.heap[ρ k]? = some (.cells c e (0, 0)))
    (hlc : l.length * 1 ≤ c.size) (hr : RdL (Rd (Ok C ρ σ.H w) w (.int .u8)) l (c.toList.take (l.length * 1))) (hu : P.underlying pt = some (.pointer e)) (hcl : P.cellsOf e = 1) (h1 : 1 ≤ m) (h2 : m ≤ (l.length : Int)) :
    ∃ v w', (Builtin.unsafeString_ #[pt, it] ty #[.pointer (some ⟨ρ k, 0, none⟩), .int .i64 m]).run P w = .ok v w' ∧ SRel C ρ ((σ.thaw k).put dst (.d .str (strOf (l.take m.toNat)))) (a.put dst v) w' ∧
      Fr C σ.next ρ σ.H w ρ ((σ.thaw k).put dst (.d .str (strOf (l.take m.toNat)))).H w' ∧ ((σ.thaw k).put dst (.d .str (strOf (l.take m.toNat)))).next = σ.next := by
  obtain ⟨n, rfl⟩ : ∃ n : Nat, m = (n : Int) := ⟨m.toNat, by omega⟩
  have hn : n ≤ l.length := by omega
  have hcs := rdl_u8 _ _ hr
  rw [Nat.mul_one] at hcs hlc
  have hrng := rdl_range _ _ hr
  have hlim : l.length ≤ lim := by
    obtain ⟨_, _, _, h3, _, _⟩ := hs.m.mem k _ (Heap.find_mem hf)
    exact h3
  have hsl : (strOf (l.take n)).length = n := by simp [strOf]; omega
  have hcells : ∀ j x, (strOf (l.take n))[j]? = some x → w.cell? ((⟨ρ k, 0, none⟩ : Addr).add j) = some (.int .u8 (x.toNat : Int)) := by
    intro j x hj
    have hjn : j < n := by have := (List.getElem?_eq_some_iff.1 hj).1; omega
    have hjl : j < l.length := by omega
    unfold strOf at hj
    rw [List.getElem?_map, List.getElem?_take, if_pos hjn, List.getElem?_eq_getElem hjl] at hj
    injection hj with hj
    subst hj
    have hcj : c[j]? = some (.int .u8 l[j]) := by
      have : (c.toList.take l.length)[j]? = some (.int .u8 l[j]) := by rw [hcs]; simp [hjl]
      rw [List.getElem?_take, if_pos hjl, Array.getElem?_toList] at this
      exact this
    have hrj := hrng l[j] (List.getElem_mem hjl)
    have hto : ((UInt8.ofNat (l[j]).toNat).toNat : Int) = l[j] := by
      rw [UInt8.toNat_ofNat']
      have : (l[j]).toNat < 256 := by omega
      rw [Nat.mod_eq_of_lt (by simpa using this)]
      omega
    rw [add_mk, Nat.zero_add, hto]
    simp [World.cell?, hc, hcj]
  have hsh : w.shape? (ρ k) = some (e, c.size) := by simp [World.shape?, hc]
  have hrun := Lib.run_unsafeString_row (P := P) w pt it ty e hu hcl (ρ k) c.size hsh (strOf (l.take n)) (by intro e0; rw [e0] at hsl; simp at hsl; omega) (by omega) (by rw [hsl]; unfold lim at hlim; omega) hcells
  rw [hsl] at hrun
  obtain ⟨fr, hfr⟩ : ∃ fr, (w.freeze ⟨ρ k, 0, none⟩ n).heap[ρ k]? = some (.cells c e fr) := freeze_same hc n
  have hoth : ∀ j, j ≠ ρ k → (w.freeze ⟨ρ k, 0, none⟩ n).heap[j]? = w.heap[j]? := fun j hj => freeze_other hj n
  obtain ⟨g1, g2, g3⟩ := hs.frozen (t := .int .u8) (l := l) hf hc hfr hoth (freeze_size _ _ _) (Lib.below_freeze hs.m.below (by show C.w0.heap.size ≤ ρ k; exact hs.m.low k (mem_keys (Heap.find_mem hf))) n)
  exact ⟨_, _, hrun, g1.put (vr_str (by rw [Int.toNat_natCast]; rw [hsl]; omega)), by rw [St.put_H]; exact g2, by rw [St.put_next]; exact g3⟩

theorem unsafeI_sound {ρ : Nat → Nat} {σ σ' : St} {a : Act} {w : World} {dst : Option Nat} {pt it ty : TypeId} {p : AV} {m : Int} {vp : Value} (h : (unsafeStrI P σ dst pt p m).Leaf σ') (hs : SRel C ρ σ a w) (hvp : VR C ρ σ.H w p vp) :
    ∃ v w', (Builtin.unsafeString_ #[pt, it] ty #[vp, .int .i64 m]).run P w = .ok v w' ∧ SRel C ρ σ' (a.put dst v) w' ∧ Fr C σ.next ρ σ.H w ρ σ'.H w' ∧ σ'.next = σ.next := by
  unfold unsafeStrI at h
  split at h
  · rename_i k
    split at h
    · rename_i e l hf
      split at h
      · rename_i e' hu
        split at h
        · rename_i hb
          simp only [Bool.and_eq_true] at hb
          have he := beq_true hb.1
          subst he
          have hcl := beq_true hb.2
          cases h with
          | need hp h =>
            cases h
            cases hvp with
            | eptr hk hi =>
              obtain ⟨c, d1, d2, d3, d4, d5⟩ := hs.m.mem k _ (Heap.find_mem hf)
              rw [Nat.zero_mul]
              exact unsafeRow hs hf d1 d2 d4 hu hcl hp.1 hp.2
        · cases h
      · cases h
    · cases h
  · cases h with
    | need hp h =>
      cases h
      cases hvp
      refine ⟨_, w, by rw [hp]; exact Lib.run_unsafeString_none w pt it ty none, hs.put (vr_str (Nat.zero_le _)), by rw [St.put_H]; exact Fr.refl _ _ _ _ _, by rw [St.put_next]⟩
  · cases h

theorem unsafeStr_sound {ρ : Nat → Nat} {σ σ' : St} {a : Act} {w : World} {dst : Option Nat} {pt it ty : TypeId} {p n : AV} {vp vn : Value} (h : (unsafeStr P σ dst pt p n).Leaf σ') (hs : SRel C ρ σ a w) (hvp : VR C ρ σ.H w p vp) (hvn : VR C ρ σ.H w n vn) :
    ∃ v w', (Builtin.unsafeString_ #[pt, it] ty #[vp, vn]).run P w = .ok v w' ∧ SRel C ρ σ' (a.put dst v) w' ∧ Fr C σ.next ρ σ.H w ρ σ'.H w' ∧ σ'.next = σ.next := by
  unfold unsafeStr at h
  split at h
  · rename_i m
    obtain ⟨e1, _⟩ := int_value hvn
    subst e1
    exact unsafeI_sound h hs hvp
  · cases h

theorem evM_keys {Γ : Cons} {K : Nat} {H : Heap} {arg : Operand → AV} {o : Oper} {r : AV} {new : List (Nat × Bk)} (h : (evM P Γ K H arg o).Leaf (r, new)) : ∀ x ∈ new, x.1 = K := by
  unfold evM at h
  split at h
  · obtain ⟨_, _, h⟩ := T.Leaf.bind h; cases h; intro x hx; cases hx
  · split at h <;> cases h; intro x hx; simp at hx; subst hx; rfl
  · split at h <;> cases h; intro x hx; simp at hx; subst hx; rfl
  · split at h <;> first | (cases h; done) | skip
    split at h <;> first | (cases h; done) | skip
    split at h <;> first | (cases h; done) | skip
    split at h <;> first | (cases h; done) | skip
    split at h <;> first | (cases h; done) | skip
    split at h
    · cases h; intro x hx; cases hx
    cases h
    intro x hx; simp at hx; subst hx; rfl
  · split at h
    · unfold strBytes at h
      split at h <;> first | (cases h; done) | skip
      split at h <;> first | (cases h; done) | skip
      cases h; intro x hx; cases hx
    · obtain ⟨_, _, h⟩ := T.Leaf.bind h; cases h; intro x hx; cases hx
  · split at h <;> first | (cases h; done) | skip
    split at h <;> cases h
    intro x hx; simp at hx; subst hx; rfl
  · split at h <;> first | (cases h; done) | skip
    split at h <;> first | (cases h; done) | skip
    unfold makeI at h
    split at h <;> first | (cases h; done) | skip
    split at h <;> first | (cases h; done) | skip
    · unfold makeV at h
      split at h <;> first | (cases h; done) | skip
      split at h <;> first | (cases h; done) | skip
      cases h with
      | need _ h =>
        cases h
        intro x hx; simp at hx; subst hx; rfl
    split at h <;> first | (cases h; done) | skip
    split at h <;> first | (cases h; done) | skip
    cases h with
    | need _ h =>
      cases h
      intro x hx; simp at hx; subst hx; rfl
  · split at h <;> first | (cases h; done) | skip
    split at h <;> first | (cases h; done) | skip
    split at h <;> first | (cases h; done) | skip
    split at h <;> first | (cases h; done) | skip
    cases h with
    | need _ h =>
      intro x hx
      rw [show new = [] from conRes_new h] at hx
      cases hx
  · unfold appendE at h
    split at h <;> first | (cases h; done) | skip
    split at h <;> first | (cases h; done) | skip
    split at h <;> first | (cases h; done) | skip
    split at h <;> first | (cases h; done) | skip
    split at h <;> first | (cases h; done) | skip
    split at h <;> first | (cases h; done) | skip
    split at h <;> first | (cases h; done) | skip
    unfold appendNew at h
    cases h with
    | need _ h => cases h; intro x hx; cases hx
  · obtain ⟨_, _, h⟩ := T.Leaf.bind h; cases h; intro x hx; cases hx

theorem evM_reach (hG : GMono G) (hC : G C.w0) {Γ : Cons} (hΓ : Γ.ok P G) {ρ : Nat → Nat} {σ : St} {a : Act} {w : World} {o : Oper} {K : St → Prop} {nx : Act → World → Prop} {Q : Exit → Act → World → Prop}
    (hs : SRel C ρ σ a w) (h : (evM P Γ σ.next σ.H σ.eval o).holds fun x => K (σ.grow o.dst x.1 x.2)) (hnx : ∀ a' w', Reach C σ ρ w K a' w' → nx a' w') : o.wp P a w nx Q := by
  obtain ⟨⟨r, new⟩, h1, h2⟩ := T.leaf h
  have hK : σ.next ∉ σ.H.keys := fun h => absurd (hs.m.lt _ h) (Nat.lt_irrefl _)
  refine evM_wp (fun _ h => h) (hs.m.mono (Nat.le_succ σ.next)) hK (Nat.lt_succ_self _) hΓ (hs.g hG hC) (fun x => hs.eval x) h1 (fun v ρ' w' hm' hext hv hb => hnx _ _ ?_)
  have hkeys : ∀ k, k < σ.next → k ∈ Heap.keys (new ++ σ.H) → k ∈ σ.H.keys := by
    intro k hk hm
    simp only [Heap.keys, List.map_append, List.mem_append] at hm
    rcases hm with hm | hm
    · exfalso
      have hnew := evM_keys h1
      obtain ⟨x, hx, e⟩ := List.mem_map.1 hm
      have := hnew x hx
      omega
    · exact hm
  have hfr := hext.fr (n := σ.next) hkeys
  have hsr := (hs.frame (next' := σ.next + 1) hm' hfr (fun k hk => (hext.keys k hk).1)).put (dst := o.dst) hv
  exact ⟨ρ', σ.grow o.dst r new, h2, hsr, by unfold St.grow; rw [St.put_H]; exact hfr, by unfold St.grow; rw [St.put_next]; exact Nat.le_succ _⟩

end
end Go.Vg

namespace Go.Vg
open Go Go.RowKit

section
variable {C : Ctx} {P : Program} {G : World → Prop}

theorem evM_plain {Γ : Cons} {K : Nat} {H : Heap} {arg : Operand → AV} {o : Oper} {x : AV × List (Nat × Bk)} (h : (evM P Γ K H arg o).Leaf x) : ∀ c, o.op ≠ .defer c := by
  intro c e
  simp only [evM, evP, e] at h
  obtain ⟨_, h1, _⟩ := T.Leaf.bind h
  cases h1

theorem opS_plain {Γ : Cons} {call : CallT} {o : Oper} {σ : St} {K : Fi → Prop} (h : opS P Γ call o σ K) : ∀ c, o.op ≠ .defer c := by
  intro c e
  simp only [opS, evM, evP, e] at h
  exact h

theorem opS_sound (hG : GMono G) (hC : G C.w0) {Γ : Cons} (hΓ : Γ.ok P G) {call : CallT} (hcall : CallSat P G call) {ρ : Nat → Nat} {σ : St} {a : Act} {w : World} {o : Oper} {K : Fi → Prop} {nx : Act → World → Prop} {Q : Exit → Act → World → Prop}
    (hs : SRel C ρ σ a w) (h : opS P Γ call o σ K) (hnx : ∀ a' w', Reach C σ ρ w (fun σ' => K (.go σ')) a' w' → nx a' w') (hP : ∀ ch a' w', Reach C σ ρ w (fun σ' => K (.pan ch σ')) a' w' → Q (.panic ch) a' w') (rnd : Option Nat) : o.wpIn (wideR rnd) 0 P a w nx Q := by
  have hnd := opS_plain h
  unfold opS at h
  split at h
  · rename_i t x y ho
    obtain ⟨σ', h1, h2⟩ := T.leaf h
    unfold storeOp at h1
    have fin : ∀ (σ1 : St), SRel C ρ σ1 a w → Fr C σ.next ρ σ.H w ρ σ1.H w → σ1.next = σ.next → (storeSt P σ1 t (σ1.eval x) (σ1.eval y)).Leaf σ' → o.wpIn (wideR rnd) 0 P a w nx Q := by
      intro σ1 hs1 hf1 hn1 h1
      obtain ⟨w', h3, h4, h5, h6⟩ := storeSt_sound h1 hs1 (hs1.eval x) (hs1.eval y)
      refine wpIn_of_wp hnd ?_
      unfold Oper.wp
      rw [show (execOp a.eval o).run P w = .ok .skip w' by simp [execOp, ho, h3]]
      exact hnx _ _ ⟨ρ, _, h2, h4.put .und, by rw [St.put_H]; exact hf1.trans (by rw [hn1]; exact Nat.le_refl _) h5, by rw [St.put_next, h6, hn1]; exact Nat.le_refl _⟩
    split at h1
    · obtain ⟨g1, g2, g3⟩ := St.freed_sound hs (σ.eval y)
      exact fin _ g1 g2 g3 h1
    · exact fin σ hs (Fr.refl _ _ _ _ _) rfl h1
  · rename_i t n ps ho
    obtain ⟨h1, h2, h3⟩ := St.freed_sound hs (.ag (ps.toList.map fun x => σ.eval x.2))
    exact wpIn_of_wp hnd <| evM_reach (K := fun σ' => K (.go σ')) hG hC hΓ h1 h (fun a' w' hr => hnx a' w' (hr.trans h2 (by rw [h3]; exact Nat.le_refl _)))
  · rename_i bt args ts ho
    split at h
    · rename_i r hr
      obtain ⟨σ', h1, h2⟩ := T.leaf h
      unfold builtinOp at hr
      split at hr
      · split at hr
        · rename_i s x t u hargs hts
          have e1 : args.map a.eval = #[a.eval s, a.eval x] := by apply Array.ext'; simp [hargs]
          have e2 : ts = #[t, u] := by apply Array.ext'; simp [hts]
          split at hr
          · rename_i hb
            have hb := beq_true hb
            subst hb
            injection hr with hr
            subst hr
            obtain ⟨v, w', ρ', h3, h4, h5, h6⟩ := appendSt_sound (ty := o.type) h1 hs (hs.eval s) (hs.eval x).soft
            refine wpIn_of_wp hnd ?_
            unfold Oper.wp
            rw [show (execOp a.eval o).run P w = .ok (.value v) w' by subst e2; simp [execOp, ho, resolve, invoke, builtin, e1, h3]]
            exact hnx _ _ ⟨ρ', _, h2, h4, h5, h6⟩
          · have key : ∀ v w' ρ', (Builtin.append_ #[t, u] o.type #[a.eval s, a.eval x]).run P w = .ok v w' → SRel C ρ' σ' (a.put o.dst v) w' → Fr C σ.next ρ σ.H w ρ' σ'.H w' → σ.next ≤ σ'.next → o.wpIn (wideR rnd) 0 P a w nx Q := by
              intro v w' ρ' h3 h4 h5 h6
              refine wpIn_of_wp hnd ?_
              unfold Oper.wp
              rw [show (execOp a.eval o).run P w = .ok (.value v) w' by subst e2; simp [execOp, ho, resolve, invoke, builtin, e1, h3]]
              exact hnx _ _ ⟨ρ', _, h2, h4, h5, h6⟩
            split at hr
            · injection hr with hr
              subst hr
              obtain ⟨v, w', ρ', h3, h4, h5, h6⟩ := appendZ_sound (ty := o.type) h1 hs (hs.eval s) (hs.eval x)
              exact key v w' ρ' h3 h4 h5 h6
            injection hr with hr
            subst hr
            obtain ⟨v, w', ρ', h3, h4, h5, h6⟩ := appendStr_sound (ty := o.type) h1 hs (hs.eval s) (hs.eval x)
            exact key v w' ρ' h3 h4 h5 h6
        · injection hr with hr; subst hr; cases h1
      · split at hr
        · rename_i d x t u hargs hts
          have e1 : args.map a.eval = #[a.eval d, a.eval x] := by apply Array.ext'; simp [hargs]
          have e2 : ts = #[t, u] := by apply Array.ext'; simp [hts]
          split at hr
          · injection hr with hr
            subst hr
            obtain ⟨v, w', h3, h4, h5, h6⟩ := copyOp_sound (t2 := u) (ty := o.type) h1 hs (hs.eval d).soft (hs.eval x).soft
            refine wpIn_of_wp hnd ?_
            unfold Oper.wp
            rw [show (execOp a.eval o).run P w = .ok (.value v) w' by subst e2; simp [execOp, ho, resolve, invoke, builtin, e1, h3]]
            exact hnx _ _ ⟨ρ, _, h2, h4, h5, by rw [h6]; exact Nat.le_refl _⟩
          · injection hr with hr; subst hr; cases h1
        · injection hr with hr; subst hr; cases h1
      · split at hr
        · rename_i p n pt it hargs hts
          have e1 : args.map a.eval = #[a.eval p, a.eval n] := by apply Array.ext'; simp [hargs]
          have e2 : ts = #[pt, it] := by apply Array.ext'; simp [hts]
          injection hr with hr
          subst hr
          obtain ⟨v, w', h3, h4, h5, h6⟩ := unsafeStr_sound (it := it) (ty := o.type) h1 hs (hs.eval p) (hs.eval n)
          refine wpIn_of_wp hnd ?_
          unfold Oper.wp
          rw [show (execOp a.eval o).run P w = .ok (.value v) w' by subst e2; simp [execOp, ho, resolve, invoke, builtin, e1, h3]]
          exact hnx _ _ ⟨ρ, _, h2, h4, h5, by rw [h6]; exact Nat.le_refl _⟩
        · injection hr with hr; subst hr; cases h1
      · cases hr
    · exact wpIn_of_wp hnd <| evM_reach (K := fun σ' => K (.go σ')) hG hC hΓ hs h hnx
  · rename_i f args ts ho
    split at h
    · rename_i g first caps hf
      split at h
      · rename_i c hc
        split at h
        · obtain ⟨h1, h2, h3⟩ := St.thaws_sound (ownKeysL (args.toList.map σ.eval)) hs
          rw [← h3] at h
          exact wpIn_of_wp hnd <| evM_reach (K := fun σ' => K (.go σ')) hG hC hΓ h1 h (fun a' w' hr => hnx a' w' (hr.trans h2 (by rw [h3]; exact Nat.le_refl _)))
        · exact wpIn_of_wp hnd <| evM_reach (K := fun σ' => K (.go σ')) hG hC hΓ hs h hnx
      · split at h
        · rename_i hne
          split at h
          · rename_i x hargs
            have hfv := hs.eval f
            rw [hf] at hfv
            generalize hvf : a.eval f = vf at hfv
            cases hfv with
            | fn h1 h2 =>
              cases h1
              cases h2
              refine wpIn_of_wp hnd ?_
              unfold Oper.wp
              have e1 : args.map a.eval = #[a.eval x] := by apply Array.ext'; simp [hargs]
              rw [show (execOp a.eval o).run P w = .ok (.value (a.eval x)) w by
                simp only [execOp, ho, resolve, Deferred.ofValue, hvf, Sem.run_bind, Sem.run_pure, Result.andThen_ok, invoke]
                rw [e1]
                exact noEsc_run hne _ w]
              exact hnx _ _ ⟨ρ, _, h, hs.put (hs.eval x), by rw [St.put_H]; exact Fr.refl _ _ _ _ _, by rw [St.put_next]; exact Nat.le_refl _⟩
          · exact h.elim
        · have hfv := hs.eval f
          rw [hf] at hfv
          generalize hvf : a.eval f = vf at hfv
          cases hfv with
          | fn h1 h2 =>
            obtain ⟨he, hcl⟩ := hcall.fn _ _ _ _ _ h C ρ w _ hC hs.m ((h1.append (VRs.ofMap (fun x => hs.eval x) args.toList)).append h2)
            refine wpIn_of_wp hnd ?_
            unfold Oper.wp
            rw [call_run ho hvf he]
            show Calls P g _ w _
            refine hcl.mono ?_
            rintro e w' ⟨ρ', r, H', n', hK, hm', hfr, hn, hend⟩
            have hmap : ∀ x v, VR C ρ σ.H w x v → VR C ρ' H' w' (x.map (hasKey H') dead) v := by
              intro x v hx
              refine VR.map hfr.data (fun k hk hp => ⟨hasKey_iff.1 hp, (hfr.keys k (hs.m.lt k hk) (hasKey_iff.1 hp)).2⟩) (fun k e t l hk hp => ?_) (fun _ _ _ _ _ _ => .no) hx
              exact hfr.rows k e t l (hs.m.lt k (mem_keys hk)) hk (hasKey_iff.1 hp)
            rcases hend with ⟨v, rfl, hp, hv⟩ | ⟨x, ch, rfl, hc, rfl⟩
            · simp only [afterC, hp] at hK
              exact hnx _ _ ⟨ρ', _, hK, (hs.keepTo hm' hmap hfr.data hfr.size).put hv, by rw [St.put_H]; exact hfr, by rw [St.put_next]; exact hn⟩
            · simp only [afterC, isPan, panE, hc] at hK
              exact hP ch _ _ ⟨ρ', _, hK, hs.keepTo hm' hmap hfr.data hfr.size, hfr, hn⟩
    · rename_i l hf
      have hfv := hs.eval f
      rw [hf] at hfv
      generalize hvf : a.eval f = vf at hfv
      cases hfv with
      | yld hl =>
        obtain ⟨fn, tmps, assign, body, hy, hr⟩ := hcall.yld _ _ _ _ _ h C ρ w _ hC hs.m (VRs.ofMap (fun x => hs.eval x) args.toList)
        refine ⟨fun _ _ => trivial, ?_⟩
        rw [Oper.semAt_eq _ _ _ hnd]
        rw [show (execOp a.eval o).run P w = .ok (.round (ρ l) fn tmps assign body) w by
          simp only [execOp, ho, resolve, Deferred.ofValue, hvf, Sem.run_bind, Sem.run_pure, Result.andThen_ok, invoke]
          have e1 : #[] ++ args.map a.eval ++ #[] = ⟨args.toList.map a.eval⟩ := by apply Array.ext'; simp
          simp only [Array.empty_append, Array.append_empty] at e1 ⊢
          rw [e1]; exact hy]
        refine ⟨fun h => (by cases h), ?_⟩
        refine RoundIn.mono hr ?_
        rintro e w' ⟨ρ', r, H', n', hK, hm', hfr, hn, hend⟩
        have hmap : ∀ x v, VR C ρ σ.H w x v → VR C ρ' H' w' (x.map (hasKey H') dead) v := by
          intro x v hx
          refine VR.map hfr.data (fun k hk hp => ⟨hasKey_iff.1 hp, (hfr.keys k (hs.m.lt k hk) (hasKey_iff.1 hp)).2⟩) (fun k e t l hk hp => ?_) (fun _ _ _ _ _ _ => .no) hx
          exact hfr.rows k e t l (hs.m.lt k (mem_keys hk)) hk (hasKey_iff.1 hp)
        rcases hend with ⟨v, rfl, hp, hv⟩ | ⟨x, ch, rfl, hc, rfl⟩
        · simp only [afterC, hp] at hK
          exact hnx _ _ ⟨ρ', _, hK, (hs.keepTo hm' hmap hfr.data hfr.size).put hv, by rw [St.put_H]; exact hfr, by rw [St.put_next]; exact hn⟩
        · simp only [afterC, isPan, panE, hc] at hK
          exact hP ch _ _ ⟨ρ', _, hK, hs.keepTo hm' hmap hfr.data hfr.size, hfr, hn⟩
    · exact h.elim
  · rename_i x ho
    split at h
    · rename_i ch hch
      obtain ⟨e1, k, u, e2⟩ := chainOf_sound hch (hs.eval x)
      refine wpIn_of_wp hnd ?_
      unfold Oper.wp
      rw [show (execOp a.eval o).run P w = .halt (.panic (a.eval x)) w by simp [execOp, ho, Instr.panic, e2, goPanic]]
      have := hP ch a w ⟨ρ, σ, h, hs, Fr.refl _ _ _ _ _, Nat.le_refl _⟩
      rw [e1] at this
      exact this
    · exact h.elim
  · rename_i t y lo hi mx ho
    obtain ⟨h1, h2, h3⟩ := St.freed_sound hs (σ.eval y)
    exact wpIn_of_wp hnd <| evM_reach (K := fun σ' => K (.go σ')) hG hC hΓ h1 h (fun a' w' hr => hnx a' w' (hr.trans h2 (by rw [h3]; exact Nat.le_refl _)))
  · rename_i t m i x ho
    obtain ⟨σ', h1, h2⟩ := T.leaf h
    obtain ⟨w', h3, h4, h5, h6⟩ := mapSt_sound h1 hs (hs.eval m) (hs.eval i) (hs.eval x)
    refine wpIn_of_wp hnd ?_
    unfold Oper.wp
    rw [show (execOp a.eval o).run P w = .ok .skip w' by simp [execOp, ho, h3]]
    exact hnx _ _ ⟨ρ, _, h2, h4.put .und, by rw [St.put_H]; exact h5, by rw [St.put_next, h6]; exact Nat.le_refl _⟩
  · rename_i t m i x ho
    obtain ⟨σ', h1, h2⟩ := T.leaf h
    obtain ⟨w', h3, h4, h5, h6⟩ := mapSt_sound h1 hs (hs.eval m) (hs.eval i) (hs.eval x)
    refine wpIn_of_wp hnd ?_
    unfold Oper.wp
    rw [show (execOp a.eval o).run P w = .ok .skip w' by simp [execOp, ho, h3]]
    exact hnx _ _ ⟨ρ, _, h2, h4.put .und, by rw [St.put_H]; exact h5, by rw [St.put_next, h6]; exact Nat.le_refl _⟩
  · exact wpIn_of_wp hnd <| evM_reach (K := fun σ' => K (.go σ')) hG hC hΓ hs h hnx

theorem tmps_get {ρ : Nat → Nat} {σ : St} {a : Act} {w : World} (hs : SRel C ρ σ a w) {t : Nat} {b : Bool} (h : look σ.slots t = .d .bool b) : a.tmps[t]? = some (.bool b) := by
  have := hs.slots t
  rw [h] at this
  have e := bool_value this
  rw [Array.getD_eq_getD_getElem?] at e
  cases hg : a.tmps[t]? with
  | none => rw [hg] at e; cases e
  | some v => rw [hg] at e; simp at e; rw [e]

theorem yielded_bool {ρ : Nat → Nat} {σ : St} {a : Act} {w : World} (hs : SRel C ρ σ a w) {ops : Array Oper} {j t : Nat} (ht : guardSlot ops j = some t) {b : Bool} (h : look σ.slots t = .d .bool b) : yielded ops a.tmps j = some b := by
  unfold yielded
  unfold guardSlot at ht
  rw [ht]
  simp [tmps_get hs h]

theorem yielded_und {ρ : Nat → Nat} {σ : St} {a : Act} {w : World} (hs : SRel C ρ σ a w) {ops : Array Oper} {j t : Nat} (ht : guardSlot ops j = some t) (h : look σ.slots t = .und) : yielded ops a.tmps j = none := by
  unfold yielded
  unfold guardSlot at ht
  rw [ht]
  have := hs.slots t
  rw [h] at this
  have e : a.tmps.getD t undef = undef := by generalize a.tmps.getD t undef = v at this; cases this; rfl
  rw [Array.getD_eq_getD_getElem?] at e
  simp only [Option.bind_some]
  cases hg : a.tmps[t]? with
  | none => rfl
  | some v => rw [hg] at e; simp at e; rw [e]; rfl

/-- A slot may be written as what it is. -/
theorem SRel.refine {ρ : Nat → Nat} {σ : St} {a : Act} {w : World} (hs : SRel C ρ σ a w) {t : Nat} {x : AV} (h : look σ.slots t = x) : SRel C ρ (σ.put (some t) x) a w := by
  refine ⟨by rw [St.put_H, St.put_next]; exact hs.m, fun u => ?_, ?_, by rw [St.put_H]; exact hs.defers⟩
  · rw [St.put_H]
    simp only [St.put]
    split
    · simp only [look]
      cases hu : Nat.beq t u with
      | true => have := beq_true hu; subst this; simp only; rw [← h]; exact hs.slots t
      | false => simp only; rw [look_del_ne (beq_false hu)]; exact hs.slots u
    · exact hs.slots u
  · simp only [St.put]; split <;> exact hs.size

/-- The first of several operations. -/
theorem execSeq_step (hG : GMono G) (hC : G C.w0) {Γ : Cons} (hΓ : Γ.ok P G) {call : CallT} (hcall : CallSat P G call) {ops : Array Oper} {Q : Exit → Act → World → Prop} {K : Fi → Prop} {o : Oper} {rest : List Oper}
    {ρ : Nat → Nat} {σ : St} {a : Act} {w : World} {nx : Act → World → Prop} (hs : SRel C ρ σ a w) (h : execSeq P Γ call ops (o :: rest) σ K)
    (hnx : ∀ a' w', Reach C σ ρ w (fun σ' => execSeq P Γ call ops rest σ' K) a' w' → nx a' w') (hP : ∀ ch a' w', Reach C σ ρ w (fun σ' => K (.pan ch σ')) a' w' → Q (.panic ch) a' w') (rnd : Option Nat) :
    if Region.wanted o (yielded ops a.tmps) then o.wpIn (wideR rnd) 0 P a w nx Q else (∀ f, o.about P w a.eval = some f → (wideR rnd).fn f) ∧ nx (a.put o.dst undef) w := by
  have run : ∀ {ρ1 : Nat → Nat} {σ1 : St}, SRel C ρ1 σ1 a w → Fr C σ.next ρ σ.H w ρ1 σ1.H w → σ.next ≤ σ1.next → (opS P Γ call o σ1 (seqF (fun σ' => execSeq P Γ call ops rest σ' K) K)) → o.wpIn (wideR rnd) 0 P a w nx Q := by
    intro ρ1 σ1 hs1 hf1 hn1 h1
    exact opS_sound hG hC hΓ hcall hs1 h1 (fun a' w' hr => hnx a' w' (hr.trans hf1 hn1)) (fun ch a' w' hr => hP ch a' w' (hr.trans hf1 hn1)) rnd
  have skip : ∀ {ρ1 : Nat → Nat} {σ1 : St}, SRel C ρ1 σ1 a w → Fr C σ.next ρ σ.H w ρ1 σ1.H w → σ.next ≤ σ1.next → execSeq P Γ call ops rest (σ1.put o.dst .und) K → (∀ f, o.about P w a.eval = some f → (wideR rnd).fn f) ∧ nx (a.put o.dst undef) w := by
    intro ρ1 σ1 hs1 hf1 hn1 h1
    exact ⟨fun _ _ => trivial, hnx _ _ ⟨ρ1, _, h1, hs1.put .und, by rw [St.put_H]; exact hf1, by rw [St.put_next]; exact hn1⟩⟩
  have hput : ∀ (t : Nat) (x : AV), (σ.put (some t) x).H = σ.H ∧ (σ.put (some t) x).next = σ.next := fun t x => ⟨St.put_H _ _ _, St.put_next _ _ _⟩
  simp only [execSeq] at h
  split at h
  · rename_i hg
    rw [if_pos (by simp [Region.wanted, hg])]
    exact (run hs (Fr.refl _ _ _ _ _) (Nat.le_refl _) h)
  · rename_i j want hg
    split at h
    · rename_i t ht
      split at h
      · rename_i x hx
        cases x with
        | true =>
          have hy := yielded_bool hs ht hx
          have hs' := hs.refine hx
          have hf' : Fr C σ.next ρ σ.H w ρ (σ.put (some t) (.d .bool true)).H w := by rw [(hput t _).1]; exact Fr.refl _ _ _ _ _
          have hn' : σ.next ≤ (σ.put (some t) (.d .bool true)).next := by rw [(hput t _).2]; exact Nat.le_refl _
          cases want with
          | true =>
            rw [if_pos (by simp [Region.wanted, hg, hy])]
            exact (run hs' hf' hn' h)
          | false =>
            rw [if_neg (by simp [Region.wanted, hg, hy])]
            exact skip hs' hf' hn' h
        | false =>
          have hy := yielded_bool hs ht hx
          have hs' := hs.refine hx
          have hf' : Fr C σ.next ρ σ.H w ρ (σ.put (some t) (.d .bool false)).H w := by rw [(hput t _).1]; exact Fr.refl _ _ _ _ _
          have hn' : σ.next ≤ (σ.put (some t) (.d .bool false)).next := by rw [(hput t _).2]; exact Nat.le_refl _
          cases want with
          | true =>
            rw [if_neg (by simp [Region.wanted, hg, hy])]
            exact skip hs' hf' hn' h
          | false =>
            rw [if_pos (by simp [Region.wanted, hg, hy])]
            exact (run hs' hf' hn' h)
      · rename_i hx
        have hy := yielded_und hs ht hx
        rw [if_neg (by simp [Region.wanted, hg, hy])]
        exact skip hs (Fr.refl _ _ _ _ _) (Nat.le_refl _) h
      · exact h.elim
    · exact h.elim

theorem execSeq_sound (hG : GMono G) (hC : G C.w0) {Γ : Cons} (hΓ : Γ.ok P G) {call : CallT} (hcall : CallSat P G call) {ops : Array Oper} {Q : Exit → Act → World → Prop} {K : Fi → Prop} :
    ∀ (l : List Oper) {ρ : Nat → Nat} {σ : St} {a : Act} {w : World}, SRel C ρ σ a w → execSeq P Γ call ops l σ K → (∀ a' w', Reach C σ ρ w (fun σ' => K (.go σ')) a' w' → Q .normal a' w') → (∀ ch a' w', Reach C σ ρ w (fun σ' => K (.pan ch σ')) a' w' → Q (.panic ch) a' w') → ∀ rnd : Option Nat, wpListIn (wideR rnd) 0 P ops Q l a w
  | [], ρ, σ, a, w, hs, h, hQ, hP, rnd => wpListIn_nil (hQ a w ⟨ρ, σ, h, hs, Fr.refl _ _ _ _ _, Nat.le_refl _⟩)
  | o :: rest, ρ, σ, a, w, hs, h, hQ, hP, rnd => by
    unfold wpListIn
    refine execSeq_step hG hC hΓ hcall hs h ?_ hP rnd
    rintro a' w' ⟨ρ', σ', h2, h3, h4, h5⟩
    exact execSeq_sound hG hC hΓ hcall rest h3 h2 (fun a'' w'' hr => hQ a'' w'' (hr.trans h4 h5)) (fun ch a'' w'' hr => hP ch a'' w'' (hr.trans h4 h5)) rnd
end
end Go.Vg

namespace Go.Vg
open Go Go.RowKit

def binding (e : Edge) : Bool := Region.binds .any e

def tmpsOf : List Operand → List Nat
  | [] => []
  | .tmp t :: r => t :: tmpsOf r
  | _ :: r => tmpsOf r

/-- The slots that an operation looks at. -/
def readsOf (ops : Array Oper) (o : Oper) : List Nat :=
  match o.guard with
  | none => tmpsOf o.op.operands.toList
  | some (j, _) => match guardSlot ops j with
    | some t => t :: tmpsOf o.op.operands.toList
    | none => tmpsOf o.op.operands.toList

def hasEdge (o : Oper) (j : Nat) : Bool := o.after.toList.any fun e => binding e && Nat.beq e.on j

/-- Slot t, read by operation i, is written by none of these, or by one that comes before i, or by one that comes behind it. -/
def chkRead (i : Nat) (o : Oper) (t : Nat) : List Oper → Nat → Bool
  | [], _ => true
  | p :: r, j => (match p.dst with
    | some d => match Nat.beq d t with
      | true => (Nat.blt j i && hasEdge o j) || (Nat.blt i j && hasEdge p i)
      | false => true
    | none => true) && chkRead i o t r (j + 1)

def chkDst (i : Nat) (d : Nat) : List Oper → Nat → Bool
  | [], _ => true
  | p :: r, j => (match p.dst with
    | some d' => match Nat.beq d d' with
      | true => Nat.beq i j
      | false => true
    | none => true) && chkDst i d r (j + 1)

def chkPre (ops : Array Oper) (pre : List Oper) : List Oper → Nat → Bool
  | [], _ => true
  | o :: r, i => (readsOf ops o).all (fun t => chkRead i o t pre 0) && (match o.dst with | some d => chkDst i d pre 0 | none => true) && chkPre ops pre r (i + 1)

/-- Each edge leads back. -/
def chkEdges : List Oper → Nat → Bool
  | [], _ => true
  | o :: r, i => o.after.toList.all (fun e => !binding e || Nat.blt e.on i) && chkEdges r (i + 1)

/-- What comes before an operation, as bits. -/
def maskEdges (acc : List Nat) : List Edge → Nat
  | [] => 0
  | e :: r => match binding e with
    | true => ((2 ^ e.on) ||| acc.getD e.on 0) ||| maskEdges acc r
    | false => maskEdges acc r

def masks : List Oper → List Nat → List Nat
  | [], acc => acc
  | o :: r, acc => masks r (acc ++ [maskEdges acc o.after.toList])

/-- From m on each operation comes behind all others. -/
def chkTail (m : Nat) : List Nat → Nat → Bool
  | [], _ => true
  | x :: r, j => (match Nat.ble m j with | true => Nat.beq x (2 ^ j - 1) | false => true) && chkTail m r (j + 1)

/-- The first place from which on each operation comes behind all others. -/
def splitAt (l : List Nat) : Nat :=
  go l.reverse l.length
where go : List Nat → Nat → Nat
  | x :: r, n + 1 => match Nat.beq x (2 ^ n - 1) with | true => go r n | false => n + 1
  | _, n => n

inductive Out where
  | ran (r : AV) (new : List (Nat × Bk))
  | skip
  /-- a store: block k becomes b -/
  | st (k : Nat) (b : Bk)

def Out.av : Out → AV
  | .ran r _ => r
  | .skip => .und
  | .st _ _ => .und
def Out.new : Out → List (Nat × Bk)
  | .ran _ n => n
  | .skip => []
  | .st _ _ => []
def Out.sts : Out → List (Nat × Bk)
  | .st k b => [(k, b)]
  | _ => []

def St.step (σ : St) (o : Oper) (u : Out) : St := ({ σ with H := u.new ++ σ.H } : St).put o.dst u.av

/-- Which operation stores into which block: the operation's own number, the block's key. -/
def skGet : List (Nat × Nat) → Nat → Option Nat
  | [], _ => none
  | (K, k) :: r, K' => match Nat.beq K K' with | true => some k | false => skGet r K'

/-- The blocks that are laid in the region, as they are then. -/
def allocs (P : Program) : List Oper → Nat → Heap
  | [], _ => []
  | o :: r, K => match o.op with
    | .alloc e => match zeroAVs P e with
      | some zs => (K, .vars e zs) :: allocs P r (K + 1)
      | none => allocs P r (K + 1)
    | _ => allocs P r (K + 1)

/-- The block that a slot will refer to, where the region lays it. -/
def laidAs (t : Nat) : List Oper → Nat → Option Nat
  | [], _ => none
  | o :: r, K => match o.op with
    | .alloc _ => match o.dst with
      | some d => match Nat.beq d t with
        | true => some K
        | false => laidAs t r (K + 1)
      | none => laidAs t r (K + 1)
    | _ => laidAs t r (K + 1)

def laidOp (a : Operand) (l : List Oper) (K : Nat) : Option Nat :=
  match a with
  | .tmp t => laidAs t l K
  | _ => none

/-- The operand whose block an address lies in, where the region computes the address (the operations from the last to the first). -/
def rootOf : List Oper → Operand → Operand
  | [], a => a
  | o :: r, a => match a with
    | .tmp t => match o.dst with
      | some d => match Nat.beq d t with
        | true => match o.op with
          | .fieldAddr _ x _ => rootOf r x
          | _ => a
        | false => rootOf r a
      | none => rootOf r a
    | _ => a

def skKey (σ : St) (pre : List Oper) (base : Nat) (a : Operand) : Option Nat :=
  match laidOp (rootOf pre.reverse a) pre base with
  | some k => some k
  | none => match σ.eval (rootOf pre.reverse a) with
    | .ptr k _ => some k
    | _ => none

def skOf (σ : St) (pre : List Oper) (base : Nat) (Hx : Heap) : List Oper → Nat → Option (List (Nat × Nat))
  | [], _ => some []
  | o :: r, K => match skOf σ pre base Hx r (K + 1) with
    | some l => match o.op with
      | .store _ a _ => match skKey σ pre base a with
        | some k => match Hx.find k with
          | some (.vars _ _) => some ((K, k) :: l)
          | _ => none
        | none => none
      | _ => some l
    | none => none

def skHas : List (Nat × Nat) → Nat → Bool
  | [], _ => false
  | (_, j) :: r, k => match Nat.beq j k with | true => true | false => skHas r k

def Bk.veil : Bk → Bk
  | .vars _ _ => .any
  | b => b

/-- The blocks into which is stored are not looked at. -/
def veil (sk : List (Nat × Nat)) : Heap → Heap
  | [] => []
  | (k, b) :: r => (k, match skHas sk k with | true => b.veil | false => b) :: veil sk r

def veilS (sk : List (Nat × Nat)) (H : Heap) : Heap :=
  match sk with
  | [] => H
  | x :: r => veil (x :: r) H

def putBlocks (H : Heap) : List (Nat × Bk) → Heap
  | [] => H
  | (k, b) :: r => (putBlocks H r).up k b

def olds (H : Heap) : List (Nat × Nat) → List (Nat × Bk)
  | [] => []
  | (_, k) :: r => match H.find k with
    | some b => (k, b) :: olds H r
    | none => olds H r

/-- Behind the stores: the blocks are as they were, or as they have been stored. -/
def unveil (H : Heap) (sk : List (Nat × Nat)) (x : St × List (Nat × Bk)) : St :=
  match sk with
  | [] => x.1
  | y :: r => { x.1 with H := putBlocks (putBlocks x.1.H (olds H (y :: r))) x.2 }

/-- What a store makes of block k. -/
def stB (P : Program) (Hs : Heap) (k : Nat) (t : TypeId) (a x : AV) : T Bk :=
  match a with
  | .ptr k' off => match Nat.beq k' k with
    | true => match Hs.find k, cellsOf x, sizeAt P t with
      | some (.vars e cells), some cs, some n => match Nat.beq cs.length n && Nat.ble (off + n) cells.length with
        | true => .ok (.vars e (over cells off cs))
        | false => .bad
      | _, _, _ => .bad
    | false => .bad
  | _ => .bad

/-- One operation of the part whose order is open. -/
def evS (P : Program) (Γ : Cons) (sk : List (Nat × Nat)) (Hs : Heap) (K : Nat) (H0 : Heap) (arg : Operand → AV) (o : Oper) : T Out :=
  match o.op with
  | .store t a x => match skGet sk K with
    | some k => (stB P Hs k t (arg a) (arg x)).bind fun b => .ok (.st k b)
    | none => .bad
  | _ => match skHas sk K with
    | false => (evM P Γ K H0 arg o).bind fun x => .ok (.ran x.1 x.2)
    | true => match o.op with
      | .alloc e => match zeroAVs P e with
        | some _ => .ok (.ran (.ptr K 0) [(K, .any)])
        | none => .bad
      | _ => .bad

/-- The operations before the split, in the order of the text; memory is read as it was at the region's beginning. -/
def preT (P : Program) (Γ : Cons) (ops : Array Oper) (sk : List (Nat × Nat)) (Hs : Heap) (H0 : Nat → Heap → Heap) : List Oper → Nat → St → List (Nat × Bk) → T (St × List (Nat × Bk))
  | [], _, σ, s => .ok (σ, s)
  | o :: rest, K, σ, s => match o.guard with
    | none => (evS P Γ sk Hs K (H0 K σ.H) σ.eval o).bind fun u => preT P Γ ops sk Hs H0 rest (K + 1) (σ.step o u) (u.sts ++ s)
    | some (j, want) => match guardSlot ops j with
      | some t => match look σ.slots t with
        | .d .bool x => .ite x
            (match want with
              | true => (evS P Γ sk Hs K (H0 K σ.H) (σ.put (some t) (.d .bool true)).eval o).bind fun u => preT P Γ ops sk Hs H0 rest (K + 1) ((σ.put (some t) (.d .bool true)).step o u) (u.sts ++ s)
              | false => preT P Γ ops sk Hs H0 rest (K + 1) ((σ.put (some t) (.d .bool true)).step o .skip) s)
            (match want with
              | true => preT P Γ ops sk Hs H0 rest (K + 1) ((σ.put (some t) (.d .bool false)).step o .skip) s
              | false => (evS P Γ sk Hs K (H0 K σ.H) (σ.put (some t) (.d .bool false)).eval o).bind fun u => preT P Γ ops sk Hs H0 rest (K + 1) ((σ.put (some t) (.d .bool false)).step o u) (u.sts ++ s))
        | .und => preT P Γ ops sk Hs H0 rest (K + 1) (σ.step o .skip) s
        | _ => .bad
      | none => .bad

/-- The blocks into which is stored only behind operation i. -/
def lateSk (pre : List Oper) (base i : Nat) : List (Nat × Nat) → List (Nat × Nat)
  | [] => []
  | (K, k) :: r => match pre[K - base]? with
    | some o => match hasEdge o i with
      | true => (K, k) :: lateSk pre base i r
      | false => lateSk pre base i r
    | none => lateSk pre base i r

/-- The blocks that the region has laid ahead of an operation. -/
def pickH (sk : List (Nat × Nat)) (o : Oper) (base : Nat) : Heap → Heap
  | [] => []
  | (k, b) :: r => match Nat.ble base k with
    | true => match hasEdge o (k - base) && !(skHas sk k) with
      | true => (k, b) :: pickH sk o base r
      | false => pickH sk o base r
    | false => []

def pickO (sk : List (Nat × Nat)) (base : Nat) (N : Heap) : Option Oper → Heap
  | some o => pickH sk o base N
  | none => []

/-- Memory as operation K may read it; N is memory as it is in the order of the text. -/
def lateH (pre : List Oper) (base : Nat) (sk : List (Nat × Nat)) (Hs H : Heap) (K : Nat) (N : Heap) : Heap :=
  pickO sk base N pre[K - base]? ++ match sk with
  | [] => H
  | y :: r => putBlocks H (olds Hs (lateSk pre base (K - base) (y :: r)))

def nodupB : List Nat → Bool
  | [] => true
  | k :: r => !(r.contains k) && nodupB r

/-- A store into a block that the region lays comes behind its laying. -/
def chkLaid (pre : List Oper) (base : Nat) : List (Nat × Nat) → Bool
  | [] => true
  | (K, k) :: r => (Nat.blt k base || (match pre[K - base]? with | some o => hasEdge o (k - base) | none => false)) && chkLaid pre base r

/-- What a slot will hold, as far as it is easily told. -/
def sourceOf (σ : St) (t : Nat) : List Oper → AV
  | [] => look σ.slots t
  | o :: r => match o.dst with
    | some d => match Nat.beq d t with
      | true => match o.op with
        | .move x => σ.eval x
        | .load _ x => match σ.eval x with
          | .ptr k _ => match σ.H.find k with
            | some (.vars _ cells) => .ag cells
            | _ => .no
          | _ => .no
        | _ => .no
      | false => sourceOf σ t r
    | none => sourceOf σ t r

def sourceArg (σ : St) (l : List Oper) (x : Operand) : AV :=
  match x with
  | .tmp t => sourceOf σ t l
  | _ => .no

/-- The rows that are given away in a region whose order is open. -/
def drawKeys (ret : Nat → Bool) (σ : St) (l : List Oper) : List Oper → List Nat
  | [] => []
  | o :: r => match o.op with
    | .call { callee := .value (.func g), args, .. } => match ret g with
      | true => ownKeysL (args.toList.map (sourceArg σ l)) ++ drawKeys ret σ l r
      | false => drawKeys ret σ l r
    | .buildSlice _ _ ps => ownKeysL (ps.toList.map fun x => sourceArg σ l x.2) ++ drawKeys ret σ l r
    | _ => drawKeys ret σ l r

/-- Does the function's result hold slices? -/
def retSl (Γ : Cons) (g : Nat) : Bool :=
  match Γ.find g with
  | some c => !(noSl c.res)
  | none => false

def St.forDraw (σ : St) (ret : Nat → Bool) (l : List Oper) : St := σ.thaws (drawKeys ret σ l l)

def execDraw (P : Program) (Γ : Cons) (call : CallT) (ops : Array Oper) (σ : St) (K : Fi → Prop) : Prop :=
  let l := ops.toList
  let ms := masks l []
  let m := splitAt ms
  match skOf σ (l.take m) σ.next (allocs P (l.take m) σ.next ++ σ.H) (l.take m) σ.next with
  | some sk => match chkPre ops (l.take m) (l.take m) 0 && chkEdges l 0 && chkTail m ms 0 && Nat.ble m l.length && nodupB (sk.map (·.2)) && chkLaid (l.take m) σ.next sk with
    | true => (preT P Γ ops sk (allocs P (l.take m) σ.next ++ σ.H) (lateH (l.take m) σ.next sk (allocs P (l.take m) σ.next ++ σ.H) (veilS sk σ.H)) (l.take m) σ.next { σ with H := veilS sk σ.H, next := σ.next + m } []).holds fun x => execSeq P Γ call ops (l.drop m) (unveil (allocs P (l.take m) σ.next ++ σ.H) sk x) K
    | false => False
  | none => False

/-- Only the operands count. -/
theorem evM_congr {P : Program} {Γ : Cons} {K : Nat} {H : Heap} {arg arg' : Operand → AV} {o : Oper} (h : ∀ x ∈ o.op.operands, arg x = arg' x) : evM P Γ K H arg o = evM P Γ K H arg' o := by
  have hmap : ∀ l : List Operand, (∀ x ∈ l, arg x = arg' x) → l.map arg = l.map arg' := fun l hl => List.map_congr_left hl
  have hmap2 : ∀ l : List (Nat × Operand), (∀ x ∈ l, arg x.2 = arg' x.2) → (l.map fun x => (x.1, arg x.2)) = l.map fun x => (x.1, arg' x.2) := fun l hl => List.map_congr_left (fun x hx => by rw [hl x hx])
  have hopt : ∀ x : Option Operand, (∀ y ∈ x, arg y = arg' y) → x.map arg = x.map arg' := fun x hx => by
    cases x with
    | none => rfl
    | some y => simp [hx y rfl]
  unfold evM evP
  cases ho : o.op with
  | call c =>
    rw [ho] at h
    obtain ⟨callee, args, ts⟩ := c
    have ha : args.toList.map arg = args.toList.map arg' := hmap _ (fun x hx => h x (by simp only [Op.operands, Call.operands]; exact Array.mem_append.2 (Or.inr (by simpa using hx))))
    cases callee with
    | value f =>
      have hf : arg f = arg' f := h f (by simp [Op.operands, Call.operands])
      simp only [hf, ha]
    | invoke r n => rfl
    | builtin b =>
      cases b <;> first | rfl | simp only [ha] | skip
      all_goals
        congr 1
        split
        · rename_i x hx
          have : arg x = arg' x := by rw [hx] at ha; simpa using ha
          rw [this]
        · rfl
  | build t ps =>
    rw [ho] at h
    simp only
    rw [hmap2 ps.toList (fun x hx => h x.2 (by simp only [Op.operands]; simp; exact ⟨x.1, by simpa using hx⟩))]
  | buildSlice t n ps =>
    rw [ho] at h
    simp only
    rw [hmap2 ps.toList (fun x hx => h x.2 (by simp only [Op.operands]; simp; exact ⟨x.1, by simpa using hx⟩))]
  | makeFunc f first caps =>
    rw [ho] at h
    have h1 : first.toList.map arg = first.toList.map arg' := hmap _ (fun x hx => h x (by simp only [Op.operands]; exact Array.mem_append.2 (Or.inl (by simpa using hx))))
    have h2 : caps.toList.map arg = caps.toList.map arg' := hmap _ (fun x hx => h x (by simp only [Op.operands]; exact Array.mem_append.2 (Or.inr (by simpa using hx))))
    cases f <;> simp only [h1, h2]
  | slice t x lo hi mx =>
    rw [ho] at h
    have h0 : arg x = arg' x := h x (by simp [Op.operands])
    have h1 := hopt lo (fun y hy => h y (by cases hy; simp [Op.operands]))
    have h2 := hopt hi (fun y hy => h y (by cases hy; simp [Op.operands]))
    have h3 := hopt mx (fun y hy => h y (by cases hy; simp [Op.operands]))
    simp only [h0, h1, h2, h3]
  | makeMap t r => cases r <;> rfl
  | _ => (rw [ho] at h; try (first | rfl | (simp [Op.operands] at h; simp [h])))

end Go.Vg

namespace Go.Vg
open Go Go.RowKit

def upS (nt : Nat) (f : Nat → AV) (dst : Option Nat) (x : AV) : Nat → AV := fun t =>
  match dst with
  | some d => if d = t ∧ d < nt then x else f t
  | none => f t

theorem look_put (σ : St) (dst : Option Nat) (x : AV) : look (σ.put dst x).slots = upS σ.n (look σ.slots) dst x := by
  funext t
  unfold St.put upS
  cases dst with
  | none => rfl
  | some d =>
    simp only
    cases hb : Nat.blt d σ.n with
    | true =>
      have hlt : d < σ.n := Nat.le_of_ble_eq_true hb
      simp only [look]
      cases hu : Nat.beq d t with
      | true => have := beq_true hu; subst this; simp [hlt]
      | false => have hne := beq_false hu; simp only; rw [look_del_ne hne, if_neg (fun h => hne h.1)]
    | false =>
      have hge : ¬ d < σ.n := fun hlt => by simp [Nat.blt, Nat.ble_eq_true_of_le hlt] at hb
      simp only
      rw [if_neg (fun h => hge h.2)]

theorem upS_self {nt : Nat} {f : Nat → AV} {t : Nat} {x : AV} (h : f t = x) : upS nt f (some t) x = f := by
  funext u
  simp only [upS]
  split
  · rename_i hc; rw [← hc.1]; exact h.symm
  · rfl

def evalF (f : Nat → AV) : Operand → AV
  | .tmp t => f t
  | .const v => constAg v
  | .func f => .fn f [] []
  | .global _ => .no

theorem eval_evalF (σ : St) : σ.eval = evalF (look σ.slots) := by funext x; cases x <;> rfl

def Wanted (ops : Array Oper) (f : Nat → AV) (o : Oper) : Prop :=
  o.guard = none ∨ ∃ j want t, o.guard = some (j, want) ∧ guardSlot ops j = some t ∧ f t = .d .bool want
def Unwanted (ops : Array Oper) (f : Nat → AV) (o : Oper) : Prop :=
  ∃ j want t, o.guard = some (j, want) ∧ guardSlot ops j = some t ∧ (f t = .d .bool (!want) ∨ f t = .und)

def StepF (P : Program) (Γ : Cons) (ops : Array Oper) (sk : List (Nat × Nat)) (Hs Hx : Heap) (K : Nat) (f : Nat → AV) (o : Oper) : Out → Prop
  | .ran r new => Wanted ops f o ∧ (skHas sk K = false ∧ (evM P Γ K Hx (evalF f) o).Leaf (r, new) ∨ ∃ e zs, o.op = .alloc e ∧ zeroAVs P e = some zs ∧ r = .ptr K 0 ∧ new = [(K, .any)])
  | .skip => Unwanted ops f o
  | .st k b => Wanted ops f o ∧ skGet sk K = some k ∧ ∃ t a x, o.op = .store t a x ∧ (stB P Hs k t (evalF f a) (evalF f x)).Leaf b

theorem evS_step {P : Program} {Γ : Cons} {ops : Array Oper} {sk : List (Nat × Nat)} {Hs Hx : Heap} {K : Nat} {f : Nat → AV} {o : Oper} {u : Out} (hw : Wanted ops f o) (h : (evS P Γ sk Hs K Hx (evalF f) o).Leaf u) : StepF P Γ ops sk Hs Hx K f o u := by
  unfold evS at h
  split at h
  · rename_i t a x ho
    split at h
    · rename_i k hk
      obtain ⟨b, h1, h2⟩ := T.Leaf.bind h
      cases h2
      exact ⟨hw, hk, t, a, x, ho, h1⟩
    · cases h
  · split at h
    · rename_i hk
      obtain ⟨y, h1, h2⟩ := T.Leaf.bind h
      cases h2
      exact ⟨hw, Or.inl ⟨hk, h1⟩⟩
    · split at h
      · rename_i e ho
        split at h
        · rename_i zs hz
          cases h
          exact ⟨hw, Or.inr ⟨e, zs, ho, hz, rfl, rfl⟩⟩
        · cases h
      · cases h

inductive Tr (P : Program) (Γ : Cons) (ops : Array Oper) (sk : List (Nat × Nat)) (Hs : Heap) (H0 : Nat → Heap → Heap) (nt : Nat) : List Oper → Nat → Heap → (Nat → AV) → List Out → (Nat → AV) → Prop where
  | nil {K : Nat} {N : Heap} {f : Nat → AV} : Tr P Γ ops sk Hs H0 nt [] K N f [] f
  | cons {K : Nat} {N : Heap} {f f' : Nat → AV} {o : Oper} {rest : List Oper} {u : Out} {us : List Out} (h : StepF P Γ ops sk Hs (H0 K N) K f o u) (ht : Tr P Γ ops sk Hs H0 nt rest (K + 1) (u.new ++ N) (upS nt f o.dst u.av) us f') :
      Tr P Γ ops sk Hs H0 nt (o :: rest) K N f (u :: us) f'

section
variable {C : Ctx} {P : Program} {G : World → Prop} {Γ : Cons} {ops : Array Oper} {sk : List (Nat × Nat)} {Hs : Heap} {H0 : Nat → Heap → Heap} {nt : Nat}

theorem preT_trace : ∀ (l : List Oper) (K : Nat) (σ : St) (s : List (Nat × Bk)) (y : St × List (Nat × Bk)), (preT P Γ ops sk Hs H0 l K σ s).Leaf y →
    ∃ us : List Out, Tr P Γ ops sk Hs H0 σ.n l K σ.H (look σ.slots) us (look y.1.slots) ∧ (∀ x, x ∈ y.1.H ↔ x ∈ σ.H ∨ ∃ (j : Nat) (u : Out), us[j]? = some u ∧ x ∈ u.new) ∧ y.1.next = σ.next ∧ y.1.n = σ.n ∧
      ∀ x, x ∈ y.2 ↔ x ∈ s ∨ ∃ (j : Nat) (u : Out), us[j]? = some u ∧ x ∈ u.sts
  | [], K, σ, s, y, h => by
    cases h
    exact ⟨[], .nil, by simp, rfl, rfl, by simp⟩
  | o :: rest, K, σ, s, y, h => by
    have key : ∀ (σ1 : St) (u : Out), look σ1.slots = look σ.slots → σ1.H = σ.H → σ1.next = σ.next → σ1.n = σ.n → StepF P Γ ops sk Hs (H0 K σ.H) K (look σ.slots) o u → (preT P Γ ops sk Hs H0 rest (K + 1) (σ1.step o u) (u.sts ++ s)).Leaf y →
        ∃ us : List Out, Tr P Γ ops sk Hs H0 σ.n (o :: rest) K σ.H (look σ.slots) us (look y.1.slots) ∧ (∀ x, x ∈ y.1.H ↔ x ∈ σ.H ∨ ∃ (j : Nat) (u : Out), us[j]? = some u ∧ x ∈ u.new) ∧ y.1.next = σ.next ∧ y.1.n = σ.n ∧
          ∀ x, x ∈ y.2 ↔ x ∈ s ∨ ∃ (j : Nat) (u : Out), us[j]? = some u ∧ x ∈ u.sts := by
      intro σ1 u e1 e2 e3 e4 hst hl
      obtain ⟨us, h1, h2, h3, h4, h5⟩ := preT_trace rest (K + 1) _ _ y hl
      have hn : (σ1.step o u).n = σ1.n := by unfold St.step St.put; split <;> (try split) <;> rfl
      have hs : look (σ1.step o u).slots = upS σ.n (look σ.slots) o.dst u.av := by
        unfold St.step; rw [look_put]; simp only [e1, e4]
      have hH : (σ1.step o u).H = u.new ++ σ.H := by unfold St.step; rw [St.put_H]; simp only [e2]
      have hnx : (σ1.step o u).next = σ.next := by unfold St.step; rw [St.put_next]; exact e3
      rw [hn, hs, e4, hH] at h1
      refine ⟨u :: us, .cons hst h1, fun x => ?_, by rw [h3, hnx], by rw [h4, hn, e4], fun x => ?_⟩
      · rw [h2, hH, List.mem_append]
        constructor
        · rintro ((hx | hx) | ⟨j, v, hj, hx⟩)
          · exact Or.inr ⟨0, u, rfl, hx⟩
          · exact Or.inl hx
          · exact Or.inr ⟨j + 1, v, by simpa using hj, hx⟩
        · rintro (hx | ⟨j, v, hj, hx⟩)
          · exact Or.inl (Or.inr hx)
          · cases j with
            | zero => simp at hj; subst hj; exact Or.inl (Or.inl hx)
            | succ j => exact Or.inr ⟨j, v, by simpa using hj, hx⟩
      · rw [h5, List.mem_append]
        constructor
        · rintro ((hx | hx) | ⟨j, v, hj, hx⟩)
          · exact Or.inr ⟨0, u, rfl, hx⟩
          · exact Or.inl hx
          · exact Or.inr ⟨j + 1, v, by simpa using hj, hx⟩
        · rintro (hx | ⟨j, v, hj, hx⟩)
          · exact Or.inl (Or.inr hx)
          · cases j with
            | zero => simp at hj; subst hj; exact Or.inl (Or.inl hx)
            | succ j => exact Or.inr ⟨j, v, by simpa using hj, hx⟩
    simp only [preT] at h
    split at h
    · rename_i hg
      obtain ⟨u, h1, h2⟩ := T.Leaf.bind h
      rw [eval_evalF] at h1
      exact key σ u rfl rfl rfl rfl (evS_step (Or.inl hg) h1) h2
    · rename_i j want hg
      split at h
      · rename_i t ht
        split at h
        · rename_i b hb
          have hr : ∀ b', b = b' → look (σ.put (some t) (.d .bool b')).slots = look σ.slots := fun b' e => by rw [look_put]; exact upS_self (by rw [hb, e])
          have hf : ∀ b', (σ.put (some t) (.d .bool b')).H = σ.H ∧ (σ.put (some t) (.d .bool b')).next = σ.next ∧ (σ.put (some t) (.d .bool b')).n = σ.n := fun b' => ⟨St.put_H _ _ _, St.put_next _ _ _, by unfold St.put; simp only; split <;> rfl⟩
          cases h with
          | t h =>
            cases want with
            | true =>
              obtain ⟨u, h1, h2⟩ := T.Leaf.bind h
              rw [eval_evalF, hr true rfl] at h1
              exact key _ u (hr true rfl) (hf true).1 (hf true).2.1 (hf true).2.2 (evS_step (Or.inr ⟨j, true, t, hg, ht, hb⟩) h1) h2
            | false => exact key _ .skip (hr true rfl) (hf true).1 (hf true).2.1 (hf true).2.2 ⟨j, false, t, hg, ht, Or.inl hb⟩ h
          | f h =>
            cases want with
            | true => exact key _ .skip (hr false rfl) (hf false).1 (hf false).2.1 (hf false).2.2 ⟨j, true, t, hg, ht, Or.inl hb⟩ h
            | false =>
              obtain ⟨u, h1, h2⟩ := T.Leaf.bind h
              rw [eval_evalF, hr false rfl] at h1
              exact key _ u (hr false rfl) (hf false).1 (hf false).2.1 (hf false).2.2 (evS_step (Or.inr ⟨j, false, t, hg, ht, hb⟩) h1) h2
        · rename_i hb
          exact key σ .skip rfl rfl rfl rfl ⟨j, want, t, hg, ht, Or.inr hb⟩ h
        · cases h
      · cases h

theorem Tr.length {l : List Oper} {K : Nat} {N : Heap} {f f' : Nat → AV} {us : List Out} (h : Tr P Γ ops sk Hs H0 nt l K N f us f') : us.length = l.length := by
  induction h with
  | nil => rfl
  | cons _ _ ih => simp [ih]

theorem Tr.slot {l : List Oper} {K : Nat} {N : Heap} {f f' : Nat → AV} {us : List Out} (h : Tr P Γ ops sk Hs H0 nt l K N f us f') (t : Nat) :
    (∃ (j : Nat) (o : Oper) (u : Out), l[j]? = some o ∧ us[j]? = some u ∧ o.dst = some t ∧ t < nt ∧ f' t = u.av) ∨ ((∀ (j : Nat) (o : Oper), l[j]? = some o → o.dst = some t → ¬ t < nt) ∧ f' t = f t) := by
  induction h with
  | nil => exact Or.inr ⟨by simp, rfl⟩
  | @cons K N f f' o rest u us h _ ih =>
    rcases ih with ⟨j, o', u', h1, h2, h3, h4, h5⟩ | ⟨h1, h2⟩
    · exact Or.inl ⟨j + 1, o', u', by simpa using h1, by simpa using h2, h3, h4, h5⟩
    · by_cases hd : o.dst = some t ∧ t < nt
      · refine Or.inl ⟨0, o, u, rfl, rfl, hd.1, hd.2, ?_⟩
        rw [h2]
        simp [upS, hd.1, hd.2]
      · refine Or.inr ⟨fun j o' hj ho => ?_, ?_⟩
        · cases j with
          | zero => simp at hj; subst hj; exact fun hlt => hd ⟨ho, hlt⟩
          | succ j => exact h1 j o' (by simpa using hj) ho
        · rw [h2]
          unfold upS
          split
          · rename_i d hd'
            rw [if_neg]
            rintro ⟨rfl, hlt⟩
            exact hd ⟨hd', hlt⟩
          · rfl

theorem Tr.nth {l : List Oper} {K : Nat} {N : Heap} {f f' : Nat → AV} {us : List Out} (h : Tr P Γ ops sk Hs H0 nt l K N f us f') : ∀ {i : Nat} {o : Oper}, l[i]? = some o →
    ∃ u fi Ni, us[i]? = some u ∧ Tr P Γ ops sk Hs H0 nt (l.take i) K N f (us.take i) fi ∧ StepF P Γ ops sk Hs (H0 (K + i) Ni) (K + i) fi o u ∧ ∀ x ∈ Ni, x ∈ N ∨ ∃ (j : Nat) (v : Out), us[j]? = some v ∧ x ∈ v.new := by
  induction h with
  | nil => intro i o hi; simp at hi
  | @cons K N f f' o rest u us h _ ih =>
    intro i o' hi
    cases i with
    | zero => simp at hi; subst hi; exact ⟨u, f, N, rfl, .nil, h, fun x hx => Or.inl hx⟩
    | succ i =>
      obtain ⟨u', fi, Ni, h1, h2, h3, h4⟩ := ih (i := i) (by simpa using hi)
      refine ⟨u', fi, Ni, by simpa using h1, .cons h h2, ?_, fun x hx => ?_⟩
      · rwa [show K + 1 + i = K + (i + 1) by omega] at h3
      · rcases h4 x hx with hx | ⟨j, v, hj, hv⟩
        · rcases List.mem_append.1 hx with hx | hx
          · exact Or.inr ⟨0, u, rfl, hx⟩
          · exact Or.inl hx
        · exact Or.inr ⟨j + 1, v, by simpa using hj, hv⟩

end

theorem chkRead_spec {i : Nat} {o : Oper} {t : Nat} : ∀ {l : List Oper} {k : Nat}, chkRead i o t l k = true → ∀ {j : Nat} {p : Oper}, l[j]? = some p → p.dst = some t → k + j < i ∧ hasEdge o (k + j) = true ∨ i < k + j ∧ hasEdge p i = true
  | [], _, _, j, p, hp, _ => by simp at hp
  | q :: r, k, h, j, p, hp, hd => by
    simp only [chkRead, Bool.and_eq_true] at h
    cases j with
    | zero =>
      simp at hp
      subst hp
      rw [hd] at h
      simp only [Nat.beq_refl, Bool.and_eq_true, Bool.or_eq_true] at h
      rcases h.1 with ⟨h1, h2⟩ | ⟨h1, h2⟩
      · exact Or.inl ⟨Nat.le_of_ble_eq_true h1, h2⟩
      · exact Or.inr ⟨Nat.le_of_ble_eq_true h1, h2⟩
    | succ j =>
      have := chkRead_spec h.2 (j := j) (by simpa using hp) hd
      rwa [show k + 1 + j = k + (j + 1) by omega] at this

theorem chkDst_spec {i d : Nat} : ∀ {l : List Oper} {k : Nat}, chkDst i d l k = true → ∀ {j : Nat} {p : Oper}, l[j]? = some p → p.dst = some d → i = k + j
  | [], _, _, j, p, hp, _ => by simp at hp
  | q :: r, k, h, j, p, hp, hd => by
    simp only [chkDst, Bool.and_eq_true] at h
    cases j with
    | zero =>
      simp at hp
      subst hp
      rw [hd] at h
      simp only [Nat.beq_refl] at h
      exact beq_true h.1
    | succ j =>
      have := chkDst_spec h.2 (j := j) (by simpa using hp) hd
      omega

theorem chkPre_spec {ops : Array Oper} {pre : List Oper} : ∀ {l : List Oper} {k : Nat}, chkPre ops pre l k = true → ∀ {i : Nat} {o : Oper}, l[i]? = some o →
    (∀ t ∈ readsOf ops o, chkRead (k + i) o t pre 0 = true) ∧ (∀ d, o.dst = some d → chkDst (k + i) d pre 0 = true)
  | [], _, _, i, o, ho => by simp at ho
  | q :: r, k, h, i, o, ho => by
    simp only [chkPre, Bool.and_eq_true, List.all_eq_true] at h
    cases i with
    | zero =>
      simp at ho
      subst ho
      refine ⟨fun t ht => h.1.1 t ht, fun d hd => ?_⟩
      rw [hd] at h
      exact h.1.2
    | succ i =>
      have := chkPre_spec h.2 (i := i) (by simpa using ho)
      rwa [show k + 1 + i = k + (i + 1) by omega] at this

theorem chkEdges_spec : ∀ {l : List Oper} {k : Nat}, chkEdges l k = true → ∀ {i : Nat} {o : Oper}, l[i]? = some o → ∀ e ∈ o.after, binding e = true → e.on < k + i
  | [], _, _, i, o, ho => by simp at ho
  | q :: r, k, h, i, o, ho => by
    simp only [chkEdges, Bool.and_eq_true, List.all_eq_true] at h
    cases i with
    | zero =>
      simp at ho
      subst ho
      intro e he hb
      have := h.1 e (by simpa using he)
      rw [hb] at this
      simp at this
      omega
    | succ i =>
      intro e he hb
      have := chkEdges_spec h.2 (i := i) (by simpa using ho) e he hb
      omega

theorem hasEdge_spec {o : Oper} {j : Nat} (h : hasEdge o j = true) : ∃ e ∈ o.after, binding e = true ∧ e.on = j := by
  unfold hasEdge at h
  rw [List.any_eq_true] at h
  obtain ⟨e, he, hb⟩ := h
  simp only [Bool.and_eq_true] at hb
  exact ⟨e, by simpa using he, hb.1, beq_true hb.2⟩

theorem masks_prefix : ∀ (l : List Oper) (acc : List Nat), acc = (masks l acc).take acc.length ∧ (masks l acc).length = acc.length + l.length
  | [], acc => by simp [masks]
  | o :: r, acc => by
    obtain ⟨h1, h2⟩ := masks_prefix r (acc ++ [maskEdges acc o.after.toList])
    simp only [masks]
    refine ⟨?_, by rw [h2]; simp; omega⟩
    have := congrArg (List.take acc.length) h1
    rw [List.take_take] at this
    simp at this
    exact this

theorem masks_nth : ∀ (l : List Oper) (acc : List Nat) (j : Nat) (o : Oper), l[j]? = some o → (masks l acc)[acc.length + j]? = some (maskEdges ((masks l acc).take (acc.length + j)) o.after.toList)
  | [], acc, j, o, h => by simp at h
  | p :: r, acc, j, o, h => by
    simp only [masks]
    cases j with
    | zero =>
      simp at h
      subst h
      obtain ⟨h1, h2⟩ := masks_prefix r (acc ++ [maskEdges acc p.after.toList])
      generalize masks r (acc ++ [maskEdges acc p.after.toList]) = M at *
      have e1 : M.take acc.length = acc := by
        have := congrArg (List.take acc.length) h1
        rw [List.take_take] at this
        simp at this
        exact this.symm
      have e2 : M[acc.length]? = some (maskEdges acc p.after.toList) := by
        have := congrArg (fun l => l[acc.length]?) h1
        simp at this
        exact this.symm
      rw [Nat.add_zero, e1, e2]
    | succ j =>
      have := masks_nth r (acc ++ [maskEdges acc p.after.toList]) j o (by simpa using h)
      rw [List.length_append] at this
      simp only [List.length_cons, List.length_nil] at this
      rwa [show acc.length + (0 + 1) + j = acc.length + (j + 1) by omega] at this

theorem maskEdges_bit {acc : List Nat} {i : Nat} : ∀ {es : List Edge}, (maskEdges acc es).testBit i = true → ∃ e ∈ es, binding e = true ∧ (i = e.on ∨ (acc.getD e.on 0).testBit i = true)
  | [], h => by simp [maskEdges] at h
  | e :: r, h => by
    simp only [maskEdges] at h
    cases hb : binding e with
    | true =>
      rw [hb] at h
      simp only [Nat.testBit_or, Bool.or_eq_true] at h
      rcases h with (h | h) | h
      · rw [Nat.testBit_two_pow] at h
        simp at h
        exact ⟨e, by simp, hb, Or.inl h.symm⟩
      · exact ⟨e, by simp, hb, Or.inr h⟩
      · obtain ⟨e', h1, h2⟩ := maskEdges_bit h
        exact ⟨e', List.mem_cons_of_mem _ h1, h2⟩
    | false =>
      rw [hb] at h
      obtain ⟨e', h1, h2⟩ := maskEdges_bit h
      exact ⟨e', List.mem_cons_of_mem _ h1, h2⟩

/-- What has been carried out is closed under 'comes before'. -/
def Closed (l : List Oper) (ls : Nat → Bool) : Prop := ∀ (j : Nat) (o : Oper), l[j]? = some o → ls j = true → ∀ e ∈ o.after, binding e = true → ls e.on = true

theorem closed_bits {l : List Oper} {ls : Nat → Bool} (hc : Closed l ls) (he : chkEdges l 0 = true) : ∀ (j : Nat) (o : Oper), l[j]? = some o → (∀ e ∈ o.after, binding e = true → ls e.on = true) → ∀ x i, (masks l [])[j]? = some x → x.testBit i = true → ls i = true := by
  intro j
  induction j using Nat.strongRecOn with
  | _ j ih =>
    intro o ho hed x i hx hb
    have hm := masks_nth l [] j o ho
    simp only [List.length_nil, Nat.zero_add] at hm
    rw [hx] at hm
    injection hm with hm
    subst hm
    obtain ⟨e, he1, he2, he3⟩ := maskEdges_bit hb
    have he1' : e ∈ o.after := by simpa using he1
    have hlt := chkEdges_spec he ho e he1' he2
    rw [Nat.zero_add] at hlt
    rcases he3 with rfl | he3
    · exact hed e he1' he2
    · have hjl : j < l.length := (List.getElem?_eq_some_iff.1 ho).1
      have hel : e.on < l.length := by omega
      obtain ⟨p, hp⟩ : ∃ p, l[e.on]? = some p := ⟨l[e.on], by simp [hel]⟩
      have hmx : e.on < (masks l []).length := by rw [(masks_prefix l []).2]; simpa using hel
      have hgx : (masks l [])[e.on]? = some (masks l [])[e.on] := by simp [hmx]
      have hgd : ((masks l []).take j).getD e.on 0 = (masks l [])[e.on] := by
        rw [List.getD_eq_getElem?_getD, List.getElem?_take, if_pos hlt, hgx]; rfl
      rw [hgd] at he3
      exact ih e.on hlt p hp (hc e.on p hp (hed e he1' he2)) _ i hgx he3

theorem chkTail_spec {m : Nat} : ∀ {l : List Nat} {k : Nat}, chkTail m l k = true → ∀ {j x : Nat}, l[j]? = some x → m ≤ k + j → x = 2 ^ (k + j) - 1
  | [], _, _, j, x, hx => by simp at hx
  | y :: r, k, h, j, x, hx => by
    simp only [chkTail, Bool.and_eq_true] at h
    intro hm
    cases j with
    | zero =>
      simp at hx
      subst hx
      rw [Nat.add_zero] at hm ⊢
      rw [Nat.ble_eq_true_of_le hm] at h
      exact beq_true h.1
    | succ j =>
      have := chkTail_spec h.2 (j := j) (by simpa using hx) (by omega)
      rwa [show k + 1 + j = k + (j + 1) by omega] at this

end Go.Vg
