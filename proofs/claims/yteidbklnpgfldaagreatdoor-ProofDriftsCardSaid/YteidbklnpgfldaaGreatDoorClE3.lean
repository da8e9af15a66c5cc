/-
  An evaluator of Go code over plain data, proved sound against the model. Own work; no condition.
-/
import Derived.Test.YteidbklnpgfldaaGreatDoorClE2
import Derived.Lib.AppendStr
import Derived.Lib.AppendZeros
import Derived.RangeFuncNested
import Derived.OrdersIn
import Derived.TacticsIn
import Derived.Laws.Externs
import Derived.Tactics
set_option linter.unusedVariables false
set_option linter.unusedSimpArgs false
namespace Go.Vg
open Go Go.RowKit
section
variable {C : Ctx} {ρ : Nat → Nat} {H : Heap} {w : World} {P : Program}
theorem SRel.newRow {σ : St} {a : Act} (hs : SRel C ρ σ a w) {e : TypeId} {u : Ty} {xs : List u.T} {c : Array Value} {cap : Nat} {dst : Option Nat}
  (hr : RdL (Rd (Ok C ρ σ.H w) w u) xs (c.toList.take (xs.length * u.size))) (hlen : xs.length * u.size ≤ c.size) (hlim : xs.length ≤ lim) (h1 : ∀ v ∈ c.toList, v.oneCell' = true)
  (hcap : xs.length ≤ cap) (hmax : cap ≤ maxLen) (hsz : cap * u.size = c.size) :
  ∃ ρ', SRel C ρ' (({ σ with H := (σ.next, .row e u xs) :: σ.H, next := σ.next + 1 } : St).put dst (.own σ.next 0 xs.length)) (a.put dst (.slice (some ⟨w.heap.size, 0, none⟩) xs.length cap)) (w.drew.alloc (.cells c e)) ∧
   Fr C σ.next ρ σ.H w ρ' ((σ.next, .row e u xs) :: σ.H) (w.drew.alloc (.cells c e)) := by
 obtain ⟨hmd, hed⟩ := hs.m.grow (w' := w.drew) ((Below.refl _ _).drew)
 have hK : σ.next ∉ σ.H.keys := fun h => absurd (hs.m.lt _ h) (xp _)
 obtain ⟨hm', hext⟩ := (hmd.mono (yR σ.next)).alloc (K := σ.next) (c := c) (e := e) (blk := .row e u xs) hK (yp _) (fun ρ' H' w' he hh =>
  ⟨_, hh, hlen, hlim, RdL.mono (fun x cs => Rd.mono (fun b hb => by
   obtain ⟨h2, h3⟩ := he.data b ((hed.data b hb).1)
   exact ⟨h2, h3.trans (hed.data b hb).2⟩) u x cs) _ _ hr, h1⟩)
 have htr := hed.trans hext
 have hfr : Fr C σ.next ρ σ.H w (upd ρ σ.next w.heap.size) ((σ.next, .row e u xs) :: σ.H) (w.drew.alloc (.cells c e)) := htr.fr (fun k hk hm => by
  rcases zq.1 hm with e | hm
  ·exact absurd hk (by rw [e]; exact xp _)
  ·exact hm)
 refine ⟨_, (hs.frame hm' hfr (fun k hk => zu _ hk)).put ?_, hfr⟩
 refine .own (e := e) (t := u) (l := xs) (c := c) (fr := (0, 0)) zf zf hcap hmax ?_ (by rw [zp]; exact hsz) (Or.inl ?_)
 ·show (w.drew.heap.push _)[upd ρ σ.next w.heap.size σ.next]? = _
  rw [aaZ]
  show (w.heap.push _)[w.heap.size]? = _
  simp
 ·rw [aaZ]; simp
theorem St.put_H (σ : St) (dst : Option Nat) (x : AV) : (σ.put dst x).H = σ.H := by
 unfold St.put
 split
 ·rfl
 ·split <;> rfl
theorem St.put_next (σ : St) (dst : Option Nat) (x : AV) : (σ.put dst x).next = σ.next := by
 unfold St.put
 split
 ·rfl
 ·split <;> rfl
theorem aDh {H : Heap} {k : Nat} {b : Bk} (hn : H.keys.Nodup) (h : (k, b) ∈ H) : H.up k b = H := by
 induction H with
 | nil => rfl
 | cons x r ih =>
  obtain ⟨j, y⟩ := x
  have hn' := yA.1 hn
  simp only [Heap.up]
  cases hb : Nat.beq j k with
  | true =>
   have := aaD hb; subst this
   rcases zq.1 h with e | h
   ·injection e with _ e; rw [e]
   ·exact absurd (aaE h) hn'.1
  | false =>
   rcases zq.1 h with e | h
   ·injection e with e _; exact absurd e.symm (ab6 hb)
   ·simp only [ih hn'.2 h]
structure AppSrc (P : Program) (w : World) (t t2 ty e : TypeId) (i : TypeInfo) (z : Value) (vx : Value) (m : Nat) (cs : List Value) : Prop where
 zero : m = 0 → ∀ (b : Option Addr) (sLen sCap : Nat), sLen ≤ sCap → (Builtin.append_ #[t, t2] ty #[.slice b sLen sCap, vx]).run P w = .ok (.slice b sLen sCap) w
 first : 0 < m → (m : Int) ≤ 9223372036854775807 → m * i.bytes ≤ 281474976710656 → (Builtin.append_ #[t, t2] ty #[.slice none 0 0, vx]).run P w =
   .ok (.slice (some ⟨w.heap.size, 0, none⟩) m (grownCap w m 0 e)) (w.drew.alloc (.cells (cs.toArray ++ Builtin.zeroCells z.cells (grownCap w m 0 e - m)) e))
 room : 0 < m → ∀ (g sLen sCap : Nat) (cur : Array Value), w.heap[g]? = some (.cells cur e (0, 0)) → sLen + m ≤ sCap → sLen * i.size + cs.length ≤ cur.size →
   (Builtin.append_ #[t, t2] ty #[.slice (some ⟨g, 0, none⟩) sLen sCap, vx]).run P w =
    .ok (.slice (some ⟨g, 0, none⟩) (sLen + m) sCap) (w.setRow g (cur.toList.take (sLen * i.size) ++ cs ++ cur.toList.drop (sLen * i.size + cs.length)).toArray)
 grow : 0 < m → ∀ (b : Addr) (sLen sCap : Nat) (olds : List Value), olds.length = sLen * i.size → (∀ j v, olds[j]? = some v → w.cell? (b.add j) = some v) → sCap < sLen + m → ((sLen + m : Nat) : Int) ≤ 9223372036854775807 →
   Builtin.nextslicecap (sLen + m) sCap * i.bytes ≤ 281474976710656 → (Builtin.append_ #[t, t2] ty #[.slice (some b) sLen sCap, vx]).run P w =
    .ok (.slice (some ⟨w.heap.size, 0, none⟩) (sLen + m) (grownCap w (sLen + m) sCap e))
     (w.drew.alloc (.cells (olds.toArray ++ cs.toArray ++ Builtin.zeroCells z.cells (grownCap w (sLen + m) sCap e - (sLen + m))) e))
theorem ayG {σ σ' : St} {a : Act} {dst : Option Nat} {t t2 ty e : TypeId} {i : TypeInfo} {z : Value} {zs : List AV} {u : Ty} {xs : List u.T} {cs : List Value} {k off len : Nat} {vs vx : Value} (h : (aC8 σ dst e i.bytes u xs k off len).Leaf σ') (hs : SRel C ρ σ a w) (hvs : VR C ρ σ.H w (.ox k off len) vs)
  {mm : Nat} (hmm : mm = xs.length) (hsrc : AppSrc P w t t2 ty e i z vx mm cs) (hc1 : i.size = u.size) (hc2 : zs.length = u.size) (hc3 : 1 ≤ i.bytes) (hc4 : 1 ≤ u.size) (hz2 : z.cells.size = zs.length) (hz3 : ∀ v ∈ z.cells.toList, v.oneCell' = true)
  (hcs : RdL (Rd (Ok C ρ σ.H w) w u) xs cs) (hcl : cs.length = xs.length * u.size) (hlim : xs.length ≤ lim) (hcs1 : ∀ v ∈ cs, v.oneCell' = true) :
  ∃ v w' ρ', (Builtin.append_ #[t, t2] ty #[vs, vx]).run P w = .ok v w' ∧ SRel C ρ' σ' (a.put dst v) w' ∧ Fr C σ.next ρ σ.H w ρ' σ'.H w' ∧ σ.next ≤ σ'.next := by
 have hm := hs.m
 subst hmm
 unfold aC8 at h
 split at h
 case h_2 => cases h
 rename_i e' u' l hf
 split at h
 case h_2 => cases h
 rename_i he
 have he := aaD he
 subst he
 split at h
 case h_2 => cases h
 rename_i l' hl'
 obtain ⟨e2, e3⟩ := Ty.as_some hl'
 injection e2 with e2
 subst e2
 have e3' : l = l' := e3
 subst e3'
 cases h with
 | need hp h =>
  have hk := Heap.find_mem hf
  have hvs0 := hvs
  cases hvs with
  | ox hk' hl hmx hb hsz ha =>
   rename_i c fr
   have hun := Heap.mem_unique hm.nodup hk hk'
   injection hun with hu1 hu2 hu3
   subst hu1; subst hu2
   have hu3 := eq_of_heq hu3
   subst hu3
   by_cases hnil : xs = []
   ·subst hnil
    cases h with
    | t h =>
     cases h
     exact ⟨_, w, ρ, hsrc.zero rfl _ len len (zj _), hs.put hvs0, by rw [St.put_H]; exact Fr.refl _ _ _ _ _, by rw [St.put_next]; exact zj _⟩
   ·have hbf : xs.isEmpty = false := by simp [hnil]
    rw [hbf] at h
    cases h with
    | f h =>
     cases h
     have hpos : 0 < xs.length := zN.2 hnil
     obtain ⟨c0, d1, d2, d3, d4, d5⟩ := hm.mem k _ hk
     rw [hb] at d1
     injection d1 with d1
     injection d1 with d1 d1' d1''
     subst d1; subst d1''
     have hlenl : ((l.drop off).take len).length = len := zg
     have hnew : ((l.drop off).take len ++ xs).length = len + xs.length := by rw [zJ, hlenl]
     have hlsz : off * u'.size + len * u'.size ≤ l.length * u'.size := by rw [← zX]; exact zC _ hl
     have holdr : RdL (Rd (Ok C ρ σ.H w) w u') ((l.drop off).take len) ((c.toList.drop (off * u'.size)).take (len * u'.size)) := by
      have := RdL.take (fun x cs => Rd.length u' x cs) _ _ len (RdL.drop (fun x cs => Rd.length u' x cs) l _ off d4)
      rwa [xJ, yP, yl zb] at this
     have hallr : RdL (Rd (Ok C ρ σ.H w) w u') ((l.drop off).take len ++ xs) ((c.toList.drop (off * u'.size)).take (len * u'.size) ++ cs) := RdL.append _ _ _ _ holdr hcs
     have hmul : (len + xs.length) * 1 ≤ (len + xs.length) * i.bytes := yd _ hc3
     have hclen : ((c.toList.drop (off * u'.size)).take (len * u'.size)).length = len * u'.size := zg
     have hrun : ∀ ad : Option Addr, (ad = some ⟨ρ k, off * u'.size, none⟩ ∨ len = 0 ∧ off ≠ 0) → (Builtin.append_ #[t, t2] ty #[.slice ad len len, vx]).run P w =
       .ok (.slice (some ⟨w.heap.size, 0, none⟩) (len + xs.length) (grownCap w (len + xs.length) len e))
        (w.drew.alloc (.cells (((c.toList.drop (off * u'.size)).take (len * u'.size)).toArray ++ cs.toArray ++ Builtin.zeroCells z.cells (grownCap w (len + xs.length) len e - (len + xs.length))) e)) := by
      intro ad ha
      cases ad with
      | none =>
       have h0 : len = 0 := (ha.resolve_left zf).1
       subst h0
       rw [zp] at hp hmul
       have := hsrc.first hpos zb zb
       simpa using this
      | some b =>
       refine hsrc.grow hpos b len len _ (by rw [hclen, hc1]) ?_ zb zb (growslice_fits zb hp)
       intro j y hj
       have hlt : j < ((c.toList.drop (off * u'.size)).take (len * u'.size)).length := (zw.1 hj).1
       rw [hclen] at hlt
       rcases ha with ha | ⟨h0, _⟩
       ·injection ha with ha
        subst ha
        rw [zR, if_pos hlt, yJ, zU] at hj
        rw [af5]
        simp [World.cell?, hb, hj]
       ·subst h0
        omega
     have hrun := hrun _ ha
     have hge := grownCap_ge w (len + xs.length) len e
     have hcm : grownCap w (len + xs.length) len e ≤ maxLen := grownCap_le_maxLen w (len + xs.length) len e (by unfold maxLen; omega)
     have htk : (((c.toList.drop (off * u'.size)).take (len * u'.size)).toArray ++ cs.toArray ++ Builtin.zeroCells z.cells (grownCap w (len + xs.length) len e - (len + xs.length))).toList.take ((len + xs.length) * u'.size) = (c.toList.drop (off * u'.size)).take (len * u'.size) ++ cs := by
      simp only [yN]
      rw [yr (by rw [zJ, hclen, hcl, ← zX]; exact zj _)]
      rw [zr (by rw [zJ, hclen, hcl, ← zX]; exact zj _)]
     obtain ⟨ρ', h5, h6⟩ := hs.newRow (e := e) (u := u') (xs := (l.drop off).take len ++ xs) (c := ((c.toList.drop (off * u'.size)).take (len * u'.size)).toArray ++ cs.toArray ++ Builtin.zeroCells z.cells (grownCap w (len + xs.length) len e - (len + xs.length))) (cap := grownCap w (len + xs.length) len e) (dst := dst)
      (by rw [hnew, htk]; exact hallr)
      (by rw [hnew]; simp only [xh, xH, hclen, hcl, ← zX]; exact yB _ _)
      (by rw [hnew]; unfold lim; omega)
      (by
       intro v hv
       simp only [yN, zE] at hv
       rcases hv with (hv | hv) | hv
       ·exact d5 v (yT (yI hv))
       ·exact hcs1 v hv
       ·exact ac5 hz3 v hv)
      (by rw [hnew]; exact hge) hcm
      (by simp only [xh, xH, size_zeroCells, hclen, hcl, hz2, hc2, ← zX]; congr 1; omega)
     rw [hnew] at h5
     exact ⟨_, _, ρ', hrun, h5, by rw [St.put_H]; exact h6, by rw [St.put_next]; exact yR _⟩
theorem ak3 {σ σ' : St} {a : Act} {dst : Option Nat} {t t2 ty e : TypeId} {i : TypeInfo} {z : Value} {zs : List AV} {u : Ty} {xs : List u.T} {cs : List Value} {s : AV} {vs vx : Value} (h : (am1 σ dst e i.bytes u xs s).Leaf σ') (hs : SRel C ρ σ a w) (hvs : VR C ρ σ.H w s vs)
  {mm : Nat} (hmm : mm = xs.length) (hsrc : AppSrc P w t t2 ty e i z vx mm cs) (hc1 : i.size = u.size) (hc2 : zs.length = u.size) (hc3 : 1 ≤ i.bytes) (hc4 : 1 ≤ u.size) (hz2 : z.cells.size = zs.length) (hz3 : ∀ v ∈ z.cells.toList, v.oneCell' = true)
  (hcs : RdL (Rd (Ok C ρ σ.H w) w u) xs cs) (hcl : cs.length = xs.length * u.size) (hlim : xs.length ≤ lim) (hcs1 : ∀ v ∈ cs, v.oneCell' = true) :
  ∃ v w' ρ', (Builtin.append_ #[t, t2] ty #[vs, vx]).run P w = .ok v w' ∧ SRel C ρ' σ' (a.put dst v) w' ∧ Fr C σ.next ρ σ.H w ρ' σ'.H w' ∧ σ.next ≤ σ'.next := by
 have hm := hs.m
 subst hmm
 unfold am1 at h
 split at h
 ·cases hvs
  cases h with
  | need hp h =>
   by_cases hnil : xs = []
   ·subst hnil
    cases h with
    | t h =>
     cases h
     exact ⟨_, w, ρ, hsrc.zero rfl none 0 0 (zj _), hs.put .nsl, by rw [St.put_H]; exact Fr.refl _ _ _ _ _, by rw [St.put_next]; exact zj _⟩
   ·have hb : xs.isEmpty = false := by simp [hnil]
    rw [hb] at h
    cases h with
    | f h =>
     cases h
     have hpos : 0 < xs.length := zN.2 hnil
     have hmul : xs.length * 1 ≤ xs.length * i.bytes := yd _ hc3
     have hrun := hsrc.first hpos zb zb
     have hge := grownCap_ge w xs.length 0 e
     have hcm : grownCap w xs.length 0 e ≤ maxLen := grownCap_le_maxLen w xs.length 0 e (by unfold maxLen; omega)
     obtain ⟨ρ', h5, h6⟩ := hs.newRow (e := e) (u := u) (xs := xs) (c := cs.toArray ++ Builtin.zeroCells z.cells (grownCap w xs.length 0 e - xs.length)) (cap := grownCap w xs.length 0 e) (dst := dst)
      (by simp only [yN]; rw [← hcl, List.take_left' zf]; exact hcs)
      (by simp only [xh, xH]; omega) hlim
      (by
       intro v hv
       simp only [yN, zE] at hv
       rcases hv with hv | hv
       ·exact hcs1 v hv
       ·exact ac5 hz3 v hv) hge hcm
      (by simp only [xh, xH, size_zeroCells, hcl, hz2, hc2, ← zX]; congr 1; omega)
     exact ⟨_, _, ρ', hrun, h5, by rw [St.put_H]; exact h6, by rw [St.put_next]; exact yR _⟩
 ·rename_i k len
  split at h
  ·rename_i e' u' l hf
   split at h
   ·rename_i he
    have he := aaD he
    subst he
    split at h
    ·rename_i l' hl'
     obtain ⟨e2, e3⟩ := Ty.as_some hl'
     injection e2 with e2
     subst e2
     have e3' : l = l' := e3
     subst e3'
     cases h with
     | need hp h =>
      cases h
      have hk := Heap.find_mem hf
      cases hvs with
      | own hk' hl hcp hmx hb hsz ha =>
       rename_i cap c fr
       have hun := Heap.mem_unique hm.nodup hk hk'
       injection hun with hu1 hu2 hu3
       subst hu1; subst hu2
       have hu3 := eq_of_heq hu3
       subst hu3
       have ha' := ha.resolve_right (fun h => h.2 rfl)
       rw [xV] at ha'
       subst ha'
       rw [zp] at hl hsz
       obtain ⟨c0, d1, d2, d3, d4, d5⟩ := hm.mem k _ hk
       rw [hb] at d1
       injection d1 with d1
       injection d1 with d1 d1' d1''
       subst d1; subst d1''
       have hlenl : (l.take len).length = len := zg
       have hnew : (l.take len ++ xs).length = len + xs.length := by rw [zJ, hlenl]
       have hlsz : len * u'.size ≤ l.length * u'.size := zC _ hl
       have holdr : RdL (Rd (Ok C ρ σ.H w) w u') (l.take len) (c.toList.take (len * u'.size)) := by
        have := RdL.take (fun x cs => Rd.length u' x cs) l _ len d4
        rwa [yP, yl hlsz] at this
       have hallr : RdL (Rd (Ok C ρ σ.H w) w u') (l.take len ++ xs) (c.toList.take (len * u'.size) ++ cs) := RdL.append _ _ _ _ holdr hcs
       have hmul : (len + xs.length) * 1 ≤ (len + xs.length) * i.bytes := yd _ hc3
       have hK : σ.next ∉ σ.H.keys := fun h => absurd (hm.lt _ h) (xp _)
       have hclen : (c.toList.take (len * u'.size)).length = len * u'.size := zg
       -- what is shown of the new row, wherever it lies
       have fin : ∀ (B capn : Nat) (c' : Array Value) (w' : World), (B = ρ k ∨ w.heap.size ≤ B) → w.grownBy w' (some (ρ k)) → w'.heap[B]? = some (.cells c' e (0, 0)) →
         c'.toList.take ((len + xs.length) * u'.size) = c.toList.take (len * u'.size) ++ cs → (len + xs.length) ≤ capn → capn ≤ maxLen → capn * u'.size = c'.size → (∀ v ∈ c'.toList, v.oneCell' = true) →
         ∃ ρ', SRel C ρ' (({ σ with slots := aa1 (neK k) aeG σ.slots, H := (σ.next, .row e u' (l.take len ++ xs)) :: σ.H.keep (neK k) aeG, next := σ.next + 1 } : St).put dst (.own σ.next 0 (len + xs.length)))
           (a.put dst (.slice (some ⟨B, 0, none⟩) (len + xs.length) capn)) w' ∧ Fr C σ.next ρ σ.H w ρ' ((σ.next, .row e u' (l.take len ++ xs)) :: σ.H.keep (neK k) aeG) w' := by
        intro B capn c' w' hB hg hbk htk hcap1 hcap2 hcap3 hone
        obtain ⟨m1, m2, m3⟩ := (hm.mono (yR σ.next)).swap (K := σ.next) (B := B) (l' := l.take len ++ xs) hk hK (yp _) hB hg (fun ρ' H' hd => by
         refine ⟨c', hbk, ?_, ?_, ?_, hone⟩
         ·rw [hnew, ← hcap3]; exact zC _ hcap1
         ·rw [hnew]; unfold lim; omega
         ·rw [hnew, htk]; exact RdL.mono (fun x cs => Rd.mono hd u' x cs) _ _ hallr)
        refine ⟨_, (hs.keepTo m1 m2 (m3 _ (zj _)).data (m3 _ (zj _)).size).put ?_, m3 _ (zj _)⟩
        refine .own (e := e) (t := u') (l := l.take len ++ xs) (c := c') (fr := (0, 0)) zf (by rw [hnew]; omega) hcap1 hcap2 (by rw [aaZ]; exact hbk) (by rw [zp]; exact hcap3) (Or.inl (by rw [aaZ]; simp))
       by_cases hnil : xs = []
       ·subst hnil
        have hrun := hsrc.zero rfl (some ⟨ρ k, 0, none⟩) len cap hcp
        have hcs0 : cs = [] := yu (by simpa using hcl)
        obtain ⟨ρ', h5, h6⟩ := fin (ρ k) cap c w (Or.inl rfl) ⟨rfl, rfl, rfl, zj _, fun _ _ _ => rfl⟩ hb (by simp [hcs0]) (by simpa using hcp) hmx hsz d5
        exact ⟨_, w, ρ', hrun, by simpa using h5, by rw [St.put_H]; exact h6, by rw [St.put_next]; exact yR _⟩
       ·have hpos : 0 < xs.length := zN.2 hnil
        by_cases hroom : len + xs.length ≤ cap
        ·have hfit : len * i.size + cs.length ≤ c.size := by
          rw [hcl, hc1, ← zX, ← hsz]; exact zC _ hroom
         have hrun := hsrc.room hpos (ρ k) len cap c hb hroom hfit
         rw [hc1] at hrun
         rw [hc1] at hfit
         obtain ⟨ρ', h5, h6⟩ := fin (ρ k) cap (c.toList.take (len * u'.size) ++ cs ++ c.toList.drop (len * u'.size + cs.length)).toArray (w.setRow (ρ k) (c.toList.take (len * u'.size) ++ cs ++ c.toList.drop (len * u'.size + cs.length)).toArray) (Or.inl rfl) ⟨rfl, rfl, rfl, by simp, fun j _ hj => setRow_other _ _ _ _ (fun e => hj (by rw [e]))⟩
          (setRow_heap _ _ _ _ _ _ hb) (by
           rw [List.toList_toArray]
           rw [yr (by rw [zJ, hclen, hcl, ← zX]; exact zj _)]
           rw [zr (by rw [zJ, hclen, hcl, ← zX]; exact zj _)]) hroom hmx
          (by rw [hsz]; simp; omega) (by
           intro v hv
           simp only [zE] at hv
           rcases hv with (hv | hv) | hv
           ·exact d5 v (yI hv)
           ·exact hcs1 v hv
           ·exact d5 v (yT hv))
         exact ⟨_, _, ρ', hrun, h5, by rw [St.put_H]; exact h6, by rw [St.put_next]; exact yR _⟩
        ·have holds : ∀ j y, (c.toList.take (len * u'.size))[j]? = some y → w.cell? ((⟨ρ k, 0, none⟩ : Addr).add j) = some y := by
          intro j y hj
          have hlt : j < (c.toList.take (len * u'.size)).length := (zw.1 hj).1
          rw [hclen] at hlt
          rw [zR, if_pos hlt, zU] at hj
          rw [af5]
          simp [World.cell?, hb, hj]
         have hrun := hsrc.grow hpos ⟨ρ k, 0, none⟩ len cap (c.toList.take (len * u'.size)) (by rw [hclen, hc1]) holds zb zb (growslice_fits zb hp)
         have hge := grownCap_ge w (len + xs.length) cap e
         have hcm : grownCap w (len + xs.length) cap e ≤ maxLen := grownCap_le_maxLen w (len + xs.length) cap e (by unfold maxLen; omega)
         obtain ⟨ρ', h5, h6⟩ := fin w.heap.size (grownCap w (len + xs.length) cap e) ((c.toList.take (len * u'.size)).toArray ++ cs.toArray ++ Builtin.zeroCells z.cells (grownCap w (len + xs.length) cap e - (len + xs.length)))
          (w.drew.alloc (.cells ((c.toList.take (len * u'.size)).toArray ++ cs.toArray ++ Builtin.zeroCells z.cells (grownCap w (len + xs.length) cap e - (len + xs.length))) e)) (Or.inr (zj _))
          ⟨rfl, rfl, rfl, by simp, fun j hj _ => Below.heap_alloc w.drew _ j hj⟩ (by show (w.heap.push _)[w.heap.size]? = _; simp) (by
           simp only [yN]
           rw [yr (by rw [zJ, hclen, hcl, ← zX]; exact zj _)]
           rw [zr (by rw [zJ, hclen, hcl, ← zX]; exact zj _)]) hge hcm
          (by simp only [xh, xH, size_zeroCells, hclen, hcl, hz2, hc2, ← zX]; congr 1; omega) (by
           intro v hv
           simp only [yN, zE] at hv
           rcases hv with (hv | hv) | hv
           ·exact d5 v (yI hv)
           ·exact hcs1 v hv
           ·exact ac5 hz3 v hv)
         exact ⟨_, _, ρ', hrun, h5, by rw [St.put_H]; exact h6, by rw [St.put_next]; exact yR _⟩
    ·cases h
   ·cases h
  ·cases h
 ·exact ayG h hs hvs rfl hsrc hc1 hc2 hc3 hc4 hz2 hz3 hcs hcl hlim hcs1
 ·cases h
theorem aEw {s x : AV} {k len : Nat} (h : aBO s x = some (k, len)) : s = .own k 0 len := by
 unfold aBO at h
 split at h
 ·split at h
  ·injection h with h
   injection h with h1 h2
   subst h1; subst h2; rfl
  ·cases h
 ·cases h
theorem auI {σ σ' : St} {a : Act} {dst : Option Nat} {t t2 ty e : TypeId} {i : TypeInfo} {z : Value} {u : Ty} {xs : List u.T} {cs : List Value} {k len : Nat} {vs vx : Value} (h : (ayJ σ dst e u xs k len).Leaf σ') (hs : SRel C ρ σ a w) (hvs : VR C ρ σ.H w (.own k 0 len) vs)
  (hsrc : AppSrc P w t t2 ty e i z vx xs.length cs) (hc1 : i.size = u.size) (hc4 : 1 ≤ u.size)
  (hcs : RdL (Rd (Ok C ρ σ.H w) w u) xs cs) (hcl : cs.length = xs.length * u.size) (hcs1 : ∀ v ∈ cs, v.oneCell' = true) :
  ∃ v w' ρ', (Builtin.append_ #[t, t2] ty #[vs, vx]).run P w = .ok v w' ∧ SRel C ρ' σ' (a.put dst v) w' ∧ Fr C σ.next ρ σ.H w ρ' σ'.H w' ∧ σ.next ≤ σ'.next := by
 have hm := hs.m
 unfold ayJ at h
 split at h
 case h_2 => cases h
 rename_i e' u' l hf
 split at h
 case h_2 => cases h
 rename_i he
 have he := aaD he
 subst he
 split at h
 case h_2 => cases h
 rename_i l' hl'
 obtain ⟨e2, e3⟩ := Ty.as_some hl'
 injection e2 with e2
 subst e2
 have e3' : l = l' := e3
 subst e3'
 cases h with
 | need hp h =>
  cases h
  have hk := Heap.find_mem hf
  cases hvs with
  | own hk' hl hcp hmx hb hsz ha =>
   rename_i cap c fr
   have hun := Heap.mem_unique hm.nodup hk hk'
   injection hun with hu1 hu2 hu3
   subst hu1; subst hu2
   have hu3 := eq_of_heq hu3
   subst hu3
   have ha' := ha.resolve_right (fun h => h.2 rfl)
   rw [xV] at ha'
   subst ha'
   rw [zp] at hl hsz
   obtain ⟨c0, d1, d2, d3, d4, d5⟩ := hm.mem k _ hk
   rw [hb] at d1
   injection d1 with d1
   injection d1 with d1 d1' d1''
   subst d1; subst d1''
   have hcapl : l.length ≤ cap := by
    rw [← hsz] at d2
    exact Nat.le_of_mul_le_mul_right d2 hc4
   have hroom : len + xs.length ≤ cap := zb
   by_cases hnil : xs = []
   ·subst hnil
    have hrun := hsrc.zero rfl (some ⟨ρ k, 0, none⟩) len cap hcp
    have hov : over l len ([] : List u'.T) = l := by simp [over]
    have hup : σ.H.up k (.row e u' (over l len [])) = σ.H := by rw [hov]; exact aDh hm.nodup hk
    refine ⟨_, w, ρ, hrun, ?_, ?_, by rw [St.put_next]; exact zj _⟩
    ·simp only [hup]
     exact hs.put (.own (off := 0) hk (by simpa using hl) hcp hmx hb (by simpa using hsz) (Or.inl zf))
    ·rw [St.put_H]
     simp only [hup]
     exact Fr.refl _ _ _ _ _
   ·have hpos : 0 < xs.length := zN.2 hnil
    have hfit : len * u'.size + cs.length ≤ c.size := by
     rw [hcl, ← zX, ← hsz]; exact zC _ hroom
    have hfit' : len * i.size + cs.length ≤ c.size := by rw [hc1]; exact hfit
    have hrun := hsrc.room hpos (ρ k) len cap c hb hroom hfit'
    rw [hc1] at hrun
    have hovl : (over l len xs).length = l.length := aaV _ _ _ hp
    obtain ⟨hm', hext⟩ := hm.write (nb := .row e u' (over l len xs)) (c' := ⟨over c.toList (len * u'.size) cs⟩) hk hb (by show c.size = (over c.toList _ _).length; rw [aaV _ _ _ (by simpa using hfit)]; simp)
     (by intro e1 t1 l1 hh; injection hh with h1 h2 h3; subst h1; subst h2; have h3 := eq_of_heq h3; subst h3; exact ⟨_, rfl, by rw [hovl]; exact zj _⟩)
     (fun H' w' he hh => by
      refine ⟨_, hh, by rw [hovl]; show l.length * _ ≤ (over c.toList _ _).length; rw [aaV _ _ _ (by simpa using hfit)]; simpa using d2, by rw [hovl]; exact d3, ?_, fun v hv => ?_⟩
      ·rw [hovl]
       show RdL _ _ ((over c.toList _ _).take _)
       have hle : (len + xs.length) * u'.size ≤ l.length * u'.size := zC _ hp
       rw [zX] at hle
       rw [(ajH c.toList (l.length * u'.size) (len * u'.size) cs (by rw [hcl]; omega)).resolve_right zg]
       exact RdL.over (fun x cs => Rd.length u' x cs) _ _ _ _ _ (RdL.mono (fun x cs => Rd.mono he.data u' x cs) _ _ d4) (RdL.mono (fun x cs => Rd.mono he.data u' x cs) _ _ hcs)
      ·rcases agK hv with hv | hv
       ·exact d5 v hv
       ·exact hcs1 v hv)
    have hfr := hext.fr (n := σ.next) (fun j _ hj => by rwa [Heap.keys_up] at hj)
    refine ⟨_, _, ρ, hrun, (hs.frame hm' hfr (fun j hj => by rwa [Heap.keys_up])).put ?_, by rw [St.put_H]; exact hfr, by rw [St.put_next]; exact zj _⟩
    exact .own (off := 0) (e := e) (t := u') (l := over l len xs) (c := ⟨over c.toList (len * u'.size) cs⟩) (fr := (0, 0)) (Heap.mem_up_same (aaE hk)) (by rw [hovl]; omega) hroom hmx (setRow_heap _ _ _ _ _ _ hb) (by show (0 + cap) * _ = (over c.toList _ _).length; rw [aaV _ _ _ (by simpa using hfit)]; simpa using hsz) (Or.inl zf)
theorem auH {σ σ' : St} {a : Act} {dst : Option Nat} {t ty : TypeId} {s x : AV} {vs vx : Value} (h : (ayH P σ dst t s x).Leaf σ') (hs : SRel C ρ σ a w) (hvs : VR C ρ σ.H w s vs) (hvx : VR C ρ σ.H w x vx) :
  ∃ v w' ρ', (Builtin.append_ #[t, t] ty #[vs, vx]).run P w = .ok v w' ∧ SRel C ρ' σ' (a.put dst v) w' ∧ Fr C σ.next ρ σ.H w ρ' σ'.H w' ∧ σ.next ≤ σ'.next := by
 have hm := hs.m
 unfold ayH at h
 split at h
 ·rename_i e hu
  split at h
  ·rename_i i hi
   split at h
   ·rename_i u zs hty hz
    split at h
    ·rename_i hc
     simp only [zl] at hc
     obtain ⟨⟨⟨hc1, hc2⟩, hc3⟩, hc4⟩ := hc
     have hc1 := aaD hc1
     have hc2 := aaD hc2
     have hc3 := Nat.le_of_ble_eq_true hc3
     have hc4 := Nat.le_of_ble_eq_true hc4
     obtain ⟨z, hz1, hz2, hz3⟩ := aqK hi hz
     split at h
     ·rename_i xs hxs
      obtain ⟨ax, capx, cs, e1, hcs, hcl, hlim, hor⟩ := awQ hm hxs hvx
      subst e1
      have hcs1 := RdL.one (fun x cs => Rd.one u x cs) _ _ hcs
      have hsrc : AppSrc P w t t ty e i z (.slice ax xs.length capx) xs.length cs := by
       refine ⟨fun h0 b sLen sCap hle => ?_, fun hpos h63 h48 => ?_, fun hpos g sLen sCap cur hg hroom hfit => ?_, fun hpos b sLen sCap olds ho1 ho2 hgr h63 hfit => ?_⟩
       ·rw [h0]; exact atI hu hi b ax sLen sCap capx hle
       ·obtain ⟨b, o, ha, hcell⟩ := hor.resolve_left (fun e => by rw [e] at hpos; simp at hpos)
        subst ha
        exact run_append_nil (P := P) w t ty e i z hu hi hz1 ⟨b, o, none⟩ xs.length capx cs (by rw [hcl, hc1]) hcell hpos h63 h48
       ·obtain ⟨b, o, ha, hcell⟩ := hor.resolve_left (fun e => by rw [e] at hpos; simp at hpos)
        subst ha
        exact run_append_room (P := P) w t ty e i hu hi g sLen sCap cur hg ⟨b, o, none⟩ xs.length capx cs (by rw [hcl, hc1]) hcell hcs1 hroom hfit
       ·obtain ⟨b', o, ha, hcell⟩ := hor.resolve_left (fun e => by rw [e] at hpos; simp at hpos)
        subst ha
        exact run_append_grow (P := P) w t ty e i z hu hi hz1 b sLen sCap olds ho1 ho2 ⟨b', o, none⟩ xs.length capx cs (by rw [hcl, hc1]) hcell hgr h63 hfit
      split at h
      ·rename_i k len hsr
       rw [aEw hsr] at hvs
       exact auI (z := z) h hs hvs hsrc hc1 hc4 hcs hcl hcs1
      ·exact ak3 (t := t) (t2 := t) (ty := ty) (z := z) (zs := zs) h hs hvs rfl hsrc hc1 hc2 hc3 hc4 hz2 hz3 hcs hcl hlim hcs1
     ·cases h
    ·cases h
   ·cases h
  ·cases h
 ·cases h
theorem agZ (z : Array Value) (n : Nat) : (Builtin.zeroCells z n).toList = aaX z.toList n := adJ z n
theorem ayF {σ σ' : St} {a : Act} {dst : Option Nat} {t t2 ty : TypeId} {s x : AV} {vs vx : Value} (h : (aC7 P σ dst t t2 s x).Leaf σ') (hs : SRel C ρ σ a w) (hvs : VR C ρ σ.H w s vs) (hvx : VR C ρ σ.H w x vx) :
  ∃ v w' ρ', (Builtin.append_ #[t, t2] ty #[vs, vx]).run P w = .ok v w' ∧ SRel C ρ' σ' (a.put dst v) w' ∧ Fr C σ.next ρ σ.H w ρ' σ'.H w' ∧ σ.next ≤ σ'.next := by
 unfold aC7 at h
 split at h
 case h_2 => cases h
 rename_i e kn hu hu2
 split at h
 case h_2 => cases h
 rename_i i hi
 split at h
 case h_2 => cases h
 rename_i u zs hty hz
 split at h
 case h_2 => cases h
 rename_i y hp
 split at h
 case h_2 => cases h
 rename_i hc
 simp only [zl] at hc
 obtain ⟨⟨⟨hc1, hc2⟩, hc3⟩, hc4⟩ := hc
 have hc1 := aaD hc1
 have hc2 := aaD hc2
 have hc3 := Nat.le_of_ble_eq_true hc3
 have hc4 := Nat.le_of_ble_eq_true hc4
 obtain ⟨z, hz1, hz2, hz3⟩ := aqK hi hz
 split at h
 case h_2 => cases h
 rename_i k n
 unfold aEi at h
 cases h with
 | need hq h =>
  cases h
  cases hvs
  obtain ⟨en, -⟩ := abD hvx
  subst en
  obtain ⟨m, rfl⟩ : ∃ m : Nat, n = (m : Int) := ⟨Int.toNat n, (Int.toNat_of_nonneg (Int.le_trans zc hq.1)).symm⟩
  have hm0 : 0 < m := by have := hq.1; omega
  have hmb : m * i.bytes ≤ 140737488355328 := by
   have h2 : ((m * i.bytes : Nat) : Int) ≤ 140737488355328 := by rw [xA]; exact hq.2
   omega
  have hm1 : m * 1 ≤ m * i.bytes := yd _ hc3
  have hrun := Lib.run_append_nil_zeros (P := P) w t t2 ty e i z k kn hu hu2 hi hz1 m hm0 zb zb zb
  have hge := grownCap_ge w m 0 e
  have hcm : grownCap w m 0 e ≤ maxLen := grownCap_le_maxLen w m 0 e (by unfold maxLen; omega)
  obtain ⟨z', hz1', hzr, hz3'⟩ := acN (C := C) (ρ := ρ) (H := σ.H) (w := w) hz
  have hlz : z.cells.toList.length = u.size := zg
  have hzz : RdL (Rd (Ok C ρ σ.H w) w u) (List.replicate m y) (aaX z.cells.toList m) := by
   have : z' = z := by
    have e1 : (zeroValue e).run P w = .ok z w := by simp [zeroValue, typeInfo, hi, hz1]
    rw [hz1'] at e1
    injection e1
   subst this
   obtain ⟨c1, c2, e1, hl, h2⟩ := adT _ _ _ _ _ hp hzr
   cases h2
   simp only [yK] at e1
   rw [e1]
   exact RdL.replicate hl m
  have hlf : (aaX z.cells.toList m).length = m * u.size := by rw [adM, hlz]
  obtain ⟨ρ', h5, h6⟩ := hs.newRow (e := e) (u := u) (xs := List.replicate m y) (c := Builtin.zeroCells z.cells m ++ Builtin.zeroCells z.cells (grownCap w m 0 e - m)) (cap := grownCap w m 0 e) (dst := dst)
   (by
    rw [yF, yN, agZ, yr (by rw [hlf]; exact zj _), zr (by rw [hlf]; exact zj _)]
    exact hzz)
   (by rw [yF]; simp only [xh, size_zeroCells, hz2, hc2]; exact yB _ _)
   (by rw [yF]; unfold lim; omega)
   (by
    intro v hv
    simp only [yN, zE] at hv
    rcases hv with hv | hv
    ·exact ac5 hz3 v hv
    ·exact ac5 hz3 v hv)
   (by rw [yF]; exact hge) hcm
   (by simp only [xh, size_zeroCells, hz2, hc2, ← zX]; congr 1; omega)
  rw [yF] at h5
  exact ⟨_, _, ρ', hrun, by simpa using h5, by rw [St.put_H]; exact h6, by rw [St.put_next]; exact yR _⟩
theorem atH {t t2 ty e : TypeId} {i : TypeInfo} (hu : P.underlying t = some (.slice e)) (hu2 : P.underlying t2 = some .string) (hi : P.info? e = some i) (b : Option Addr) (sLen sCap : Nat) (h : sLen ≤ sCap) :
  (Builtin.append_ #[t, t2] ty #[.slice b sLen sCap, .string ⟨⟨[]⟩⟩]).run P w = .ok (.slice b sLen sCap) w := by
 have hz : (⟨⟨[]⟩⟩ : ByteArray).size = 0 := rfl
 cases b <;> simp [Builtin.append_, run_underlying hu, run_underlying hu2, sizeOf, typeInfo, hi, Builtin.lenOf, hz, h, Builtin.firstCells, storeCells]
theorem aFR {t t2 ty e : TypeId} {i : TypeInfo} {z : Value} {l : List UInt8} (hu : P.underlying t = some (.slice e)) (hu2 : P.underlying t2 = some .string) (hi : P.info? e = some i) (hc1 : i.size = 1) (hz1 : i.zero = some z) :
  AppSrc P w t t2 ty e i z (.string ⟨⟨l⟩⟩) l.length (l.map fun b => Value.int .u8 (b.toNat : Int)) := by
 have hsz : (⟨⟨l⟩⟩ : ByteArray).size = l.length := rfl
 have hsc : Lib.strCells ⟨⟨l⟩⟩ = l.map fun b => Value.int .u8 (b.toNat : Int) := rfl
 refine ⟨fun h0 b sLen sCap hle => ?_, fun hpos h63 h48 => ?_, fun hpos g sLen sCap cur hg hroom hfit => ?_, fun hpos b sLen sCap olds ho1 ho2 hgr h63 hfit => ?_⟩
 ·rw [yu h0]
  exact atH hu hu2 hi b sLen sCap hle
 ·have := run_append_nil_string (P := P) w t t2 ty e i z hu hu2 hi hz1 ⟨⟨l⟩⟩ hpos h63 h48
  rw [hsz] at this
  rw [this]
  congr 4
  simp
 ·have := Lib.run_append_room_string (P := P) w t t2 ty e i hu hu2 hi hc1 g sLen sCap cur hg ⟨⟨l⟩⟩ hroom (by rw [hc1] at hfit; simpa [hsz] using hfit)
  rw [hsz, hsc] at this
  rw [this, hc1]
  simp
 ·have := Lib.run_append_grow_string (P := P) w t t2 ty e i z hu hu2 hi hz1 b sLen sCap olds ho1 ho2 ⟨⟨l⟩⟩ hgr h63 hfit
  rw [hsz, hsc] at this
  exact this
theorem ayI {σ σ' : St} {a : Act} {dst : Option Nat} {t t2 ty e : TypeId} {i : TypeInfo} {z : Value} {zs : List AV} {l : List UInt8} {s : AV} {vs : Value} (h : (am1 σ dst e i.bytes (.int .u8) (ai2 l) s).Leaf σ') (hs : SRel C ρ σ a w) (hvs : VR C ρ σ.H w s vs)
  (hu : P.underlying t = some (.slice e)) (hu2 : P.underlying t2 = some .string) (hi : P.info? e = some i) (hc1 : i.size = 1) (hc2 : zs.length = 1) (hc3 : 1 ≤ i.bytes) (hz1 : i.zero = some z) (hz2 : z.cells.size = zs.length) (hz3 : ∀ v ∈ z.cells.toList, v.oneCell' = true) (hlim : l.length ≤ lim) :
  ∃ v w' ρ', (Builtin.append_ #[t, t2] ty #[vs, .string ⟨⟨l⟩⟩]).run P w = .ok v w' ∧ SRel C ρ' σ' (a.put dst v) w' ∧ Fr C σ.next ρ σ.H w ρ' σ'.H w' ∧ σ.next ≤ σ'.next := by
 have hlen : (ai2 l).length = l.length := by simp [ai2]
 refine ak3 (t := t) (t2 := t2) (ty := ty) (z := z) (zs := zs) (u := .int .u8) (xs := ai2 l) (cs := l.map fun b => Value.int .u8 (b.toNat : Int)) h hs hvs hlen.symm (aFR hu hu2 hi hc1 hz1) hc1 hc2 hc3 (zj _) hz2 hz3 (aq1 l) ?_ ?_ (fun v hv => by
  obtain ⟨b, _, rfl⟩ := zH.1 hv; rfl)
 ·show (l.map _).length = (ai2 l).length * 1
  rw [hlen]; simp
 ·show (ai2 l).length ≤ lim
  rw [hlen]; exact hlim
theorem atJ {σ σ' : St} {a : Act} {dst : Option Nat} {t t2 ty : TypeId} {s x : AV} {vs vx : Value} (h : (atK P σ dst t t2 s x).Leaf σ') (hs : SRel C ρ σ a w) (hvs : VR C ρ σ.H w s vs) (hvx : VR C ρ σ.H w x vx) :
  ∃ v w' ρ', (Builtin.append_ #[t, t2] ty #[vs, vx]).run P w = .ok v w' ∧ SRel C ρ' σ' (a.put dst v) w' ∧ Fr C σ.next ρ σ.H w ρ' σ'.H w' ∧ σ.next ≤ σ'.next := by
 unfold atK at h
 split at h
 ·rename_i e hu hu2
  split at h
  ·rename_i i hi
   split at h
   ·rename_i zs hty hz
    split at h
    ·rename_i hc
     simp only [zl] at hc
     obtain ⟨⟨hc1, hc2⟩, hc3⟩ := hc
     have hc1 := aaD hc1
     have hc2 := aaD hc2
     have hc3 := Nat.le_of_ble_eq_true hc3
     obtain ⟨z, hz1, hz2, hz3⟩ := aqK hi hz
     split at h
     ·rename_i l
      obtain ⟨e1, hlim⟩ := ad6 hvx
      subst e1
      exact ayI (ty := ty) h hs hvs hu hu2 hi hc1 hc2 hc3 hz1 hz2 hz3 hlim
     ·cases h
    ·cases h
   ·cases h
  ·cases h
 ·cases h
theorem aA0 {σ σ' : St} {a : Act} {dst : Option Nat} {t t2 ty : TypeId} {d x : AV} {vd vx : Value} (h : (aJe P σ dst t d x).Leaf σ') (hs : SRel C ρ σ a w) (hvd : VR C ρ σ.H w d vd) (hvx : VR C ρ σ.H w x vx) :
    ∃ v w', (Builtin.copy_ #[t, t2] ty #[vd, vx]).run P w = .ok v w' ∧ SRel C ρ σ' (a.put dst v) w' ∧ Fr C σ.next ρ σ.H w ρ σ'.H w' ∧ σ'.next = σ.next := by
  have hm := hs.m
  unfold aJe at h
  split at h
  · rename_i e hu
    split at h
    · rename_i k off len
      split at h
      · rename_i e' u l hf
        split at h
        · rename_i n hn
          split at h
          · rename_i hb
            have hb := aaD hb
            subst hb
            split at h
            · rename_i xs hxs
              cases h
              obtain ⟨ax, capx, cs, e1, hcs, hcl, hlim, hor⟩ := awQ hm hxs hvx
              subst e1
              obtain ⟨i, hi, hin⟩ : ∃ i, P.info? e = some i ∧ i.size = u.size := by
                unfold aa6 at hn
                cases hq : P.info? e with
                | none => rw [hq] at hn; cases hn
                | some i => rw [hq] at hn; exact ⟨i, rfl, by simpa using hn⟩
              have hk := Heap.find_mem hf
              cases hvd with
              | own hk' hl hcp hmx hb hsz ha =>
                rename_i ad cap c fr
                have hun := Heap.mem_unique hm.nodup hk hk'
                injection hun with hu1 hu2 hu3
                subst hu1; subst hu2
                have hu3 := eq_of_heq hu3
                subst hu3
                obtain ⟨c0, d1, d2, d3, d4, d5⟩ := hm.mem k _ hk
                rw [hb] at d1
                injection d1 with d1
                injection d1 with d1 d1' d1''
                subst d1; subst d1''
                generalize hmn : min xs.length len = m
                have hmle : m ≤ len := zb
                have hxt : (xs.take len).length = m := zg
                have hct : RdL (Rd (Ok C ρ σ.H w) w u) (xs.take len) (cs.take (m * u.size)) := by
                  have := RdL.take (fun x cs => Rd.length u x cs) xs _ m hcs
                  rwa [show xs.take m = xs.take len by rw [← hmn]; by_cases h : xs.length ≤ len
                                                       · rw [yl h, zr (zj _), zr h]
                                                       · rw [Nat.min_eq_right zb]] at this
                have hctl : (cs.take (m * u.size)).length = m * u.size := by
                  rw [zY, hcl]
                  have : m * u.size ≤ xs.length * u.size := zC _ zb
                  omega
                have hone := RdL.one (fun x cs => Rd.one u x cs) _ _ hct
                have hmx' : Nat.min xs.length len = m := hmn
                have hgo : VR C ρ σ.H w (aFk m) (goInt m) := akU zb
                by_cases hm0 : m = 0
                · have hrun : (Builtin.copy_ #[t, t2] ty #[.slice ad len cap, .slice ax xs.length capx]).run P w = .ok (goInt 0) w := by
                    have hfc : (Builtin.firstCells u.size 0 (.slice ax xs.length capx)).run P w = .ok #[] w := by
                      cases ax <;> simp [Builtin.firstCells, loadCells, loadCellsFrom]
                    cases ad <;> simp [Builtin.copy_, run_underlying hu, Builtin.lenOf, sizeOf, typeInfo, hi, hin, hmx', hm0, hfc, storeCells]
                  have hxn : xs.take len = [] := yu zb
                  have hov : over l off (xs.take len) = l := by rw [hxn]; simp [over]
                  refine ⟨_, w, hrun, ?_, ?_, by rw [St.put_next]⟩
                  · have hup : σ.H.up k (.row e' u (over l off (xs.take len))) = σ.H := by rw [hov]; exact aDh hm.nodup hk
                    simp only [hup]
                    refine hs.put ?_
                    simpa [hm0] using hgo
                  · rw [St.put_H]
                    simp only [hov, aDh hm.nodup hk]
                    exact Fr.refl _ _ _ _ _
                · have hpos : 0 < xs.length := zb
                  have hlenpos : 0 < len := zb
                  obtain ⟨b, o, hax, hcell⟩ := hor.resolve_left (fun e => by rw [e] at hpos; simp at hpos)
                  subst hax
                  have ha' := ha.resolve_right (fun h => by omega)
                  subst ha'
                  have hmulm : (off + m) * u.size ≤ l.length * u.size := zC _ zb
                  rw [zX] at hmulm
                  have hfit : off * u.size + (cs.take (m * u.size)).length ≤ c.size := by rw [hctl]; omega
                  have hfc : (Builtin.firstCells u.size m (.slice (some ⟨b, o, none⟩) xs.length capx)).run P w = .ok (cs.take (m * u.size)).toArray w :=
                    run_firstCells_some (P := P) w u.size m ⟨b, o, none⟩ xs.length capx (cs.take (m * u.size)) hctl (fun j y hj => hcell j y (by
                      have hlt := (zw.1 hj).1
                      rw [hctl] at hlt
                      rwa [zR, if_pos hlt] at hj))
                  have hst := afO (P := P) (vs := cs.take (m * u.size)) hb (o := off * u.size) hfit hone
                  have hrun : (Builtin.copy_ #[t, t2] ty #[.slice (some ⟨ρ k, off * u.size, none⟩) len cap, .slice (some ⟨b, o, none⟩) xs.length capx]).run P w = .ok (goInt m) (w.setRow (ρ k) ⟨over c.toList (off * u.size) (cs.take (m * u.size))⟩) := by
                    simp [Builtin.copy_, run_underlying hu, Builtin.lenOf, sizeOf, typeInfo, hi, hin, hmx', hfc, hst]
                  have hovl : (over l off (xs.take len)).length = l.length := aaV _ _ _ (by rw [hxt]; omega)
                  obtain ⟨hm', hext⟩ := hm.write (nb := .row e' u (over l off (xs.take len))) (c' := ⟨over c.toList (off * u.size) (cs.take (m * u.size))⟩) hk hb (by show c.size = (over c.toList _ _).length; rw [aaV _ _ _ (by simpa using hfit)]; simp)
                    (by intro e1 t1 l1 hh; injection hh with h1 h2 h3; subst h1; subst h2; have h3 := eq_of_heq h3; subst h3; exact ⟨_, rfl, by rw [hovl]; exact zj _⟩)
                    (fun H' w' he hh => by
                      refine ⟨_, hh, by rw [hovl]; show l.length * _ ≤ (over c.toList _ _).length; rw [aaV _ _ _ (by simpa using hfit)]; simpa using d2, by rw [hovl]; exact d3, ?_, fun v hv => ?_⟩
                      · rw [hovl]
                        show RdL _ _ ((over c.toList _ _).take _)
                        rw [(ajH c.toList (l.length * u.size) (off * u.size) (cs.take (m * u.size)) (by rw [hctl]; omega)).resolve_right zg]
                        exact RdL.over (fun x cs => Rd.length u x cs) _ _ _ _ _ (RdL.mono (fun x cs => Rd.mono he.data u x cs) _ _ d4) (RdL.mono (fun x cs => Rd.mono he.data u x cs) _ _ hct)
                      · rcases agK hv with hv | hv
                        · exact d5 v hv
                        · exact hone v hv)
                  have hfr := hext.fr (n := σ.next) (fun j _ hj => by rwa [Heap.keys_up] at hj)
                  refine ⟨_, _, hrun, (hs.frame hm' hfr (fun j hj => by rwa [Heap.keys_up])).put (hext.vr hgo), by rw [St.put_H]; exact hfr, by rw [St.put_next]⟩
            · cases h
          · cases h
        · cases h
      · cases h
    · cases h
  · cases h
end
section
variable {C : Ctx} {ρ : Nat → Nat} {w : World} {P : Program}
def ax6 (P : Program) (σ : St) (dst : Option Nat) (k n : Nat) (e : TypeId) (x : AV) : T St :=
 match σ.H.find k with
 | some (.vars e' cells) => match aGd P 20 e, aa6 P e with
  | some u, some m => match Nat.beq m 1 && Nat.beq u.size 1 && !u.agg && Nat.ble n cells.length with
   | true => match aJU σ.H (.sl u) x with
    | some (xs : List u.T) => .ok (({ σ with H := σ.H.up k (.vars e' (over cells 0 ((xs.take n).map fun y => AV.d u y))) } : St).put dst (aFk (min xs.length n)))
    | none => .bad
   | false => .bad
  | _, _ => .bad
 | _ => .bad
theorem aDf {ok : Heap} {H : Heap} {u : Ty} (hu : u.agg = false) (h1 : u.size = 1) : ∀ (xs : List u.T) (cs : List Value), RdL (Rd (Ok C ρ H w) w u) xs cs → VRs C ρ H w (xs.map fun y => AV.d u y) cs
 | [], cs, h => by
  have : cs = [] := by simpa [RdL] using h
  subst this; exact .nil
 | x :: xs, _, ⟨c1, c2, e, h2, h3⟩ => by
  subst e
  have hl := Rd.length u x c1 h2
  rw [h1] at hl
  match c1, hl, h2 with
  | [v], _, h2 => exact .cons (.d ⟨[v], h2, by cases u <;> first | rfl | cases hu⟩) (aDf (ok := ok) hu h1 xs c2 h3)
theorem aBC {ρ' : Nat → Nat} {H H' : Heap} {w' : World} (he : Ext C ρ H w ρ' H' w') : ∀ {l : List AV} {vs : List Value}, VRs C ρ H w l vs → VRs C ρ' H' w' l vs
 | _, _, .nil => .nil
 | _, _, .cons h hs => .cons (he.vr h) (aBC he hs)
theorem auG {σ σ' : St} {a : Act} {dst : Option Nat} {t t2 ty e : TypeId} {k n cap : Nat} {x : AV} {vx : Value} (h : (ax6 P σ dst k n e x).Leaf σ') (hu0 : P.underlying t = some (.slice e)) (hs : SRel C ρ σ a w) (hvx : VR C ρ σ.H w x vx) (hn' : n ≤ lim) :
  ∃ v w', (Builtin.copy_ #[t, t2] ty #[.slice (some ⟨ρ k, 0, none⟩) n cap, vx]).run P w = .ok v w' ∧ SRel C ρ σ' (a.put dst v) w' ∧ Fr C σ.next ρ σ.H w ρ σ'.H w' ∧ σ'.next = σ.next := by
 have hm := hs.m
 unfold ax6 at h
 split at h
 ·rename_i e' cells hf
  split at h
  ·rename_i u m0 hu hsz
   split at h
   ·rename_i hb
    simp only [zl, zK] at hb
    obtain ⟨⟨⟨b1, b2⟩, b3⟩, b4⟩ := hb
    have b1 := aaD b1
    have b2 := aaD b2
    have b4 := Nat.le_of_ble_eq_true b4
    subst b1
    split at h
    ·rename_i xs hxs
     cases h
     obtain ⟨ax, capx, cs, e1, hcs, hcl, hlim, hor⟩ := awQ hm hxs hvx
     subst e1
     obtain ⟨i, hi, hin⟩ : ∃ i, P.info? e = some i ∧ i.size = 1 := by
      unfold aa6 at hsz
      cases hq : P.info? e with
      | none => rw [hq] at hsz; cases hsz
      | some i => rw [hq] at hsz; exact ⟨i, rfl, by simpa using hsz⟩
     have hk := Heap.find_mem hf
     obtain ⟨c0, d1, d2, d3⟩ := hm.mem k _ hk
     have hcl0 : cells.length = c0.toList.length := VRs.length d2
     rw [b2, Nat.mul_one] at hcl
     generalize hmn : min xs.length n = m
     have hxt : (xs.take n).length = m := zg
     have hct : RdL (Rd (Ok C ρ σ.H w) w u) (xs.take n) (cs.take m) := by
      have := RdL.take (fun x cs => Rd.length u x cs) xs _ m hcs
      rw [b2, Nat.mul_one] at this
      have hxm : xs.take m = xs.take n := by
       rw [← hmn]
       by_cases h : xs.length ≤ n
       ·rw [yl h, zr (zj _), zr h]
       ·rw [Nat.min_eq_right zb]
      rwa [hxm] at this
     have hctl : (cs.take m).length = m := by rw [zY, hcl]; omega
     have hone := RdL.one (fun x cs => Rd.one u x cs) _ _ hct
     have hmx' : Nat.min xs.length n = m := hmn
     have hgo : VR C ρ σ.H w (aFk m) (goInt m) := akU zb
     have hfit : 0 + (cs.take m).length ≤ c0.size := by rw [hctl]; have : c0.toList.length = c0.size := Array.length_toList; omega
     have hfc : (Builtin.firstCells 1 m (.slice ax xs.length capx)).run P w = .ok (cs.take m).toArray w := by
      by_cases hm0 : m = 0
      ·subst hm0
       cases ax <;> simp [Builtin.firstCells, loadCells, loadCellsFrom]
      ·obtain ⟨b, o, hax, hcell⟩ := hor.resolve_left (fun e => by rw [e] at hxt; simp at hxt; omega)
       subst hax
       exact run_firstCells_some (P := P) w 1 m ⟨b, o, none⟩ xs.length capx (cs.take m) (by rw [hctl]; omega) (fun j y hj => hcell j y (by
        have hlt := (zw.1 hj).1
        rw [hctl] at hlt
        rwa [zR, if_pos hlt] at hj))
     have hst := afO (P := P) (vs := cs.take m) d1 (o := 0) hfit hone
     have hrun : (Builtin.copy_ #[t, t2] ty #[.slice (some ⟨ρ k, 0, none⟩) n cap, .slice ax xs.length capx]).run P w = .ok (goInt m) (w.setRow (ρ k) ⟨over c0.toList 0 (cs.take m)⟩) := by
      simp [Builtin.copy_, run_underlying hu0, Builtin.lenOf, sizeOf, typeInfo, hi, hin, hmx', hfc, hst]
     obtain ⟨hm', hext⟩ := hm.write (nb := .vars e' (over cells 0 ((xs.take n).map fun y => AV.d u y))) (c' := ⟨over c0.toList 0 (cs.take m)⟩) hk d1 (by show c0.size = (over c0.toList _ _).length; rw [aaV _ _ _ (by simpa using hfit)]; simp)
      (by intro e1 t1 l1 hh; cases hh)
      (fun H' w' he hh => by
       refine ⟨_, hh, ?_, fun v hv => ?_⟩
       ·exact VRs.over (aBC he d2) (aBC he (aDf (ok := σ.H) b3 b2 _ _ hct)) 0
       ·rcases agK hv with hv | hv
        ·exact d3 v hv
        ·exact hone v hv)
     have hfr := hext.fr (n := σ.next) (fun j _ hj => by rwa [Heap.keys_up] at hj)
     exact ⟨_, _, hrun, (hs.frame hm' hfr (fun j hj => by rwa [Heap.keys_up])).put (hext.vr hgo), by rw [St.put_H]; exact hfr, by rw [St.put_next]⟩
    ·cases h
   ·cases h
  ·cases h
 ·cases h
def aJf (P : Program) (σ : St) (dst : Option Nat) (t : TypeId) (d x : AV) : T St :=
 match d with
 | .sv k o n _ => match o, P.underlying t with
  | 0, some (.slice e) => ax6 P σ dst k n e x
  | _, _ => .bad
 | d => aJe P σ dst t d x
theorem aA1 {σ σ' : St} {a : Act} {dst : Option Nat} {t t2 ty : TypeId} {d x : AV} {vd vx : Value} (h : (aJf P σ dst t d x).Leaf σ') (hs : SRel C ρ σ a w) (hvd : VR C ρ σ.H w d vd) (hvx : VR C ρ σ.H w x vx) :
  ∃ v w', (Builtin.copy_ #[t, t2] ty #[vd, vx]).run P w = .ok v w' ∧ SRel C ρ σ' (a.put dst v) w' ∧ Fr C σ.next ρ σ.H w ρ σ'.H w' ∧ σ'.next = σ.next := by
 unfold aJf at h
 split at h
 ·split at h
  ·rename_i hu
   obtain ⟨rfl, hl, _⟩ := VR.sv_inv hvd
   exact auG h hu hs hvx hl
  ·cases h
 ·exact aA0 h hs hvd hvx
end
open Go Go.RowKit
def acS (G : World → Prop) : Prop := ∀ w w', Below w.heap.size w w' → G w → G w'
inductive Tgt where
 | fn (f : FuncId)
 | yld (l : Nat)
def aaW (r : Option Nat) : Fence := { Fence.wide with round := r }
theorem callsIn_wideR {r : Option Nat} {n : Nat} {P : Program} {f : FuncId} {args : Array Value} {w : World} {R : Ending → World → Prop} : CallsIn (aaW r) n P f args w R ↔ Calls P f args w R :=
 callsIn_wide (n := n)
theorem aaS {r : Option Nat} {P : Program} {o : Oper} {a : Act} {w : World} {nx : Act → World → Prop} {Q : Exit → Act → World → Prop} (hd : ∀ c, o.op ≠ .defer c) (h : o.wp P a w nx Q) : o.wpIn (aaW r) 0 P a w nx Q := by
 refine ⟨fun _ _ => trivial, ?_⟩
 rw [Oper.semAt_eq _ _ _ hd]
 unfold Oper.wp at h
 generalize (execOp a.eval o).run P w = x at h
 have hdep : (aaW r).depth.isSome = true → 1 ≤ 0 := fun h => by cases h
 cases x with
 | ok y w' =>
  cases y with
  | value v => exact h
  | skip => exact h
  | defer d => exact h
  | enter f args => exact ⟨hdep, callsIn_wideR.2 h⟩
  | row row args => exact ⟨hdep, fun c cs _ => let ⟨v, w', r, s⟩ := h c cs; ⟨v, w', r, stepsIn_wide.2 s⟩⟩
  | _ => exact h.elim
 | halt x w' => cases x <;> exact h
abbrev abN := Tgt → List AV → Heap → Nat → (AV → Heap → Nat → Prop) → Prop
def abE (H : Heap) (k : Nat) : Bool :=
 match H.find k with
 | some _ => true
 | none => false
mutual
def aGT : AV → List Nat
 | .own k _ _ => [k]
 | .ox k _ _ => [k]
 | .fn _ a b => ab4 a ++ ab4 b
 | .ag l => ab4 l
 | .tup l => ab4 l
 | _ => []
def ab4 : List AV → List Nat
 | [] => []
 | a :: as => aGT a ++ ab4 as
end
def St.thaw (σ : St) (k : Nat) : St :=
 match σ.H.find k with
 | some (.row _ t l) => { σ with slots := aa1 (neK k) (adY t l) σ.slots, H := σ.H.keep (neK k) (adY t l) }
 | _ => σ
def St.thaws (σ : St) : List Nat → St
 | [] => σ
 | k :: ks => (σ.thaw k).thaws ks
def aOM : AV → Bool
 | .ag l => match ab4 l with | [] => false | _ :: _ => true
 | _ => false
def aC9 : List AV → Bool
 | [] => false
 | a :: as => aOM a || aC9 as
def St.grow (σ : St) (dst : Option Nat) (r : AV) (new : Heap) : St := ({ σ with H := new ++ σ.H, next := σ.next + 1 } : St).put dst r
def anG (P : Program) (σ : St) (dst : Option Nat) (pt : TypeId) (p : AV) (m : Int) : T St :=
 match p with
 | .eptr k 0 => match σ.H.find k with
  | some (.row e (.int .u8) l) => match P.underlying pt with
   | some (.pointer e') => match Nat.beq e' e && Nat.beq (P.cellsOf e) 1 with
    | true => .need (1 ≤ m ∧ m ≤ ((l : List Int).length : Int)) (.ok ((σ.thaw k).put dst (.d .str (akQ ((l : List Int).take m.toNat)))))
    | false => .bad
   | _ => .bad
  | _ => .bad
 | .nilp => .need (m = 0) (.ok (σ.put dst (.d .str [])))
 | _ => .bad
def aqO (P : Program) (σ : St) (dst : Option Nat) (pt : TypeId) (p n : AV) : T St :=
 match n with
 | .d (.int .i64) m => anG P σ dst pt p m
 | _ => .bad
def aH2 (P : Program) (g : FuncId) : Bool :=
 match P.funcs[g]? with
 | some fn => fn.body.isNone && fn.name == "internal/abi.NoEscape" && (fn.origin == "internal/abi.NoEscape" || fn.origin == "")
 | none => false
def St.freed (σ : St) (x : AV) : St :=
 match aGT x with
 | [] => σ
 | k :: ks => σ.thaws (k :: ks)
def aBF (P : Program) (σ : St) (t : TypeId) (a x : Operand) : T St :=
 match σ.eval a with
 | .eptr _ _ => aqR P (σ.freed (σ.eval x)) t ((σ.freed (σ.eval x)).eval a) ((σ.freed (σ.eval x)).eval x)
 | _ => aqR P σ t (σ.eval a) (σ.eval x)
def atB (P : Program) (σ : St) (dst : Option Nat) (b : Builtin) (args : List Operand) (ts : List TypeId) : Option (T St) :=
 match b with
 | .append => match args, ts with
  | [s, x], [t, u] => match Nat.beq t u with
   | true => some (ayH P σ dst t (σ.eval s) (σ.eval x).soft)
   | false => match P.underlying u with
    | some (.int _) => some (aC7 P σ dst t u (σ.eval s) (σ.eval x))
    | _ => some (atK P σ dst t u (σ.eval s) (σ.eval x))
  | _, _ => some .bad
 | .copy => match args, ts with
  | [d, x], [t, u] => match Nat.beq t u with
   | true => some (aJf P σ dst t (σ.eval d).soft (σ.eval x).soft)
   | false => some .bad
  | _, _ => some .bad
 | .unsafeString => match args, ts with
  | [p, n], [pt, _] => some (aqO P σ dst pt (σ.eval p) (σ.eval n))
  | _, _ => some .bad
 | _ => none
def aGn : List (DK × AV) → DK → AV → List (DK × AV)
 | [], n, v => [(n, v)]
 | (k, x) :: r, n, v => match eqK n k with
  | true => (n, v) :: r
  | false => (k, x) :: aGn r n v
def aF4 (k : KK) {α : Type} (n : DK) (v : α) : List (k.ty.T × α) → List (k.ty.T × α)
 | [] => [(k.kd n, v)]
 | x :: r => match eqK n (k.dk x.1) with
  | true => (k.kd n, v) :: r
  | false => x :: aF4 k n v r
theorem aDr {k : KK} {t : Ty} {n : DK} (hn : k.has n = true) (v : t.T) : ∀ l : List (k.ty.T × t.T), aGn (aI0 k t l) n (.d t v) = aI0 k t (aF4 k n v l)
 | [] => by simp [aI0, aGn, aF4, KK.dk_kd hn]
 | x :: r => by
  have ih := aDr hn v r
  show (match eqK n (k.dk x.1) with | true => (n, AV.d t v) :: aI0 k t r | false => (k.dk x.1, AV.d t x.2) :: aGn (aI0 k t r) n (.d t v)) = _
  simp only [aF4]
  cases eqK n (k.dk x.1) with
  | true => simp [aI0, KK.dk_kd hn]
  | false => simp only [ih]; rfl
def aIa (P : Program) (σ : St) (t : TypeId) (m i v : AV) : T St :=
 match P.underlying t with
 | some (.map kt _) => match ayV P kt with
  | some k => match m, aQT k i with
   | .mp K, some n => match σ.H.find K with
    | some (.dic k'' l) => match decide (k'' = k) with
     | true => .ok { σ with H := σ.H.up K (.dic k (aGn l n v)) }
     | false => .bad
    | some (.dicv k'' u l) => match decide (k'' = k), toD u v with
     | true, some x => .ok { σ with H := σ.H.up K (.dicv k'' u (aF4 k'' n x l)) }
     | _, _ => .bad
    | _ => .bad
   | _, _ => .bad
  | none => .bad
 | _ => .bad
inductive Fi where
 | go (σ : St)
 | pan (ch : List PanicEntry) (σ : St)
def ajX : AV → Option (List PanicEntry)
 | .ifc k (.pair (.int kk) .unit) x => some [{ v := .iface k (.agg #[.int kk x.1]), recovered := false }]
 | .ifc k (.int kk) x => some [{ v := .iface k (.int kk x), recovered := false }]
 | _ => none
def ofValue : Value → Option AV
 | .iface k (.agg ⟨[.int kk n]⟩) => match decide (kk.min ≤ n) && decide (n ≤ kk.max) with
  | true => some (.ifc k (.pair (.int kk) .unit) (n, ()))
  | false => none
 | .iface k (.int kk n) => match decide (kk.min ≤ n) && decide (n ≤ kk.max) with
  | true => some (.ifc k (.int kk) n)
  | false => none
 | _ => none
def afQ : List PanicEntry → Option AV
 | [⟨v, false, false⟩] => ofValue v
 | _ => none
def amE (ch : List PanicEntry) (K : AV → Prop) : Prop := match ch with
 | [⟨.iface k (.agg ⟨[.int kk n]⟩), false, false⟩] => (kk.min ≤ n ∧ n ≤ kk.max) ∧ K (.ifc k (.pair (.int kk) .unit) (n, ()))
 | [⟨.iface k (.int kk n), false, false⟩] => (kk.min ≤ n ∧ n ≤ kk.max) ∧ K (.ifc k (.int kk) n)
 | _ => False
theorem arQ {ch : List PanicEntry} {K : AV → Prop} (h : amE ch K) : ∃ x, afQ ch = some x ∧ K x := by
 unfold amE at h
 split at h
 ·refine ⟨_, ?_, h.2⟩
  simp only [afQ, ofValue, zm h.1.1, zm h.1.2, Bool.and_self]
 ·refine ⟨_, ?_, h.2⟩
  simp only [afQ, ofValue, zm h.1.1, zm h.1.2, Bool.and_self]
 ·exact h.elim
theorem arR {ch : List PanicEntry} {x : AV} {K : AV → Prop} (h : afQ ch = some x) (hk : K x) : amE ch K := by
 unfold afQ at h
 split at h
 ·unfold ofValue at h
  split at h
  ·split at h
   ·rename_i hc
    injection h with h; subst h
    rw [zl, zz, zz] at hc
    exact ⟨hc, hk⟩
   ·cases h
  ·split at h
   ·rename_i hc
    injection h with h; subst h
    rw [zl, zz, zz] at hc
    exact ⟨hc, hk⟩
   ·cases h
  ·cases h
 ·cases h
def aO1 (x : AV) : AV := .tup [.und, .und, .und, x]
def alK : AV → Option AV
 | .tup [.und, .und, .und, x] => some x
 | _ => none
def ak4 (σ : St) (dst : Option Nat) (K : Fi → Prop) (r : AV) (H' : Heap) (n' : Nat) : Prop :=
 match alK r with
 | none => K (.go (({ slots := aa1 (abE H') aeG σ.slots, H := H', next := n', n := σ.n } : St).put dst r))
 | some x => match ajX x with
  | some ch => K (.pan ch { slots := aa1 (abE H') aeG σ.slots, H := H', next := n', n := σ.n })
  | none => False
def aNU (f : St → Prop) (K : Fi → Prop) : Fi → Prop
 | .go σ => f σ
 | .pan ch σ => K (.pan ch σ)
def opS (P : Program) (Γ : Cons) (call : abN) (o : Oper) (σ : St) (K : Fi → Prop) : Prop :=
 match o.op with
 | .store t a x => (aBF P σ t a x).holds fun σ' => K (.go (σ'.put o.dst .und))
 | .buildSlice _ _ ps => (evM P Γ (σ.freed (.ag (ps.toList.map fun x => σ.eval x.2))).next (σ.freed (.ag (ps.toList.map fun x => σ.eval x.2))).H (σ.freed (.ag (ps.toList.map fun x => σ.eval x.2))).eval o).holds
   fun x => K (.go ((σ.freed (.ag (ps.toList.map fun x => σ.eval x.2))).grow o.dst x.1 x.2))
 | .call { callee := .builtin b, args, argTypes } => match atB P σ o.dst b args.toList argTypes.toList with
  | some r => r.holds fun σ' => K (.go σ')
  | none => (evM P Γ σ.next σ.H σ.eval o).holds fun x => K (.go (σ.grow o.dst x.1 x.2))
 | .call { callee := .value f, args, .. } => match σ.eval f with
  | .fn g first caps => match Γ.find g with
   | some c => match !(noSl c.res) || aC9 (args.toList.map σ.eval) with
    | true => (evM P Γ σ.next (σ.thaws (ab4 (args.toList.map σ.eval))).H (σ.thaws (ab4 (args.toList.map σ.eval))).eval o).holds fun x => K (.go ((σ.thaws (ab4 (args.toList.map σ.eval))).grow o.dst x.1 x.2))
    | false => (evM P Γ σ.next σ.H σ.eval o).holds fun x => K (.go (σ.grow o.dst x.1 x.2))
   | none => match aH2 P g with
    | true => match args.toList, first, caps with
     | [x], [], [] => K (.go (σ.put o.dst (σ.eval x)))
     | _, _, _ => False
    | false => call (.fn g) (first ++ args.toList.map σ.eval ++ caps) σ.H σ.next (ak4 σ o.dst K)
  | .yld l => call (.yld l) (args.toList.map σ.eval) σ.H σ.next (ak4 σ o.dst K)
  | _ => False
 | .panic x => match ajX (σ.eval x) with
  | some ch => K (.pan ch σ)
  | none => False
 | .slice _ y _ _ (some _) => (evM P Γ (σ.freed (σ.eval y)).next (σ.freed (σ.eval y)).H (σ.freed (σ.eval y)).eval o).holds fun x => K (.go ((σ.freed (σ.eval y)).grow o.dst x.1 x.2))
 | .mapUpdate t m i x => (aIa P σ t (σ.eval m) (σ.eval i) (σ.eval x)).holds fun σ' => K (.go (σ'.put o.dst .und))
 | .insert t m i x => (aIa P σ t (σ.eval m) (σ.eval i) (σ.eval x)).holds fun σ' => K (.go (σ'.put o.dst .und))
 | _ => (evM P Γ σ.next σ.H σ.eval o).holds fun x => K (.go (σ.grow o.dst x.1 x.2))
def abB (ops : Array Oper) (j : Nat) : Option Nat := (ops[j]?).bind (·.dst)
def aa3 (P : Program) (Γ : Cons) (call : abN) (ops : Array Oper) : List Oper → St → (Fi → Prop) → Prop
 | [], σ, K => K (.go σ)
 | o :: rest, σ, K => match o.guard with
  | none => opS P Γ call o σ (aNU (fun σ' => aa3 P Γ call ops rest σ' K) K)
  | some (j, want) => match abB ops j with
   | some t => match acT σ.slots t with
    | .d .bool x => al1 x
      (match want with
       | true => opS P Γ call o (σ.put (some t) (.d .bool true)) (aNU (fun σ' => aa3 P Γ call ops rest σ' K) K)
       | false => aa3 P Γ call ops rest ((σ.put (some t) (.d .bool true)).put o.dst .und) K)
      (match want with
       | true => aa3 P Γ call ops rest ((σ.put (some t) (.d .bool false)).put o.dst .und) K
       | false => opS P Γ call o (σ.put (some t) (.d .bool false)) (aNU (fun σ' => aa3 P Γ call ops rest σ' K) K))
    | .und => aa3 P Γ call ops rest (σ.put o.dst .und) K
    | _ => False
   | none => False
section
variable {C : Ctx} {P : Program} {G : World → Prop}
theorem aI7 {R : AV → Value → Prop} {w : World} {kt : TypeId} {k : KK} (hkk : ayV P kt = some k) {n : DK} {kv : Value} (hk : aBt k n kv) {v : AV} {val : Value} (hv : R v val) (born : Nat) : ∀ {l : List (DK × AV)} {es : List MapEntry} (i : Nat), MapR R k l es →
  (Fnd P w kt k kv es i none ∧ MapR R k (aGn l n v) (es ++ [⟨kv, val, born⟩])) ∨
  ∃ j u, Fnd P w kt k kv es i (some (i + j, u)) ∧ (∃ e, es[j]? = some e ∧ e.key = kv) ∧ MapR R k (aGn l n v) (es.modify j fun e => { e with key := kv, val := val })
 | [], [], _, _ => Or.inl ⟨aIC, hk, hv, trivial⟩
 | x :: l, e :: es, i, ⟨h1, h2, h3⟩ => by
  have ih := aI7 (w := w) (v := v) (val := val) hkk hk hv born (i + 1) h3
  have e1 : aGn (x :: l) n v = match eqK n x.1 with | true => (n, v) :: l | false => x :: aGn l n v := rfl
  rw [e1]
  cases hb : eqK n x.1 with
  | true =>
   have hx : n = x.1 := aIY hb
   exact Or.inr ⟨0, _, aID hkk hk h1 hb, ⟨e, rfl, by rw [h1.2, ← hx]; exact hk.2.symm⟩, hk, hv, h3⟩
  | false =>
   rcases ih with ⟨g1, g2⟩ | ⟨j, u, g1, g2, g3⟩
   ·exact Or.inl ⟨ap8 hkk hk h1 hb g1, h1, h2, g2⟩
   ·exact Or.inr ⟨j + 1, u, by rw [show i + (j + 1) = i + 1 + j by omega]; exact ap8 hkk hk h1 hb g1, by simpa using g2, h1, h2, g3⟩
 | [], _ :: _, _, h => h.elim
 | _ :: _, [], _, h => h.elim
theorem MRel.chg {ρ : Nat → Nat} {H : Heap} {next : Nat} {w : World} (hm : MRel C ρ H next w) {l : Nat} {ob nb : Bk} {o O : Obj} (hk : (l, ob) ∈ H) (hl : w.heap[ρ l]? = some o) (hc : ∀ c e fr, o ≠ .cells c e fr) (hr : ∀ e t m, ob ≠ .row e t m)
  (hb : ∀ (H' : Heap) (w' : World), Ext C ρ H w ρ H' w' → w'.heap[ρ l]? = some O → BkR C ρ H' w' (ρ l) nb) :
  MRel C ρ (H.up l nb) next (w.putObj (ρ l) O) ∧ Ext C ρ H w ρ (H.up l nb) (w.putObj (ρ l) O) := by
 have hkk := aaE hk
 have hlt := ac1 hl
 have hext : Ext C ρ H w ρ (H.up l nb) (w.putObj (ρ l) O) := by
  refine ⟨fun b hb => ?_, fun j hj => ⟨by rw [Heap.keys_up]; exact hj, rfl⟩, fun j e' t m hmem => ?_, by simp⟩
  ·obtain ⟨h1, h2, h3⟩ := hb
   exact ⟨⟨h1, by simpa using h2, fun j hj => h3 j (by rwa [Heap.keys_up] at hj)⟩, World.putObj_heap_other (fun e => h3 l hkk e.symm)⟩
  ·have hne : j ≠ l := fun e => by subst e; exact hr _ _ _ (Heap.mem_unique hm.nodup hk hmem)
   refine ⟨m, (Heap.mem_up_ne hne).2 hmem, zj _, fun c fr hcc => ⟨c, fr, ?_, rfl⟩⟩
   rw [World.putObj_heap_other]; exact hcc
   intro e
   rw [e, hl] at hcc
   injection hcc with hcc
   exact hc _ _ _ hcc
 refine ⟨⟨?_, ?_, ?_, ?_, ?_, ?_⟩, hext⟩
 ·exact hm.below.trans ⟨rfl, rfl, rfl, by simp, fun i hi => World.putObj_heap_other (fun e => by have := hm.low l hkk; omega)⟩
 ·rw [Heap.keys_up]; exact hm.nodup
 ·rw [Heap.keys_up]; exact hm.lt
 ·rw [Heap.keys_up]; exact hm.inj
 ·rw [Heap.keys_up]; exact hm.low
 ·intro j b hjb
  by_cases hj : j = l
  ·subst hj
   rw [Heap.mem_up_eq hm.nodup hjb]
   exact hb _ _ hext (World.putObj_heap_same hlt)
  ·have hjb' := (Heap.mem_up_ne hj).1 hjb
   exact (hm.mem j b hjb').ext hext (World.putObj_heap_other (fun e => hj (hm.inj j (aaE hjb') l hkk e)))
theorem aAf {ρ : Nat → Nat} {σ : St} {a : Act} {w : World} {t kt et : TypeId} {K : Nat} {vi vv : Value} {n : DK} {v : AV} {k : KK} {l : List (DK × AV)} {ob nb : Bk} (hs : SRel C ρ σ a w) (hu : P.underlying t = some (.map kt et)) (hk : ayV P kt = some k)
  (hf : σ.H.find K = some ob) (hr : ∀ e t m, ob ≠ .row e t m) {es : Array MapEntry} {c : Nat} (hb : w.heap[ρ K]? = some (.map es c)) (hR : MapR (VR C ρ σ.H w) k l es.toList) (hkr : aBt k n vi) (hvv : VR C ρ σ.H w v vv)
  (hnb : ∀ (H' : Heap) (w' : World), Ext C ρ σ.H w ρ H' w' → ∀ (es' : Array MapEntry) (c' : Nat), w'.heap[ρ K]? = some (.map es' c') → MapR (VR C ρ σ.H w) k (aGn l n v) es'.toList → BkR C ρ H' w' (ρ K) nb) :
  ∃ w', (Instr.mapUpdate t (.map (some (ρ K))) vi vv).run P w = .ok () w' ∧ SRel C ρ { σ with H := σ.H.up K nb } a w' ∧ Fr C σ.next ρ σ.H w ρ (σ.H.up K nb) w' ∧ σ.next = σ.next := by
 have fin : ∀ (es' : Array MapEntry) (c' : Nat), MapR (VR C ρ σ.H w) k (aGn l n v) es'.toList → (Instr.mapUpdate t (.map (some (ρ K))) vi vv).run P w = .ok () (w.putObj (ρ K) (.map es' c')) →
   ∃ w', (Instr.mapUpdate t (.map (some (ρ K))) vi vv).run P w = .ok () w' ∧ SRel C ρ { σ with H := σ.H.up K nb } a w' ∧ Fr C σ.next ρ σ.H w ρ (σ.H.up K nb) w' ∧ σ.next = σ.next := by
  intro es' c' hR' hrun
  obtain ⟨hm', hext⟩ := hs.m.chg (O := .map es' c') (nb := nb) (Heap.find_mem hf) hb (fun _ _ _ h => by cases h) hr (fun H' w' he hh => hnb H' w' he es' c' hh hR')
  have hfr := hext.fr (n := σ.next) (fun k _ hk => by rwa [Heap.keys_up] at hk)
  exact ⟨_, hrun, hs.frame (next' := σ.next) hm' hfr (fun k hk => by rw [Heap.keys_up]; exact hk), hfr, rfl⟩
 rcases aI7 (w := w) hk hkr hvv c 0 hR with ⟨g1, g2⟩ | ⟨j, u, g1, ⟨e, g2, g4⟩, g3⟩
 ·refine fin (es.push ⟨vi, vv, c⟩) (c + 1) (by simpa using g2) ?_
  simp [Instr.mapUpdate, run_underlying hu, MapKept.run_getObj_map hb, ahI hk hkr, an5 hk g1, MapKept.run_setObj_map _ hb, Result.andThen, World.putObj]
 ·rw [zp] at g1
  have g5 : es[j]? = some e := by simpa using g2
  refine fin (es.modify j fun e => { e with key := vi, val := vv }) c (by simpa using g3) ?_
  simp [Instr.mapUpdate, run_underlying hu, MapKept.run_getObj_map hb, ahI hk hkr, an5 hk g1, g5, g4, aIi hk hkr, MapKept.run_setObj_map _ hb, Result.andThen, World.putObj]
theorem arZ {ρ : Nat → Nat} {σ σ' : St} {a : Act} {w : World} {t : TypeId} {m i v : AV} {vm vi vv : Value} (h : (aIa P σ t m i v).Leaf σ') (hs : SRel C ρ σ a w) (hvm : VR C ρ σ.H w m vm) (hvi : VR C ρ σ.H w i vi) (hvv : VR C ρ σ.H w v vv) :
  ∃ w', (Instr.mapUpdate t vm vi vv).run P w = .ok () w' ∧ SRel C ρ σ' a w' ∧ Fr C σ.next ρ σ.H w ρ σ'.H w' ∧ σ'.next = σ.next := by
 unfold aIa at h
 split at h
 case h_2 => cases h
 rename_i kt et hu
 split at h
 case h_2 => cases h
 rename_i k hk
 split at h
 case h_2 => cases h
 rename_i K n hn
 have hkr := aoF hn hvi
 split at h
 case h_3 => cases h
 ·rename_i k'' l hf
  split at h
  case h_2 => cases h
  rename_i hc
  cases h
  have e2 := of_decide_eq_true hc
  subst e2
  cases hvm with
  | mp hkk =>
   obtain ⟨es, c, hb, hR⟩ := hs.m.mem _ _ (Heap.find_mem hf)
   exact aAf hs hu hk hf (fun _ _ _ h => by cases h) hb hR hkr hvv fun H' w' he es' c' hh hR' => ⟨es', c', hh, hR'.imp fun _ _ => he.vr⟩
 ·rename_i k'' u l hf
  split at h
  case h_2 => cases h
  rename_i x hc hx
  cases h
  have e2 := of_decide_eq_true hc
  subst e2
  cases hvm with
  | mp hkk =>
   obtain ⟨es, c, hb, hR⟩ := hs.m.mem _ _ (Heap.find_mem hf)
   exact aAf (v := .d u x) hs hu hk hf (fun _ _ _ h => by cases h) hb hR hkr (.d (ad5 hx hvv)) fun H' w' he es' c' hh hR' => ⟨es', c', hh, by rw [aDr hkr.1] at hR'; exact hR'.imp fun _ _ => he.vr⟩
def Reach (C : Ctx) (σ : St) (ρ : Nat → Nat) (w : World) (K : St → Prop) (a' : Act) (w' : World) : Prop :=
 ∃ ρ' σ', K σ' ∧ SRel C ρ' σ' a' w' ∧ Fr C σ.next ρ σ.H w ρ' σ'.H w' ∧ σ.next ≤ σ'.next
theorem Reach.trans {σ σ1 : St} {ρ ρ1 : Nat → Nat} {w w1 : World} {K : St → Prop} {a' : Act} {w' : World} (hf : Fr C σ.next ρ σ.H w ρ1 σ1.H w1) (hn : σ.next ≤ σ1.next) (h : Reach C σ1 ρ1 w1 K a' w') : Reach C σ ρ w K a' w' := by
 obtain ⟨ρ', σ', h1, h2, h3, h4⟩ := h
 exact ⟨ρ', σ', h1, h2, hf.trans hn h3, zt hn h4⟩
def CallEnd (C : Ctx) (ρ : Nat → Nat) (H : Heap) (next : Nat) (w : World) (K : AV → Heap → Nat → Prop) (e : Ending) (w' : World) : Prop :=
 ∃ ρ' r H' n', K r H' n' ∧ MRel C ρ' H' n' w' ∧ Fr C next ρ H w ρ' H' w' ∧ next ≤ n' ∧ ((∃ v, e = .returned v ∧ alK r = none ∧ VR C ρ' H' w' r v) ∨ ∃ x ch, r = aO1 x ∧ ajX x = some ch ∧ e = .panicked ch)
structure CallSat (P : Program) (G : World → Prop) (call : abN) : Prop where
 fn : ∀ f args H next K, call (.fn f) args H next K → ∀ (C : Ctx) (ρ : Nat → Nat) (w : World) (vs : List Value), G C.w0 → MRel C ρ H next w → VRs C ρ H w args vs →
  acM P f = true ∧ Calls P f ⟨vs⟩ w (CallEnd C ρ H next w K)
 yld : ∀ l args H next K, call (.yld l) args H next K → ∀ (C : Ctx) (ρ : Nat → Nat) (w : World) (vs : List Value), G C.w0 → MRel C ρ H next w → VRs C ρ H w args vs →
  ∃ fn tmps assign body, (Instr.yield (ρ l) ⟨vs⟩).run P w = .ok (.round (ρ l) fn tmps assign body) w ∧ RoundIn Fence.wide 0 P (ρ l) fn tmps assign body w (CallEnd C ρ H next w K)
theorem ayC {ρ : Nat → Nat} {H : Heap} {w : World} {x : AV} {v : Value} {ch : List PanicEntry} (h : ajX x = some ch) (hv : VR C ρ H w x v) : ch = [{ v := v, recovered := false }] ∧ ∃ k u, v = .iface k u := by
 unfold ajX at h
 split at h
 ·injection h with h
  subst h
  cases hv with
  | ifc hr =>
   obtain ⟨cs, ⟨c1, c2, e, ⟨e1, _⟩, e2⟩, hv⟩ := hr
   have e2 : c2 = [] := e2
   subst e1; subst e2
   simp only [yK] at e
   subst e
   have hv : _ = Value.agg _ := hv
   subst hv
   exact ⟨rfl, _, _, rfl⟩
 ·injection h with h
  subst h
  cases hv with
  | ifc hr =>
   obtain ⟨cs, ⟨e, _⟩, hv⟩ := hr
   have hv : cs = [_] := hv
   rw [e] at hv
   injection hv with hv
   subst hv
   exact ⟨rfl, _, _, rfl⟩
 ·cases h
theorem axB {ch : List PanicEntry} {x : AV} (h : afQ ch = some x) : ajX x = some ch := by
 unfold afQ at h
 split at h
 ·unfold ofValue at h
  split at h
  ·split at h
   ·injection h with h; subst h; rfl
   ·cases h
  ·split at h
   ·injection h with h; subst h; rfl
   ·cases h
  ·cases h
 ·cases h
theorem SRel.g {ρ : Nat → Nat} {σ : St} {a : Act} {w : World} (hG : acS G) (hC : G C.w0) (h : SRel C ρ σ a w) : G w := hG _ _ h.m.below hC
theorem hasKey_iff {H : Heap} {k : Nat} : abE H k = true ↔ k ∈ H.keys := by
 unfold abE
 constructor
 ·intro h
  split at h
  ·rename_i b hb; exact aaE (Heap.find_mem hb)
  ·cases h
 ·intro h
  split
  ·rfl
  ·rename_i hn
   exfalso
   induction H with
   | nil => simp [Heap.keys] at h
   | cons x r ih =>
    obtain ⟨j, b⟩ := x
    simp only [Heap.find] at hn
    cases hb : Nat.beq j k with
    | true => rw [hb] at hn; cases hn
    | false =>
     rw [hb] at hn
     rcases zq.1 h with e | h
     ·exact ab6 hb e.symm
     ·exact ih h hn
theorem St.thaw_sound {ρ : Nat → Nat} {σ : St} {a : Act} {w : World} (h : SRel C ρ σ a w) (k : Nat) : SRel C ρ (σ.thaw k) a w ∧ Fr C σ.next ρ σ.H w ρ (σ.thaw k).H w ∧ (σ.thaw k).next = σ.next := by
 unfold St.thaw
 split
 ·rename_i e t l hf
  obtain ⟨h1, h2, h3⟩ := h.m.thaw (Heap.find_mem hf)
  exact ⟨h.keepTo h1 h2 (h3 0).data (zj _), h3 _, rfl⟩
 ·exact ⟨h, Fr.refl _ _ _ _ _, rfl⟩
theorem St.thaws_sound {ρ : Nat → Nat} {a : Act} {w : World} : ∀ (ks : List Nat) {σ : St}, SRel C ρ σ a w → SRel C ρ (σ.thaws ks) a w ∧ Fr C σ.next ρ σ.H w ρ (σ.thaws ks).H w ∧ (σ.thaws ks).next = σ.next
 | [], σ, h => ⟨h, Fr.refl _ _ _ _ _, rfl⟩
 | k :: ks, σ, h => by
  obtain ⟨h1, h2, h3⟩ := St.thaw_sound h k
  obtain ⟨h4, h5, h6⟩ := St.thaws_sound ks h1
  refine ⟨h4, h2.trans (n' := (σ.thaw k).next) zb h5, by rw [St.thaws, h6, h3]⟩
theorem St.freed_sound {ρ : Nat → Nat} {σ : St} {a : Act} {w : World} (h : SRel C ρ σ a w) (x : AV) : SRel C ρ (σ.freed x) a w ∧ Fr C σ.next ρ σ.H w ρ (σ.freed x).H w ∧ (σ.freed x).next = σ.next := by
 unfold St.freed
 split
 ·exact ⟨h, Fr.refl _ _ _ _ _, rfl⟩
 ·exact St.thaws_sound _ h
theorem aH1 {g : FuncId} (h : aH2 P g = true) (x : Value) (w : World) : (callFunc g #[x]).run P w = .ok (.value x) w := by
 unfold aH2 at h
 split at h
 ·rename_i fn hf
  simp only [zl, xc, yO] at h
  obtain ⟨⟨hb, hn⟩, ho⟩ := h
  have e1 : Extern.findNext fn = none := by
   have h1 : Extern.allNextRows.lookup "internal/abi.NoEscape" = none := by kernel_rfl
   have h2 : Extern.allNextRows.lookup "" = none := by kernel_rfl
   unfold Extern.findNext
   rcases ho with ho | ho <;> simp [hn, ho, h1, h2]
  have e2 : Extern.find fn = some Extern.AbiNoEscape.same := by
   have h1 : Extern.allGenericRows.lookup "internal/abi.NoEscape" = none := by kernel_rfl
   have h2 : Extern.allTypedRows.lookup "internal/abi.NoEscape" = none := by kernel_rfl
   have h3 : Extern.allRows.lookup "internal/abi.NoEscape" = some Extern.AbiNoEscape.same := by kernel_rfl
   unfold Extern.find
   simp [hn, h1, h2, h3]
  rw [run_callFunc_extern hf (by rw [hn]; decide) hb e1 e2]
  rfl
 ·cases h
theorem SRel.frozen {ρ : Nat → Nat} {σ : St} {a : Act} {w w' : World} (hs : SRel C ρ σ a w) {k : Nat} {e : TypeId} {t : Ty} {l : List t.T} (hf : σ.H.find k = some (.row e t l)) {fr : Nat × Nat} {c : Array Value} (hc : w.heap[ρ k]? = some (.cells c e (0, 0))) (hc' : w'.heap[ρ k]? = some (.cells c e fr))
  (hoth : ∀ j, j ≠ ρ k → w'.heap[j]? = w.heap[j]?) (hsz : w'.heap.size = w.heap.size) (hbel : Below C.w0.heap.size C.w0 w') : SRel C ρ (σ.thaw k) a w' ∧ Fr C σ.next ρ σ.H w ρ (σ.thaw k).H w' ∧ (σ.thaw k).next = σ.next := by
 have hk := Heap.find_mem hf
 have hkk := aaE hk
 have hm := hs.m
 have eT : σ.thaw k = { σ with slots := aa1 (neK k) (adY t l) σ.slots, H := σ.H.keep (neK k) (adY t l) } := by unfold St.thaw; rw [hf]
 rw [eT]
 have hd : ∀ b, Ok C ρ σ.H w b → Ok C ρ (σ.H.keep (neK k) (adY t l)) w' b ∧ w'.heap[b]? = w.heap[b]? := fun b hb =>
  ⟨⟨hb.1, by rw [hsz]; exact hb.2.1, fun j hj => hb.2.2 j (Heap.keys_keep.1 hj).2⟩, hoth b (fun e => hb.2.2 k hkk e.symm)⟩
 have hokk : Ok C ρ (σ.H.keep (neK k) (adY t l)) w' (ρ k) :=
  ⟨Or.inr (hm.low k hkk), by rw [hsz]; exact hm.key_lt hkk, fun j hj e => by
   obtain ⟨h1, h2⟩ := Heap.keys_keep.1 hj
   exact agL h1 (hm.inj j h2 k hkk e)⟩
 have hblk : ∀ j ∈ σ.H.keys, neK k j = true → w'.heap[ρ j]? = w.heap[ρ j]? := fun j hj hp => hoth _ (fun e => agL hp (hm.inj j hj k hkk e))
 have hrows : ∀ j e' t' l', (j, Bk.row e' t' l') ∈ σ.H → neK k j = true → (j, Bk.row e' t' l') ∈ σ.H.keep (neK k) (adY t l) :=
  fun j e' t' l' hj hp => Heap.mem_keep.2 ⟨hp, _, hj, rfl⟩
 have hrow' : ∀ j e' t' l', (j, Bk.row e' t' l') ∈ σ.H → neK k j = true → ∃ l'', (j, Bk.row e' t' l'') ∈ σ.H.keep (neK k) (adY t l) ∧ l'.length ≤ l''.length ∧
   ∀ c fr, w.heap[ρ j]? = some (.cells c e' fr) → ∃ c' fr', w'.heap[ρ j]? = some (.cells c' e' fr') ∧ c.size = c'.size :=
  fun j e' t' l' hj hp => ⟨l', hrows j e' t' l' hj hp, zj _, fun c fr h => ⟨c, fr, by rw [hblk j (aaE hj) hp]; exact h, rfl⟩⟩
 have hv : ∀ x v, VR C ρ σ.H w x v → VR C ρ (σ.H.keep (neK k) (adY t l)) w' (x.map (neK k) (adY t l)) v := by
  intro x v hx
  refine VR.map hd (fun j hj hp => ⟨Heap.keys_keep.2 ⟨hp, hj⟩, rfl⟩) hrow' ?_ hx
  intro j off len v hp hov
  have := aAd hp
  subst this
  cases hov with
  | own h hl hcp hmx hb hs' ha =>
   have hu := Heap.mem_unique hm.nodup hk h
   injection hu with hu1 hu2 hu3
   subst hu1; subst hu2
   have hu3 := eq_of_heq hu3
   subst hu3
   obtain ⟨c1, h1, h2, h3, h4, h5⟩ := hm.ownCells hk hl
   rw [hc] at h1
   injection h1 with h1
   injection h1 with h1 _ _
   subst h1
   refine .d ⟨_, ⟨_, _, by rw [h3], by rw [h3]; exact hcp, by rw [h3]; exact h4, ?_⟩, rfl⟩
   by_cases hnil : (l.drop off).take len = []
   ·exact Or.inl hnil
   ·have hpos : 0 < len := by
     rw [← h3]; exact zN.2 hnil
    have ha' := ha.resolve_right (fun h => by omega)
    exact Or.inr ⟨ρ j, off * t.size, c, e, fr, ha', hokk, hc', h2, RdL.mono (fun x cs => Rd.mono hd t x cs) _ _ h5⟩
 have hm' : MRel C ρ (σ.H.keep (neK k) (adY t l)) σ.next w' := by
  refine ⟨hbel, Heap.nodup_keep hm.nodup, fun j hj => hm.lt j (Heap.keys_keep.1 hj).2, fun j hj j' hj' => hm.inj j (Heap.keys_keep.1 hj).2 j' (Heap.keys_keep.1 hj').2,
   fun j hj => hm.low j (Heap.keys_keep.1 hj).2, fun j b hj => ?_⟩
  obtain ⟨hp, b', hb', e'⟩ := Heap.mem_keep.1 hj
  subst e'
  exact (hm.mem j b' hb').map hd hv (hblk j (aaE hb') hp)
 refine ⟨hs.keepTo hm' hv hd (by rw [hsz]; exact zj _), ⟨hd, fun j _ hj => ⟨(Heap.keys_keep.1 hj).2, rfl⟩, fun j e' t' l' _ hj hj' => hrow' j e' t' l' hj (Heap.keys_keep.1 hj').1, by rw [hsz]; exact zj _⟩, rfl⟩
theorem azB {ok : Nat → Prop} {w : World} : ∀ (l : List Int) (cs : List Value), RdL (Rd ok w (.int .u8)) l cs → ∀ x ∈ l, 0 ≤ x ∧ x ≤ 255
 | [], _, _, x, hx => by cases hx
 | y :: l, cs, ⟨c1, c2, _, ⟨_, h1, h2⟩, h3⟩, x, hx => by
  rcases zq.1 hx with rfl | hx
  ·exact ⟨h1, h2⟩
  ·exact azB l c2 h3 x hx
theorem aCD (w : World) (p : Addr) (n : Nat) : (w.freeze p n).heap.size = w.heap.size := by
 unfold World.freeze
 split <;> simp
theorem aAw {w : World} {b j : Nat} (h : j ≠ b) (n : Nat) : (w.freeze ⟨b, 0, none⟩ n).heap[j]? = w.heap[j]? := by
 unfold World.freeze
 split
 ·rfl
 ·simp [Array.getElem?_modify, Ne.symm h]
theorem aCE {w : World} {b : Nat} {c : Array Value} {e : TypeId} {fr : Nat × Nat} (h : w.heap[b]? = some (.cells c e fr)) (n : Nat) : ∃ fr', (w.freeze ⟨b, 0, none⟩ n).heap[b]? = some (.cells c e fr') := by
 unfold World.freeze
 split
 ·exact ⟨fr, h⟩
 ·simp [Array.getElem?_modify, h]
theorem aGc {ρ : Nat → Nat} {σ : St} {a : Act} {w : World} {dst : Option Nat} {pt it ty e : TypeId} {k : Nat} {l : List Int} {m : Int} {c : Array Value} (hs : SRel C ρ σ a w) (hf : σ.H.find k = some (.row e (.int .u8) l)) (hc : w.heap[ρ k]? = some (.cells c e (0, 0)))
  (hlc : l.length * 1 ≤ c.size) (hr : RdL (Rd (Ok C ρ σ.H w) w (.int .u8)) l (c.toList.take (l.length * 1))) (hu : P.underlying pt = some (.pointer e)) (hcl : P.cellsOf e = 1) (h1 : 1 ≤ m) (h2 : m ≤ (l.length : Int)) :
  ∃ v w', (Builtin.unsafeString_ #[pt, it] ty #[.pointer (some ⟨ρ k, 0, none⟩), .int .i64 m]).run P w = .ok v w' ∧ SRel C ρ ((σ.thaw k).put dst (.d .str (akQ (l.take m.toNat)))) (a.put dst v) w' ∧
   Fr C σ.next ρ σ.H w ρ ((σ.thaw k).put dst (.d .str (akQ (l.take m.toNat)))).H w' ∧ ((σ.thaw k).put dst (.d .str (akQ (l.take m.toNat)))).next = σ.next := by
 obtain ⟨n, rfl⟩ : ∃ n : Nat, m = (n : Int) := ⟨m.toNat, by omega⟩
 have hn : n ≤ l.length := zb
 have hcs := aGz _ _ hr
 rw [Nat.mul_one] at hcs hlc
 have hrng := azB _ _ hr
 have hlim : l.length ≤ lim := by
  obtain ⟨_, _, _, h3, _, _⟩ := hs.m.mem k _ (Heap.find_mem hf)
  exact h3
 have hsl : (akQ (l.take n)).length = n := by simp [akQ]; omega
 have hcells : ∀ j x, (akQ (l.take n))[j]? = some x → w.cell? ((⟨ρ k, 0, none⟩ : Addr).add j) = some (.int .u8 (x.toNat : Int)) := by
  intro j x hj
  have hjn : j < n := by have := (zw.1 hj).1; omega
  have hjl : j < l.length := zb
  unfold akQ at hj
  rw [List.getElem?_map, zR, if_pos hjn, zx hjl] at hj
  injection hj with hj
  subst hj
  have hcj : c[j]? = some (.int .u8 l[j]) := by
   have : (c.toList.take l.length)[j]? = some (.int .u8 l[j]) := by rw [hcs]; simp [hjl]
   rw [zR, if_pos hjl, zU] at this
   exact this
  have hrj := hrng l[j] (yC hjl)
  have hto : ((UInt8.ofNat (l[j]).toNat).toNat : Int) = l[j] := by
   rw [UInt8.toNat_ofNat']
   have : (l[j]).toNat < 256 := zb
   rw [yo (by simpa using this)]
   omega
  rw [af5, zp, hto]
  simp [World.cell?, hc, hcj]
 have hsh : w.shape? (ρ k) = some (e, c.size) := by simp [World.shape?, hc]
 have hrun := Lib.run_unsafeString_row (P := P) w pt it ty e hu hcl (ρ k) c.size hsh (akQ (l.take n)) (by intro e0; rw [e0] at hsl; simp at hsl; omega) zb (by rw [hsl]; unfold lim at hlim; omega) hcells
 rw [hsl] at hrun
 obtain ⟨fr, hfr⟩ : ∃ fr, (w.freeze ⟨ρ k, 0, none⟩ n).heap[ρ k]? = some (.cells c e fr) := aCE hc n
 have hoth : ∀ j, j ≠ ρ k → (w.freeze ⟨ρ k, 0, none⟩ n).heap[j]? = w.heap[j]? := fun j hj => aAw hj n
 obtain ⟨g1, g2, g3⟩ := hs.frozen (t := .int .u8) (l := l) hf hc hfr hoth (aCD _ _ _) (Lib.below_freeze hs.m.below (by show C.w0.heap.size ≤ ρ k; exact hs.m.low k (aaE (Heap.find_mem hf))) n)
 exact ⟨_, _, hrun, g1.put (auO (by rw [zn]; rw [hsl]; omega)), by rw [St.put_H]; exact g2, by rw [St.put_next]; exact g3⟩
theorem awL {ρ : Nat → Nat} {σ σ' : St} {a : Act} {w : World} {dst : Option Nat} {pt it ty : TypeId} {p : AV} {m : Int} {vp : Value} (h : (anG P σ dst pt p m).Leaf σ') (hs : SRel C ρ σ a w) (hvp : VR C ρ σ.H w p vp) :
  ∃ v w', (Builtin.unsafeString_ #[pt, it] ty #[vp, .int .i64 m]).run P w = .ok v w' ∧ SRel C ρ σ' (a.put dst v) w' ∧ Fr C σ.next ρ σ.H w ρ σ'.H w' ∧ σ'.next = σ.next := by
 unfold anG at h
 split at h
 ·rename_i k
  split at h
  ·rename_i e l hf
   split at h
   ·rename_i e' hu
    split at h
    ·rename_i hb
     simp only [zl] at hb
     have he := aaD hb.1
     subst he
     have hcl := aaD hb.2
     cases h with
     | need hp h =>
      cases h
      cases hvp with
      | eptr hk hi =>
       obtain ⟨c, d1, d2, d3, d4, d5⟩ := hs.m.mem k _ (Heap.find_mem hf)
       rw [xV]
       exact aGc hs hf d1 d2 d4 hu hcl hp.1 hp.2
    ·cases h
   ·cases h
  ·cases h
 ·cases h with
  | need hp h =>
   cases h
   cases hvp
   refine ⟨_, w, by rw [hp]; exact Lib.run_unsafeString_none w pt it ty none, hs.put (auO (ya _)), by rw [St.put_H]; exact Fr.refl _ _ _ _ _, by rw [St.put_next]⟩
 ·cases h
theorem aqN {ρ : Nat → Nat} {σ σ' : St} {a : Act} {w : World} {dst : Option Nat} {pt it ty : TypeId} {p n : AV} {vp vn : Value} (h : (aqO P σ dst pt p n).Leaf σ') (hs : SRel C ρ σ a w) (hvp : VR C ρ σ.H w p vp) (hvn : VR C ρ σ.H w n vn) :
  ∃ v w', (Builtin.unsafeString_ #[pt, it] ty #[vp, vn]).run P w = .ok v w' ∧ SRel C ρ σ' (a.put dst v) w' ∧ Fr C σ.next ρ σ.H w ρ σ'.H w' ∧ σ'.next = σ.next := by
 unfold aqO at h
 split at h
 ·rename_i m
  obtain ⟨e1, _⟩ := abD hvn
  subst e1
  exact awL h hs hvp
 ·cases h
theorem amV {Γ : Cons} {K : Nat} {H : Heap} {arg : Operand → AV} {o : Oper} {r : AV} {new : List (Nat × Bk)} (h : (evM P Γ K H arg o).Leaf (r, new)) : ∀ x ∈ new, x.1 = K := by
 unfold evM at h
 split at h
 ·obtain ⟨_, _, h⟩ := T.Leaf.bind h; cases h; intro x hx; cases hx
 ·split at h <;> cases h; intro x hx; simp at hx; subst hx; rfl
 ·split at h <;> cases h; intro x hx; simp at hx; subst hx; rfl
 ·split at h <;> first | (cases h; done) | skip
  split at h <;> first | (cases h; done) | skip
  split at h <;> first | (cases h; done) | skip
  split at h <;> first | (cases h; done) | skip
  split at h <;> first | (cases h; done) | skip
  split at h
  ·cases h; intro x hx; cases hx
  cases h
  intro x hx; simp at hx; subst hx; rfl
 ·split at h
  ·unfold al8 at h
   split at h <;> first | (cases h; done) | skip
   split at h <;> first | (cases h; done) | skip
   cases h; intro x hx; cases hx
  ·obtain ⟨_, _, h⟩ := T.Leaf.bind h; cases h; intro x hx; cases hx
 ·split at h <;> first | (cases h; done) | skip
  split at h <;> cases h
  intro x hx; simp at hx; subst hx; rfl
 ·split at h <;> first | (cases h; done) | skip
  split at h <;> first | (cases h; done) | skip
  unfold aIe at h
  split at h <;> first | (cases h; done) | skip
  split at h <;> first | (cases h; done) | skip
  ·unfold aId at h
   split at h <;> first | (cases h; done) | skip
   split at h <;> first | (cases h; done) | skip
   cases h with
   | need _ h =>
    cases h
    intro x hx; simp at hx; subst hx; rfl
  split at h <;> first | (cases h; done) | skip
  split at h <;> first | (cases h; done) | skip
  cases h with
  | need _ h =>
   cases h
   intro x hx; simp at hx; subst hx; rfl
 ·split at h <;> first | (cases h; done) | skip
  split at h <;> first | (cases h; done) | skip
  split at h <;> first | (cases h; done) | skip
  split at h <;> first | (cases h; done) | skip
  cases h with
  | need _ h =>
   intro x hx
   rw [show new = [] from avZ h] at hx
   cases hx
 ·unfold ayK at h
  split at h <;> first | (cases h; done) | skip
  split at h <;> first | (cases h; done) | skip
  split at h <;> first | (cases h; done) | skip
  split at h <;> first | (cases h; done) | skip
  split at h <;> first | (cases h; done) | skip
  split at h <;> first | (cases h; done) | skip
  split at h <;> first | (cases h; done) | skip
  unfold ajZ at h
  cases h with
  | need _ h => cases h; intro x hx; cases hx
 ·obtain ⟨_, _, h⟩ := T.Leaf.bind h; cases h; intro x hx; cases hx
theorem ahL (hG : acS G) (hC : G C.w0) {Γ : Cons} (hΓ : Γ.ok P G) {ρ : Nat → Nat} {σ : St} {a : Act} {w : World} {o : Oper} {K : St → Prop} {nx : Act → World → Prop} {Q : Exit → Act → World → Prop}
  (hs : SRel C ρ σ a w) (h : (evM P Γ σ.next σ.H σ.eval o).holds fun x => K (σ.grow o.dst x.1 x.2)) (hnx : ∀ a' w', Reach C σ ρ w K a' w' → nx a' w') : o.wp P a w nx Q := by
 obtain ⟨⟨r, new⟩, h1, h2⟩ := T.leaf h
 have hK : σ.next ∉ σ.H.keys := fun h => absurd (hs.m.lt _ h) (xp _)
 refine aNv (fun _ h => h) (hs.m.mono (yR σ.next)) hK (yp _) hΓ (hs.g hG hC) (fun x => hs.eval x) h1 (fun v ρ' w' hm' hext hv hb => hnx _ _ ?_)
 have hkeys : ∀ k, k < σ.next → k ∈ Heap.keys (new ++ σ.H) → k ∈ σ.H.keys := by
  intro k hk hm
  simp only [Heap.keys, xB, zE] at hm
  rcases hm with hm | hm
  ·exfalso
   have hnew := amV h1
   obtain ⟨x, hx, e⟩ := zH.1 hm
   have := hnew x hx
   omega
  ·exact hm
 have hfr := hext.fr (n := σ.next) hkeys
 have hsr := (hs.frame (next' := σ.next + 1) hm' hfr (fun k hk => (hext.keys k hk).1)).put (dst := o.dst) hv
 exact ⟨ρ', σ.grow o.dst r new, h2, hsr, by unfold St.grow; rw [St.put_H]; exact hfr, by unfold St.grow; rw [St.put_next]; exact yR _⟩
end
open Go Go.RowKit
section
variable {C : Ctx} {P : Program} {G : World → Prop}
theorem aIR {Γ : Cons} {K : Nat} {H : Heap} {arg : Operand → AV} {o : Oper} {x : AV × List (Nat × Bk)} (h : (evM P Γ K H arg o).Leaf x) : ∀ c, o.op ≠ .defer c := by
 intro c e
 simp only [evM, evP, e] at h
 obtain ⟨_, h1, _⟩ := T.Leaf.bind h
 cases h1
theorem aGX {Γ : Cons} {call : abN} {o : Oper} {σ : St} {K : Fi → Prop} (h : opS P Γ call o σ K) : ∀ c, o.op ≠ .defer c := by
 intro c e
 simp only [opS, evM, evP, e] at h
 exact h
theorem ajI (hG : acS G) (hC : G C.w0) {Γ : Cons} (hΓ : Γ.ok P G) {call : abN} (hcall : CallSat P G call) {ρ : Nat → Nat} {σ : St} {a : Act} {w : World} {o : Oper} {K : Fi → Prop} {nx : Act → World → Prop} {Q : Exit → Act → World → Prop}
  (hs : SRel C ρ σ a w) (h : opS P Γ call o σ K) (hnx : ∀ a' w', Reach C σ ρ w (fun σ' => K (.go σ')) a' w' → nx a' w') (hP : ∀ ch a' w', Reach C σ ρ w (fun σ' => K (.pan ch σ')) a' w' → Q (.panic ch) a' w') (rnd : Option Nat) : o.wpIn (aaW rnd) 0 P a w nx Q := by
 have hnd := aGX h
 unfold opS at h
 split at h
 ·rename_i t x y ho
  obtain ⟨σ', h1, h2⟩ := T.leaf h
  unfold aBF at h1
  have fin : ∀ (σ1 : St), SRel C ρ σ1 a w → Fr C σ.next ρ σ.H w ρ σ1.H w → σ1.next = σ.next → (aqR P σ1 t (σ1.eval x) (σ1.eval y)).Leaf σ' → o.wpIn (aaW rnd) 0 P a w nx Q := by
   intro σ1 hs1 hf1 hn1 h1
   obtain ⟨w', h3, h4, h5, h6⟩ := awP h1 hs1 (hs1.eval x) (hs1.eval y)
   refine aaS hnd ?_
   unfold Oper.wp
   rw [show (execOp a.eval o).run P w = .ok .skip w' by simp [execOp, ho, h3]]
   exact hnx _ _ ⟨ρ, _, h2, h4.put .und, by rw [St.put_H]; exact hf1.trans (by rw [hn1]; exact zj _) h5, by rw [St.put_next, h6, hn1]; exact zj _⟩
  split at h1
  ·obtain ⟨g1, g2, g3⟩ := St.freed_sound hs (σ.eval y)
   exact fin _ g1 g2 g3 h1
  ·exact fin σ hs (Fr.refl _ _ _ _ _) rfl h1
 ·rename_i t n ps ho
  obtain ⟨h1, h2, h3⟩ := St.freed_sound hs (.ag (ps.toList.map fun x => σ.eval x.2))
  exact aaS hnd <| ahL (K := fun σ' => K (.go σ')) hG hC hΓ h1 h (fun a' w' hr => hnx a' w' (hr.trans h2 (by rw [h3]; exact zj _)))
 ·rename_i bt args ts ho
  split at h
  ·rename_i r hr
   obtain ⟨σ', h1, h2⟩ := T.leaf h
   unfold atB at hr
   split at hr
   ·split at hr
    ·rename_i s x t u hargs hts
     have e1 : args.map a.eval = #[a.eval s, a.eval x] := by apply Array.ext'; simp [hargs]
     have e2 : ts = #[t, u] := by apply Array.ext'; simp [hts]
     split at hr
     ·rename_i hb
      have hb := aaD hb
      subst hb
      injection hr with hr
      subst hr
      obtain ⟨v, w', ρ', h3, h4, h5, h6⟩ := auH (ty := o.type) h1 hs (hs.eval s) (hs.eval x).soft
      refine aaS hnd ?_
      unfold Oper.wp
      rw [show (execOp a.eval o).run P w = .ok (.value v) w' by subst e2; simp [execOp, ho, resolve, invoke, builtin, e1, h3]]
      exact hnx _ _ ⟨ρ', _, h2, h4, h5, h6⟩
     ·have key : ∀ v w' ρ', (Builtin.append_ #[t, u] o.type #[a.eval s, a.eval x]).run P w = .ok v w' → SRel C ρ' σ' (a.put o.dst v) w' → Fr C σ.next ρ σ.H w ρ' σ'.H w' → σ.next ≤ σ'.next → o.wpIn (aaW rnd) 0 P a w nx Q := by
       intro v w' ρ' h3 h4 h5 h6
       refine aaS hnd ?_
       unfold Oper.wp
       rw [show (execOp a.eval o).run P w = .ok (.value v) w' by subst e2; simp [execOp, ho, resolve, invoke, builtin, e1, h3]]
       exact hnx _ _ ⟨ρ', _, h2, h4, h5, h6⟩
      split at hr
      ·injection hr with hr
       subst hr
       obtain ⟨v, w', ρ', h3, h4, h5, h6⟩ := ayF (ty := o.type) h1 hs (hs.eval s) (hs.eval x)
       exact key v w' ρ' h3 h4 h5 h6
      injection hr with hr
      subst hr
      obtain ⟨v, w', ρ', h3, h4, h5, h6⟩ := atJ (ty := o.type) h1 hs (hs.eval s) (hs.eval x)
      exact key v w' ρ' h3 h4 h5 h6
    ·injection hr with hr; subst hr; cases h1
   ·split at hr
    ·rename_i d x t u hargs hts
     have e1 : args.map a.eval = #[a.eval d, a.eval x] := by apply Array.ext'; simp [hargs]
     have e2 : ts = #[t, u] := by apply Array.ext'; simp [hts]
     split at hr
     ·injection hr with hr
      subst hr
      obtain ⟨v, w', h3, h4, h5, h6⟩ := aA1 (t2 := u) (ty := o.type) h1 hs (hs.eval d).soft (hs.eval x).soft
      refine aaS hnd ?_
      unfold Oper.wp
      rw [show (execOp a.eval o).run P w = .ok (.value v) w' by subst e2; simp [execOp, ho, resolve, invoke, builtin, e1, h3]]
      exact hnx _ _ ⟨ρ, _, h2, h4, h5, by rw [h6]; exact zj _⟩
     ·injection hr with hr; subst hr; cases h1
    ·injection hr with hr; subst hr; cases h1
   ·split at hr
    ·rename_i p n pt it hargs hts
     have e1 : args.map a.eval = #[a.eval p, a.eval n] := by apply Array.ext'; simp [hargs]
     have e2 : ts = #[pt, it] := by apply Array.ext'; simp [hts]
     injection hr with hr
     subst hr
     obtain ⟨v, w', h3, h4, h5, h6⟩ := aqN (it := it) (ty := o.type) h1 hs (hs.eval p) (hs.eval n)
     refine aaS hnd ?_
     unfold Oper.wp
     rw [show (execOp a.eval o).run P w = .ok (.value v) w' by subst e2; simp [execOp, ho, resolve, invoke, builtin, e1, h3]]
     exact hnx _ _ ⟨ρ, _, h2, h4, h5, by rw [h6]; exact zj _⟩
    ·injection hr with hr; subst hr; cases h1
   ·cases hr
  ·exact aaS hnd <| ahL (K := fun σ' => K (.go σ')) hG hC hΓ hs h hnx
 ·rename_i f args ts ho
  split at h
  ·rename_i g first caps hf
   split at h
   ·rename_i c hc
    split at h
    ·obtain ⟨h1, h2, h3⟩ := St.thaws_sound (ab4 (args.toList.map σ.eval)) hs
     rw [← h3] at h
     exact aaS hnd <| ahL (K := fun σ' => K (.go σ')) hG hC hΓ h1 h (fun a' w' hr => hnx a' w' (hr.trans h2 (by rw [h3]; exact zj _)))
    ·exact aaS hnd <| ahL (K := fun σ' => K (.go σ')) hG hC hΓ hs h hnx
   ·split at h
    ·rename_i hne
     split at h
     ·rename_i x hargs
      have hfv := hs.eval f
      rw [hf] at hfv
      generalize hvf : a.eval f = vf at hfv
      cases hfv with
      | fn h1 h2 =>
       cases h1
       cases h2
       refine aaS hnd ?_
       unfold Oper.wp
       have e1 : args.map a.eval = #[a.eval x] := by apply Array.ext'; simp [hargs]
       rw [show (execOp a.eval o).run P w = .ok (.value (a.eval x)) w by
        simp only [execOp, ho, resolve, Deferred.ofValue, hvf, Sem.run_bind, Sem.run_pure, Result.andThen_ok, invoke]
        rw [e1]
        exact aH1 hne _ w]
       exact hnx _ _ ⟨ρ, _, h, hs.put (hs.eval x), by rw [St.put_H]; exact Fr.refl _ _ _ _ _, by rw [St.put_next]; exact zj _⟩
     ·exact h.elim
    ·have hfv := hs.eval f
     rw [hf] at hfv
     generalize hvf : a.eval f = vf at hfv
     cases hfv with
     | fn h1 h2 =>
      obtain ⟨he, hcl⟩ := hcall.fn _ _ _ _ _ h C ρ w _ hC hs.m ((h1.append (VRs.ofMap (fun x => hs.eval x) args.toList)).append h2)
      refine aaS hnd ?_
      unfold Oper.wp
      rw [aEe ho hvf he]
      show Calls P g _ w _
      refine hcl.mono ?_
      rintro e w' ⟨ρ', r, H', n', hK, hm', hfr, hn, hend⟩
      have hmap : ∀ x v, VR C ρ σ.H w x v → VR C ρ' H' w' (x.map (abE H') aeG) v := by
       intro x v hx
       refine VR.map hfr.data (fun k hk hp => ⟨hasKey_iff.1 hp, (hfr.keys k (hs.m.lt k hk) (hasKey_iff.1 hp)).2⟩) (fun k e t l hk hp => ?_) (fun _ _ _ _ _ _ => .no) hx
       exact hfr.rows k e t l (hs.m.lt k (aaE hk)) hk (hasKey_iff.1 hp)
      rcases hend with ⟨v, rfl, hp, hv⟩ | ⟨x, ch, rfl, hc, rfl⟩
      ·simp only [ak4, hp] at hK
       exact hnx _ _ ⟨ρ', _, hK, (hs.keepTo hm' hmap hfr.data hfr.size).put hv, by rw [St.put_H]; exact hfr, by rw [St.put_next]; exact hn⟩
      ·simp only [ak4, alK, aO1, hc] at hK
       exact hP ch _ _ ⟨ρ', _, hK, hs.keepTo hm' hmap hfr.data hfr.size, hfr, hn⟩
  ·rename_i l hf
   have hfv := hs.eval f
   rw [hf] at hfv
   generalize hvf : a.eval f = vf at hfv
   cases hfv with
   | yld hl =>
    obtain ⟨fn, tmps, assign, body, hy, hr⟩ := hcall.yld _ _ _ _ _ h C ρ w _ hC hs.m (VRs.ofMap (fun x => hs.eval x) args.toList)
    refine ⟨fun _ _ => trivial, ?_⟩
    rw [Oper.semAt_eq _ _ _ hnd]
    rw [show (execOp a.eval o).run P w = .ok (.round (ρ l) fn tmps assign body) w by
     simp only [execOp, ho, resolve, Deferred.ofValue, hvf, Sem.run_bind, Sem.run_pure, Result.andThen_ok, invoke]
     have e1 : #[] ++ args.map a.eval ++ #[] = ⟨args.toList.map a.eval⟩ := by apply Array.ext'; simp
     simp only [Array.empty_append, Array.append_empty] at e1 ⊢
     rw [e1]; exact hy]
    refine ⟨fun h => (by cases h), ?_⟩
    refine RoundIn.mono hr ?_
    rintro e w' ⟨ρ', r, H', n', hK, hm', hfr, hn, hend⟩
    have hmap : ∀ x v, VR C ρ σ.H w x v → VR C ρ' H' w' (x.map (abE H') aeG) v := by
     intro x v hx
     refine VR.map hfr.data (fun k hk hp => ⟨hasKey_iff.1 hp, (hfr.keys k (hs.m.lt k hk) (hasKey_iff.1 hp)).2⟩) (fun k e t l hk hp => ?_) (fun _ _ _ _ _ _ => .no) hx
     exact hfr.rows k e t l (hs.m.lt k (aaE hk)) hk (hasKey_iff.1 hp)
    rcases hend with ⟨v, rfl, hp, hv⟩ | ⟨x, ch, rfl, hc, rfl⟩
    ·simp only [ak4, hp] at hK
     exact hnx _ _ ⟨ρ', _, hK, (hs.keepTo hm' hmap hfr.data hfr.size).put hv, by rw [St.put_H]; exact hfr, by rw [St.put_next]; exact hn⟩
    ·simp only [ak4, alK, aO1, hc] at hK
     exact hP ch _ _ ⟨ρ', _, hK, hs.keepTo hm' hmap hfr.data hfr.size, hfr, hn⟩
  ·exact h.elim
 ·rename_i x ho
  split at h
  ·rename_i ch hch
   obtain ⟨e1, k, u, e2⟩ := ayC hch (hs.eval x)
   refine aaS hnd ?_
   unfold Oper.wp
   rw [show (execOp a.eval o).run P w = .halt (.panic (a.eval x)) w by simp [execOp, ho, Instr.panic, e2, goPanic]]
   have := hP ch a w ⟨ρ, σ, h, hs, Fr.refl _ _ _ _ _, zj _⟩
   rw [e1] at this
   exact this
  ·exact h.elim
 ·rename_i t y lo hi mx ho
  obtain ⟨h1, h2, h3⟩ := St.freed_sound hs (σ.eval y)
  exact aaS hnd <| ahL (K := fun σ' => K (.go σ')) hG hC hΓ h1 h (fun a' w' hr => hnx a' w' (hr.trans h2 (by rw [h3]; exact zj _)))
 ·rename_i t m i x ho
  obtain ⟨σ', h1, h2⟩ := T.leaf h
  obtain ⟨w', h3, h4, h5, h6⟩ := arZ h1 hs (hs.eval m) (hs.eval i) (hs.eval x)
  refine aaS hnd ?_
  unfold Oper.wp
  rw [show (execOp a.eval o).run P w = .ok .skip w' by simp [execOp, ho, h3]]
  exact hnx _ _ ⟨ρ, _, h2, h4.put .und, by rw [St.put_H]; exact h5, by rw [St.put_next, h6]; exact zj _⟩
 ·rename_i t m i x ho
  obtain ⟨σ', h1, h2⟩ := T.leaf h
  obtain ⟨w', h3, h4, h5, h6⟩ := arZ h1 hs (hs.eval m) (hs.eval i) (hs.eval x)
  refine aaS hnd ?_
  unfold Oper.wp
  rw [show (execOp a.eval o).run P w = .ok .skip w' by simp [execOp, ho, h3]]
  exact hnx _ _ ⟨ρ, _, h2, h4.put .und, by rw [St.put_H]; exact h5, by rw [St.put_next, h6]; exact zj _⟩
 ·exact aaS hnd <| ahL (K := fun σ' => K (.go σ')) hG hC hΓ hs h hnx
theorem aKd {ρ : Nat → Nat} {σ : St} {a : Act} {w : World} (hs : SRel C ρ σ a w) {t : Nat} {b : Bool} (h : acT σ.slots t = .d .bool b) : a.tmps[t]? = some (.bool b) := by
 have := hs.slots t
 rw [h] at this
 have e := adX this
 rw [zo] at e
 cases hg : a.tmps[t]? with
 | none => rw [hg] at e; cases e
 | some v => rw [hg] at e; simp at e; rw [e]
theorem aoR {ρ : Nat → Nat} {σ : St} {a : Act} {w : World} (hs : SRel C ρ σ a w) {ops : Array Oper} {j t : Nat} (ht : abB ops j = some t) {b : Bool} (h : acT σ.slots t = .d .bool b) : yielded ops a.tmps j = some b := by
 unfold yielded
 unfold abB at ht
 rw [ht]
 simp [aKd hs h]
theorem aBy {ρ : Nat → Nat} {σ : St} {a : Act} {w : World} (hs : SRel C ρ σ a w) {ops : Array Oper} {j t : Nat} (ht : abB ops j = some t) (h : acT σ.slots t = .und) : yielded ops a.tmps j = none := by
 unfold yielded
 unfold abB at ht
 rw [ht]
 have := hs.slots t
 rw [h] at this
 have e : a.tmps.getD t undef = undef := by generalize a.tmps.getD t undef = v at this; cases this; rfl
 rw [zo] at e
 simp only [wi]
 cases hg : a.tmps[t]? with
 | none => rfl
 | some v => rw [hg] at e; simp at e; rw [e]; rfl
theorem SRel.refine {ρ : Nat → Nat} {σ : St} {a : Act} {w : World} (hs : SRel C ρ σ a w) {t : Nat} {x : AV} (h : acT σ.slots t = x) : SRel C ρ (σ.put (some t) x) a w := by
 refine ⟨by rw [St.put_H, St.put_next]; exact hs.m, fun u => ?_, ?_, by rw [St.put_H]; exact hs.defers⟩
 ·rw [St.put_H]
  simp only [St.put]
  split
  ·simp only [acT]
   cases hu : Nat.beq t u with
   | true => have := aaD hu; subst this; simp only; rw [← h]; exact hs.slots t
   | false => simp only; rw [alH (ab6 hu)]; exact hs.slots u
  ·exact hs.slots u
 ·simp only [St.put]; split <;> exact hs.size
theorem ajU (hG : acS G) (hC : G C.w0) {Γ : Cons} (hΓ : Γ.ok P G) {call : abN} (hcall : CallSat P G call) {ops : Array Oper} {Q : Exit → Act → World → Prop} {K : Fi → Prop} {o : Oper} {rest : List Oper}
  {ρ : Nat → Nat} {σ : St} {a : Act} {w : World} {nx : Act → World → Prop} (hs : SRel C ρ σ a w) (h : aa3 P Γ call ops (o :: rest) σ K)
  (hnx : ∀ a' w', Reach C σ ρ w (fun σ' => aa3 P Γ call ops rest σ' K) a' w' → nx a' w') (hP : ∀ ch a' w', Reach C σ ρ w (fun σ' => K (.pan ch σ')) a' w' → Q (.panic ch) a' w') (rnd : Option Nat) :
  if Region.wanted o (yielded ops a.tmps) then o.wpIn (aaW rnd) 0 P a w nx Q else (∀ f, o.about P w a.eval = some f → (aaW rnd).fn f) ∧ nx (a.put o.dst undef) w := by
 have run : ∀ {ρ1 : Nat → Nat} {σ1 : St}, SRel C ρ1 σ1 a w → Fr C σ.next ρ σ.H w ρ1 σ1.H w → σ.next ≤ σ1.next → (opS P Γ call o σ1 (aNU (fun σ' => aa3 P Γ call ops rest σ' K) K)) → o.wpIn (aaW rnd) 0 P a w nx Q := by
  intro ρ1 σ1 hs1 hf1 hn1 h1
  exact ajI hG hC hΓ hcall hs1 h1 (fun a' w' hr => hnx a' w' (hr.trans hf1 hn1)) (fun ch a' w' hr => hP ch a' w' (hr.trans hf1 hn1)) rnd
 have skip : ∀ {ρ1 : Nat → Nat} {σ1 : St}, SRel C ρ1 σ1 a w → Fr C σ.next ρ σ.H w ρ1 σ1.H w → σ.next ≤ σ1.next → aa3 P Γ call ops rest (σ1.put o.dst .und) K → (∀ f, o.about P w a.eval = some f → (aaW rnd).fn f) ∧ nx (a.put o.dst undef) w := by
  intro ρ1 σ1 hs1 hf1 hn1 h1
  exact ⟨fun _ _ => trivial, hnx _ _ ⟨ρ1, _, h1, hs1.put .und, by rw [St.put_H]; exact hf1, by rw [St.put_next]; exact hn1⟩⟩
 have hput : ∀ (t : Nat) (x : AV), (σ.put (some t) x).H = σ.H ∧ (σ.put (some t) x).next = σ.next := fun t x => ⟨St.put_H _ _ _, St.put_next _ _ _⟩
 simp only [aa3] at h
 split at h
 ·rename_i hg
  rw [if_pos (by simp [Region.wanted, hg])]
  exact (run hs (Fr.refl _ _ _ _ _) (zj _) h)
 ·rename_i j want hg
  split at h
  ·rename_i t ht
   split at h
   ·rename_i x hx
    cases x with
    | true =>
     have hy := aoR hs ht hx
     have hs' := hs.refine hx
     have hf' : Fr C σ.next ρ σ.H w ρ (σ.put (some t) (.d .bool true)).H w := by rw [(hput t _).1]; exact Fr.refl _ _ _ _ _
     have hn' : σ.next ≤ (σ.put (some t) (.d .bool true)).next := by rw [(hput t _).2]; exact zj _
     cases want with
     | true =>
      rw [if_pos (by simp [Region.wanted, hg, hy])]
      exact (run hs' hf' hn' h)
     | false =>
      rw [if_neg (by simp [Region.wanted, hg, hy])]
      exact skip hs' hf' hn' h
    | false =>
     have hy := aoR hs ht hx
     have hs' := hs.refine hx
     have hf' : Fr C σ.next ρ σ.H w ρ (σ.put (some t) (.d .bool false)).H w := by rw [(hput t _).1]; exact Fr.refl _ _ _ _ _
     have hn' : σ.next ≤ (σ.put (some t) (.d .bool false)).next := by rw [(hput t _).2]; exact zj _
     cases want with
     | true =>
      rw [if_neg (by simp [Region.wanted, hg, hy])]
      exact skip hs' hf' hn' h
     | false =>
      rw [if_pos (by simp [Region.wanted, hg, hy])]
      exact (run hs' hf' hn' h)
   ·rename_i hx
    have hy := aBy hs ht hx
    rw [if_neg (by simp [Region.wanted, hg, hy])]
    exact skip hs (Fr.refl _ _ _ _ _) (zj _) h
   ·exact h.elim
  ·exact h.elim
theorem ac8 (hG : acS G) (hC : G C.w0) {Γ : Cons} (hΓ : Γ.ok P G) {call : abN} (hcall : CallSat P G call) {ops : Array Oper} {Q : Exit → Act → World → Prop} {K : Fi → Prop} :
  ∀ (l : List Oper) {ρ : Nat → Nat} {σ : St} {a : Act} {w : World}, SRel C ρ σ a w → aa3 P Γ call ops l σ K → (∀ a' w', Reach C σ ρ w (fun σ' => K (.go σ')) a' w' → Q .normal a' w') → (∀ ch a' w', Reach C σ ρ w (fun σ' => K (.pan ch σ')) a' w' → Q (.panic ch) a' w') → ∀ rnd : Option Nat, wpListIn (aaW rnd) 0 P ops Q l a w
 | [], ρ, σ, a, w, hs, h, hQ, hP, rnd => wpListIn_nil (hQ a w ⟨ρ, σ, h, hs, Fr.refl _ _ _ _ _, zj _⟩)
 | o :: rest, ρ, σ, a, w, hs, h, hQ, hP, rnd => by
  unfold wpListIn
  refine ajU hG hC hΓ hcall hs h ?_ hP rnd
  rintro a' w' ⟨ρ', σ', h2, h3, h4, h5⟩
  exact ac8 hG hC hΓ hcall rest h3 h2 (fun a'' w'' hr => hQ a'' w'' (hr.trans h4 h5)) (fun ch a'' w'' hr => hP ch a'' w'' (hr.trans h4 h5)) rnd
end
open Go Go.RowKit
def acA (e : Edge) : Bool := Region.binds .any e
def ai7 : List Operand → List Nat
 | [] => []
 | .tmp t :: r => t :: ai7 r
 | _ :: r => ai7 r
def ajB (ops : Array Oper) (o : Oper) : List Nat :=
 match o.guard with
 | none => ai7 o.op.operands.toList
 | some (j, _) => match abB ops j with
  | some t => t :: ai7 o.op.operands.toList
  | none => ai7 o.op.operands.toList
def adG (o : Oper) (j : Nat) : Bool := o.after.toList.any fun e => acA e && Nat.beq e.on j
def as6 (i : Nat) (o : Oper) (t : Nat) : List Oper → Nat → Bool
 | [], _ => true
 | p :: r, j => (match p.dst with
  | some d => match Nat.beq d t with
   | true => (Nat.blt j i && adG o j) || (Nat.blt i j && adG p i)
   | false => true
  | none => true) && as6 i o t r (j + 1)
def atA (i : Nat) (d : Nat) : List Oper → Nat → Bool
 | [], _ => true
 | p :: r, j => (match p.dst with
  | some d' => match Nat.beq d d' with
   | true => Nat.beq i j
   | false => true
  | none => true) && atA i d r (j + 1)
def as8 (ops : Array Oper) (pre : List Oper) : List Oper → Nat → Bool
 | [], _ => true
 | o :: r, i => (ajB ops o).all (fun t => as6 i o t pre 0) && (match o.dst with | some d => atA i d pre 0 | none => true) && as8 ops pre r (i + 1)
def acP : List Oper → Nat → Bool
 | [], _ => true
 | o :: r, i => o.after.toList.all (fun e => !acA e || Nat.blt e.on i) && acP r (i + 1)
def acV (acc : List Nat) : List Edge → Nat
 | [] => 0
 | e :: r => match acA e with
  | true => ((2 ^ e.on) ||| acc.getD e.on 0) ||| acV acc r
  | false => acV acc r
def abI : List Oper → List Nat → List Nat
 | [], acc => acc
 | o :: r, acc => abI r (acc ++ [acV acc o.after.toList])
def ag4 (m : Nat) : List Nat → Nat → Bool
 | [], _ => true
 | x :: r, j => (match Nat.ble m j with | true => Nat.beq x (2 ^ j - 1) | false => true) && ag4 m r (j + 1)
def abU (l : List Nat) : Nat :=
 go l.reverse l.length
where go : List Nat → Nat → Nat
 | x :: r, n + 1 => match Nat.beq x (2 ^ n - 1) with | true => go r n | false => n + 1
 | _, n => n
inductive Out where
 | ran (r : AV) (new : List (Nat × Bk))
 | skip
 /-- a store: block k becomes b -/
 | st (k : Nat) (b : Bk)
def Out.av : Out → AV
 | .ran r _ => r
 | .skip => .und
 | .st _ _ => .und
def Out.new : Out → List (Nat × Bk)
 | .ran _ n => n
 | .skip => []
 | .st _ _ => []
def Out.sts : Out → List (Nat × Bk)
 | .st k b => [(k, b)]
 | _ => []
def St.step (σ : St) (o : Oper) (u : Out) : St := ({ σ with H := u.new ++ σ.H } : St).put o.dst u.av
def at1 : List (Nat × Nat) → Nat → Option Nat
 | [], _ => none
 | (K, k) :: r, K' => match Nat.beq K K' with | true => some k | false => at1 r K'
def acI (P : Program) : List Oper → Nat → Heap
 | [], _ => []
 | o :: r, K => match o.op with
  | .alloc e => match ab2 P e with
   | some zs => (K, .vars e zs) :: acI P r (K + 1)
   | none => acI P r (K + 1)
  | _ => acI P r (K + 1)
def aDS (t : Nat) : List Oper → Nat → Option Nat
 | [], _ => none
 | o :: r, K => match o.op with
  | .alloc _ => match o.dst with
   | some d => match Nat.beq d t with
    | true => some K
    | false => aDS t r (K + 1)
   | none => aDS t r (K + 1)
  | _ => aDS t r (K + 1)
def aQb (a : Operand) (l : List Oper) (K : Nat) : Option Nat :=
 match a with
 | .tmp t => aDS t l K
 | _ => none
def ay8 : List Oper → Operand → Operand
 | [], a => a
 | o :: r, a => match a with
  | .tmp t => match o.dst with
   | some d => match Nat.beq d t with
    | true => match o.op with
     | .fieldAddr _ x _ => ay8 r x
     | _ => a
    | false => ay8 r a
   | none => ay8 r a
  | _ => a
def aRa (σ : St) (pre : List Oper) (base : Nat) (a : Operand) : Option Nat :=
 match aQb (ay8 pre.reverse a) pre base with
 | some k => some k
 | none => match σ.eval (ay8 pre.reverse a) with
  | .ptr k _ => some k
  | _ => none
def aNQ (σ : St) (pre : List Oper) (base : Nat) (Hx : Heap) : List Oper → Nat → Option (List (Nat × Nat))
 | [], _ => some []
 | o :: r, K => match aNQ σ pre base Hx r (K + 1) with
  | some l => match o.op with
   | .store _ a _ => match aRa σ pre base a with
    | some k => match Hx.find k with
     | some (.vars _ _) => some ((K, k) :: l)
     | _ => none
    | none => none
   | _ => some l
  | none => none
def ajA : List (Nat × Nat) → Nat → Bool
 | [], _ => false
 | (_, j) :: r, k => match Nat.beq j k with | true => true | false => ajA r k
def Bk.veil : Bk → Bk
 | .vars _ _ => .any
 | b => b
def veil (sk : List (Nat × Nat)) : Heap → Heap
 | [] => []
 | (k, b) :: r => (k, match ajA sk k with | true => b.veil | false => b) :: veil sk r
def aBD (sk : List (Nat × Nat)) (H : Heap) : Heap :=
 match sk with
 | [] => H
 | x :: r => veil (x :: r) H
def aaR (H : Heap) : List (Nat × Bk) → Heap
 | [] => H
 | (k, b) :: r => (aaR H r).up k b
def olds (H : Heap) : List (Nat × Nat) → List (Nat × Bk)
 | [] => []
 | (_, k) :: r => match H.find k with
  | some b => (k, b) :: olds H r
  | none => olds H r
def ai0 (H : Heap) (sk : List (Nat × Nat)) (x : St × List (Nat × Bk)) : St :=
 match sk with
 | [] => x.1
 | y :: r => { x.1 with H := aaR (aaR x.1.H (olds H (y :: r))) x.2 }
def stB (P : Program) (Hs : Heap) (k : Nat) (t : TypeId) (a x : AV) : T Bk :=
 match a with
 | .ptr k' off => match Nat.beq k' k with
  | true => match Hs.find k, cellsOf x, aa6 P t with
   | some (.vars e cells), some cs, some n => match Nat.beq cs.length n && Nat.ble (off + n) cells.length with
    | true => .ok (.vars e (over cells off cs))
    | false => .bad
   | _, _, _ => .bad
  | false => .bad
 | _ => .bad
def evS (P : Program) (Γ : Cons) (sk : List (Nat × Nat)) (Hs : Heap) (K : Nat) (H0 : Heap) (arg : Operand → AV) (o : Oper) : T Out :=
 match o.op with
 | .store t a x => match at1 sk K with
  | some k => (stB P Hs k t (arg a) (arg x)).bind fun b => .ok (.st k b)
  | none => .bad
 | _ => match ajA sk K with
  | false => (evM P Γ K H0 arg o).bind fun x => .ok (.ran x.1 x.2)
  | true => match o.op with
   | .alloc e => match ab2 P e with
    | some _ => .ok (.ran (.ptr K 0) [(K, .any)])
    | none => .bad
   | _ => .bad
def ayU (P : Program) (Γ : Cons) (ops : Array Oper) (sk : List (Nat × Nat)) (Hs : Heap) (H0 : Nat → Heap → Heap) : List Oper → Nat → St → List (Nat × Bk) → T (St × List (Nat × Bk))
 | [], _, σ, s => .ok (σ, s)
 | o :: rest, K, σ, s => match o.guard with
  | none => (evS P Γ sk Hs K (H0 K σ.H) σ.eval o).bind fun u => ayU P Γ ops sk Hs H0 rest (K + 1) (σ.step o u) (u.sts ++ s)
  | some (j, want) => match abB ops j with
   | some t => match acT σ.slots t with
    | .d .bool x => .ite x
      (match want with
       | true => (evS P Γ sk Hs K (H0 K σ.H) (σ.put (some t) (.d .bool true)).eval o).bind fun u => ayU P Γ ops sk Hs H0 rest (K + 1) ((σ.put (some t) (.d .bool true)).step o u) (u.sts ++ s)
       | false => ayU P Γ ops sk Hs H0 rest (K + 1) ((σ.put (some t) (.d .bool true)).step o .skip) s)
      (match want with
       | true => ayU P Γ ops sk Hs H0 rest (K + 1) ((σ.put (some t) (.d .bool false)).step o .skip) s
       | false => (evS P Γ sk Hs K (H0 K σ.H) (σ.put (some t) (.d .bool false)).eval o).bind fun u => ayU P Γ ops sk Hs H0 rest (K + 1) ((σ.put (some t) (.d .bool false)).step o u) (u.sts ++ s))
    | .und => ayU P Γ ops sk Hs H0 rest (K + 1) (σ.step o .skip) s
    | _ => .bad
   | none => .bad
def adK (pre : List Oper) (base i : Nat) : List (Nat × Nat) → List (Nat × Nat)
 | [] => []
 | (K, k) :: r => match pre[K - base]? with
  | some o => match adG o i with
   | true => (K, k) :: adK pre base i r
   | false => adK pre base i r
  | none => adK pre base i r
def aGQ (sk : List (Nat × Nat)) (o : Oper) (base : Nat) : Heap → Heap
 | [] => []
 | (k, b) :: r => match Nat.ble base k with
  | true => match adG o (k - base) && !(ajA sk k) with
   | true => (k, b) :: aGQ sk o base r
   | false => aGQ sk o base r
  | false => []
def aPR (sk : List (Nat × Nat)) (base : Nat) (N : Heap) : Option Oper → Heap
 | some o => aGQ sk o base N
 | none => []
def aCy (pre : List Oper) (base : Nat) (sk : List (Nat × Nat)) (Hs H : Heap) (K : Nat) (N : Heap) : Heap :=
 aPR sk base N pre[K - base]? ++ match sk with
 | [] => H
 | y :: r => aaR H (olds Hs (adK pre base (K - base) (y :: r)))
def amN : List Nat → Bool
 | [] => true
 | k :: r => !(r.contains k) && amN r
def al0 (pre : List Oper) (base : Nat) : List (Nat × Nat) → Bool
 | [] => true
 | (K, k) :: r => (Nat.blt k base || (match pre[K - base]? with | some o => adG o (k - base) | none => false)) && al0 pre base r
def awR (σ : St) (t : Nat) : List Oper → AV
 | [] => acT σ.slots t
 | o :: r => match o.dst with
  | some d => match Nat.beq d t with
   | true => match o.op with
    | .move x => σ.eval x
    | .load _ x => match σ.eval x with
     | .ptr k _ => match σ.H.find k with
      | some (.vars _ cells) => .ag cells
      | _ => .no
     | _ => .no
    | _ => .no
   | false => awR σ t r
  | none => awR σ t r
def ay1 (σ : St) (l : List Oper) (x : Operand) : AV :=
 match x with
 | .tmp t => awR σ t l
 | _ => .no
def aiO (ret : Nat → Bool) (σ : St) (l : List Oper) : List Oper → List Nat
 | [] => []
 | o :: r => match o.op with
  | .call { callee := .value (.func g), args, .. } => match ret g with
   | true => ab4 (args.toList.map (ay1 σ l)) ++ aiO ret σ l r
   | false => aiO ret σ l r
  | .buildSlice _ _ ps => ab4 (ps.toList.map fun x => ay1 σ l x.2) ++ aiO ret σ l r
  | _ => aiO ret σ l r
def aEz (Γ : Cons) (g : Nat) : Bool :=
 match Γ.find g with
 | some c => !(noSl c.res)
 | none => false
def St.forDraw (σ : St) (ret : Nat → Bool) (l : List Oper) : St := σ.thaws (aiO ret σ l l)
def agR (P : Program) (Γ : Cons) (call : abN) (ops : Array Oper) (σ : St) (K : Fi → Prop) : Prop :=
 let l := ops.toList
 let ms := abI l []
 let m := abU ms
 match aNQ σ (l.take m) σ.next (acI P (l.take m) σ.next ++ σ.H) (l.take m) σ.next with
 | some sk => match as8 ops (l.take m) (l.take m) 0 && acP l 0 && ag4 m ms 0 && Nat.ble m l.length && amN (sk.map (·.2)) && al0 (l.take m) σ.next sk with
  | true => (ayU P Γ ops sk (acI P (l.take m) σ.next ++ σ.H) (aCy (l.take m) σ.next sk (acI P (l.take m) σ.next ++ σ.H) (aBD sk σ.H)) (l.take m) σ.next { σ with H := aBD sk σ.H, next := σ.next + m } []).holds fun x => aa3 P Γ call ops (l.drop m) (ai0 (acI P (l.take m) σ.next ++ σ.H) sk x) K
  | false => False
 | none => False
theorem aIT {P : Program} {Γ : Cons} {K : Nat} {H : Heap} {arg arg' : Operand → AV} {o : Oper} (h : ∀ x ∈ o.op.operands, arg x = arg' x) : evM P Γ K H arg o = evM P Γ K H arg' o := by
 have hmap : ∀ l : List Operand, (∀ x ∈ l, arg x = arg' x) → l.map arg = l.map arg' := fun l hl => List.map_congr_left hl
 have hmap2 : ∀ l : List (Nat × Operand), (∀ x ∈ l, arg x.2 = arg' x.2) → (l.map fun x => (x.1, arg x.2)) = l.map fun x => (x.1, arg' x.2) := fun l hl => List.map_congr_left (fun x hx => by rw [hl x hx])
 have hopt : ∀ x : Option Operand, (∀ y ∈ x, arg y = arg' y) → x.map arg = x.map arg' := fun x hx => by
  cases x with
  | none => rfl
  | some y => simp [hx y rfl]
 unfold evM evP
 cases ho : o.op with
 | call c =>
  rw [ho] at h
  obtain ⟨callee, args, ts⟩ := c
  have ha : args.toList.map arg = args.toList.map arg' := hmap _ (fun x hx => h x (by simp only [Op.operands, Call.operands]; exact Array.mem_append.2 (Or.inr (by simpa using hx))))
  cases callee with
  | value f =>
   have hf : arg f = arg' f := h f (by simp [Op.operands, Call.operands])
   simp only [hf, ha]
  | invoke r n => rfl
  | builtin b =>
   cases b <;> first | rfl | simp only [ha] | skip
   all_goals
    congr 1
    split
    ·rename_i x hx
     have : arg x = arg' x := by rw [hx] at ha; simpa using ha
     rw [this]
    ·rfl
 | build t ps =>
  rw [ho] at h
  simp only
  rw [hmap2 ps.toList (fun x hx => h x.2 (by simp only [Op.operands]; simp; exact ⟨x.1, by simpa using hx⟩))]
 | buildSlice t n ps =>
  rw [ho] at h
  simp only
  rw [hmap2 ps.toList (fun x hx => h x.2 (by simp only [Op.operands]; simp; exact ⟨x.1, by simpa using hx⟩))]
 | makeFunc f first caps =>
  rw [ho] at h
  have h1 : first.toList.map arg = first.toList.map arg' := hmap _ (fun x hx => h x (by simp only [Op.operands]; exact Array.mem_append.2 (Or.inl (by simpa using hx))))
  have h2 : caps.toList.map arg = caps.toList.map arg' := hmap _ (fun x hx => h x (by simp only [Op.operands]; exact Array.mem_append.2 (Or.inr (by simpa using hx))))
  cases f <;> simp only [h1, h2]
 | slice t x lo hi mx =>
  rw [ho] at h
  have h0 : arg x = arg' x := h x (by simp [Op.operands])
  have h1 := hopt lo (fun y hy => h y (by cases hy; simp [Op.operands]))
  have h2 := hopt hi (fun y hy => h y (by cases hy; simp [Op.operands]))
  have h3 := hopt mx (fun y hy => h y (by cases hy; simp [Op.operands]))
  simp only [h0, h1, h2, h3]
 | makeMap t r => cases r <;> rfl
 | _ => (rw [ho] at h; try (first | rfl | (simp [Op.operands] at h; simp [h])))
open Go Go.RowKit
def upS (nt : Nat) (f : Nat → AV) (dst : Option Nat) (x : AV) : Nat → AV := fun t =>
 match dst with
 | some d => if d = t ∧ d < nt then x else f t
 | none => f t
theorem aDP (σ : St) (dst : Option Nat) (x : AV) : acT (σ.put dst x).slots = upS σ.n (acT σ.slots) dst x := by
 funext t
 unfold St.put upS
 cases dst with
 | none => rfl
 | some d =>
  simp only
  cases hb : Nat.blt d σ.n with
  | true =>
   have hlt : d < σ.n := Nat.le_of_ble_eq_true hb
   simp only [acT]
   cases hu : Nat.beq d t with
   | true => have := aaD hu; subst this; simp [hlt]
   | false => have hne := ab6 hu; simp only; rw [alH hne, if_neg (fun h => hne h.1)]
  | false =>
   have hge : ¬ d < σ.n := fun hlt => by simp [Nat.blt, xw hlt] at hb
   simp only
   rw [if_neg (fun h => hge h.2)]
theorem aJ5 {nt : Nat} {f : Nat → AV} {t : Nat} {x : AV} (h : f t = x) : upS nt f (some t) x = f := by
 funext u
 simp only [upS]
 split
 ·rename_i hc; rw [← hc.1]; exact h.symm
 ·rfl
def axW (f : Nat → AV) : Operand → AV
 | .tmp t => f t
 | .const v => aoH v
 | .func f => .fn f [] []
 | .global _ => .no
theorem aoB (σ : St) : σ.eval = axW (acT σ.slots) := by funext x; cases x <;> rfl
def aJD (ops : Array Oper) (f : Nat → AV) (o : Oper) : Prop :=
 o.guard = none ∨ ∃ j want t, o.guard = some (j, want) ∧ abB ops j = some t ∧ f t = .d .bool want
def aL3 (ops : Array Oper) (f : Nat → AV) (o : Oper) : Prop :=
 ∃ j want t, o.guard = some (j, want) ∧ abB ops j = some t ∧ (f t = .d .bool (!want) ∨ f t = .und)
def aL4 (P : Program) (Γ : Cons) (ops : Array Oper) (sk : List (Nat × Nat)) (Hs Hx : Heap) (K : Nat) (f : Nat → AV) (o : Oper) : Out → Prop
 | .ran r new => aJD ops f o ∧ (ajA sk K = false ∧ (evM P Γ K Hx (axW f) o).Leaf (r, new) ∨ ∃ e zs, o.op = .alloc e ∧ ab2 P e = some zs ∧ r = .ptr K 0 ∧ new = [(K, .any)])
 | .skip => aL3 ops f o
 | .st k b => aJD ops f o ∧ at1 sk K = some k ∧ ∃ t a x, o.op = .store t a x ∧ (stB P Hs k t (axW f a) (axW f x)).Leaf b
theorem axX {P : Program} {Γ : Cons} {ops : Array Oper} {sk : List (Nat × Nat)} {Hs Hx : Heap} {K : Nat} {f : Nat → AV} {o : Oper} {u : Out} (hw : aJD ops f o) (h : (evS P Γ sk Hs K Hx (axW f) o).Leaf u) : aL4 P Γ ops sk Hs Hx K f o u := by
 unfold evS at h
 split at h
 ·rename_i t a x ho
  split at h
  ·rename_i k hk
   obtain ⟨b, h1, h2⟩ := T.Leaf.bind h
   cases h2
   exact ⟨hw, hk, t, a, x, ho, h1⟩
  ·cases h
 ·split at h
  ·rename_i hk
   obtain ⟨y, h1, h2⟩ := T.Leaf.bind h
   cases h2
   exact ⟨hw, Or.inl ⟨hk, h1⟩⟩
  ·split at h
   ·rename_i e ho
    split at h
    ·rename_i zs hz
     cases h
     exact ⟨hw, Or.inr ⟨e, zs, ho, hz, rfl, rfl⟩⟩
    ·cases h
   ·cases h
inductive Tr (P : Program) (Γ : Cons) (ops : Array Oper) (sk : List (Nat × Nat)) (Hs : Heap) (H0 : Nat → Heap → Heap) (nt : Nat) : List Oper → Nat → Heap → (Nat → AV) → List Out → (Nat → AV) → Prop where
 | nil {K : Nat} {N : Heap} {f : Nat → AV} : Tr P Γ ops sk Hs H0 nt [] K N f [] f
 | cons {K : Nat} {N : Heap} {f f' : Nat → AV} {o : Oper} {rest : List Oper} {u : Out} {us : List Out} (h : aL4 P Γ ops sk Hs (H0 K N) K f o u) (ht : Tr P Γ ops sk Hs H0 nt rest (K + 1) (u.new ++ N) (upS nt f o.dst u.av) us f') :
   Tr P Γ ops sk Hs H0 nt (o :: rest) K N f (u :: us) f'
section
variable {C : Ctx} {P : Program} {G : World → Prop} {Γ : Cons} {ops : Array Oper} {sk : List (Nat × Nat)} {Hs : Heap} {H0 : Nat → Heap → Heap} {nt : Nat}
theorem au0 : ∀ (l : List Oper) (K : Nat) (σ : St) (s : List (Nat × Bk)) (y : St × List (Nat × Bk)), (ayU P Γ ops sk Hs H0 l K σ s).Leaf y →
  ∃ us : List Out, Tr P Γ ops sk Hs H0 σ.n l K σ.H (acT σ.slots) us (acT y.1.slots) ∧ (∀ x, x ∈ y.1.H ↔ x ∈ σ.H ∨ ∃ (j : Nat) (u : Out), us[j]? = some u ∧ x ∈ u.new) ∧ y.1.next = σ.next ∧ y.1.n = σ.n ∧
   ∀ x, x ∈ y.2 ↔ x ∈ s ∨ ∃ (j : Nat) (u : Out), us[j]? = some u ∧ x ∈ u.sts
 | [], K, σ, s, y, h => by
  cases h
  exact ⟨[], .nil, by simp, rfl, rfl, by simp⟩
 | o :: rest, K, σ, s, y, h => by
  have key : ∀ (σ1 : St) (u : Out), acT σ1.slots = acT σ.slots → σ1.H = σ.H → σ1.next = σ.next → σ1.n = σ.n → aL4 P Γ ops sk Hs (H0 K σ.H) K (acT σ.slots) o u → (ayU P Γ ops sk Hs H0 rest (K + 1) (σ1.step o u) (u.sts ++ s)).Leaf y →
    ∃ us : List Out, Tr P Γ ops sk Hs H0 σ.n (o :: rest) K σ.H (acT σ.slots) us (acT y.1.slots) ∧ (∀ x, x ∈ y.1.H ↔ x ∈ σ.H ∨ ∃ (j : Nat) (u : Out), us[j]? = some u ∧ x ∈ u.new) ∧ y.1.next = σ.next ∧ y.1.n = σ.n ∧
     ∀ x, x ∈ y.2 ↔ x ∈ s ∨ ∃ (j : Nat) (u : Out), us[j]? = some u ∧ x ∈ u.sts := by
   intro σ1 u e1 e2 e3 e4 hst hl
   obtain ⟨us, h1, h2, h3, h4, h5⟩ := au0 rest (K + 1) _ _ y hl
   have hn : (σ1.step o u).n = σ1.n := by unfold St.step St.put; split <;> (try split) <;> rfl
   have hs : acT (σ1.step o u).slots = upS σ.n (acT σ.slots) o.dst u.av := by
    unfold St.step; rw [aDP]; simp only [e1, e4]
   have hH : (σ1.step o u).H = u.new ++ σ.H := by unfold St.step; rw [St.put_H]; simp only [e2]
   have hnx : (σ1.step o u).next = σ.next := by unfold St.step; rw [St.put_next]; exact e3
   rw [hn, hs, e4, hH] at h1
   refine ⟨u :: us, .cons hst h1, fun x => ?_, by rw [h3, hnx], by rw [h4, hn, e4], fun x => ?_⟩
   ·rw [h2, hH, zE]
    constructor
    ·rintro ((hx | hx) | ⟨j, v, hj, hx⟩)
     ·exact Or.inr ⟨0, u, rfl, hx⟩
     ·exact Or.inl hx
     ·exact Or.inr ⟨j + 1, v, by simpa using hj, hx⟩
    ·rintro (hx | ⟨j, v, hj, hx⟩)
     ·exact Or.inl (Or.inr hx)
     ·cases j with
      | zero => simp at hj; subst hj; exact Or.inl (Or.inl hx)
      | succ j => exact Or.inr ⟨j, v, by simpa using hj, hx⟩
   ·rw [h5, zE]
    constructor
    ·rintro ((hx | hx) | ⟨j, v, hj, hx⟩)
     ·exact Or.inr ⟨0, u, rfl, hx⟩
     ·exact Or.inl hx
     ·exact Or.inr ⟨j + 1, v, by simpa using hj, hx⟩
    ·rintro (hx | ⟨j, v, hj, hx⟩)
     ·exact Or.inl (Or.inr hx)
     ·cases j with
      | zero => simp at hj; subst hj; exact Or.inl (Or.inl hx)
      | succ j => exact Or.inr ⟨j, v, by simpa using hj, hx⟩
  simp only [ayU] at h
  split at h
  ·rename_i hg
   obtain ⟨u, h1, h2⟩ := T.Leaf.bind h
   rw [aoB] at h1
   exact key σ u rfl rfl rfl rfl (axX (Or.inl hg) h1) h2
  ·rename_i j want hg
   split at h
   ·rename_i t ht
    split at h
    ·rename_i b hb
     have hr : ∀ b', b = b' → acT (σ.put (some t) (.d .bool b')).slots = acT σ.slots := fun b' e => by rw [aDP]; exact aJ5 (by rw [hb, e])
     have hf : ∀ b', (σ.put (some t) (.d .bool b')).H = σ.H ∧ (σ.put (some t) (.d .bool b')).next = σ.next ∧ (σ.put (some t) (.d .bool b')).n = σ.n := fun b' => ⟨St.put_H _ _ _, St.put_next _ _ _, by unfold St.put; simp only; split <;> rfl⟩
     cases h with
     | t h =>
      cases want with
      | true =>
       obtain ⟨u, h1, h2⟩ := T.Leaf.bind h
       rw [aoB, hr true rfl] at h1
       exact key _ u (hr true rfl) (hf true).1 (hf true).2.1 (hf true).2.2 (axX (Or.inr ⟨j, true, t, hg, ht, hb⟩) h1) h2
      | false => exact key _ .skip (hr true rfl) (hf true).1 (hf true).2.1 (hf true).2.2 ⟨j, false, t, hg, ht, Or.inl hb⟩ h
     | f h =>
      cases want with
      | true => exact key _ .skip (hr false rfl) (hf false).1 (hf false).2.1 (hf false).2.2 ⟨j, true, t, hg, ht, Or.inl hb⟩ h
      | false =>
       obtain ⟨u, h1, h2⟩ := T.Leaf.bind h
       rw [aoB, hr false rfl] at h1
       exact key _ u (hr false rfl) (hf false).1 (hf false).2.1 (hf false).2.2 (axX (Or.inr ⟨j, false, t, hg, ht, hb⟩) h1) h2
    ·rename_i hb
     exact key σ .skip rfl rfl rfl rfl ⟨j, want, t, hg, ht, Or.inr hb⟩ h
    ·cases h
   ·cases h
theorem Tr.length {l : List Oper} {K : Nat} {N : Heap} {f f' : Nat → AV} {us : List Out} (h : Tr P Γ ops sk Hs H0 nt l K N f us f') : us.length = l.length := by
 induction h with
 | nil => rfl
 | cons _ _ ih => simp [ih]
theorem Tr.slot {l : List Oper} {K : Nat} {N : Heap} {f f' : Nat → AV} {us : List Out} (h : Tr P Γ ops sk Hs H0 nt l K N f us f') (t : Nat) :
  (∃ (j : Nat) (o : Oper) (u : Out), l[j]? = some o ∧ us[j]? = some u ∧ o.dst = some t ∧ t < nt ∧ f' t = u.av) ∨ ((∀ (j : Nat) (o : Oper), l[j]? = some o → o.dst = some t → ¬ t < nt) ∧ f' t = f t) := by
 induction h with
 | nil => exact Or.inr ⟨by simp, rfl⟩
 | @cons K N f f' o rest u us h _ ih =>
  rcases ih with ⟨j, o', u', h1, h2, h3, h4, h5⟩ | ⟨h1, h2⟩
  ·exact Or.inl ⟨j + 1, o', u', by simpa using h1, by simpa using h2, h3, h4, h5⟩
  ·by_cases hd : o.dst = some t ∧ t < nt
   ·refine Or.inl ⟨0, o, u, rfl, rfl, hd.1, hd.2, ?_⟩
    rw [h2]
    simp [upS, hd.1, hd.2]
   ·refine Or.inr ⟨fun j o' hj ho => ?_, ?_⟩
    ·cases j with
     | zero => simp at hj; subst hj; exact fun hlt => hd ⟨ho, hlt⟩
     | succ j => exact h1 j o' (by simpa using hj) ho
    ·rw [h2]
     unfold upS
     split
     ·rename_i d hd'
      rw [if_neg]
      rintro ⟨rfl, hlt⟩
      exact hd ⟨hd', hlt⟩
     ·rfl
theorem Tr.nth {l : List Oper} {K : Nat} {N : Heap} {f f' : Nat → AV} {us : List Out} (h : Tr P Γ ops sk Hs H0 nt l K N f us f') : ∀ {i : Nat} {o : Oper}, l[i]? = some o →
  ∃ u fi Ni, us[i]? = some u ∧ Tr P Γ ops sk Hs H0 nt (l.take i) K N f (us.take i) fi ∧ aL4 P Γ ops sk Hs (H0 (K + i) Ni) (K + i) fi o u ∧ ∀ x ∈ Ni, x ∈ N ∨ ∃ (j : Nat) (v : Out), us[j]? = some v ∧ x ∈ v.new := by
 induction h with
 | nil => intro i o hi; simp at hi
 | @cons K N f f' o rest u us h _ ih =>
  intro i o' hi
  cases i with
  | zero => simp at hi; subst hi; exact ⟨u, f, N, rfl, .nil, h, fun x hx => Or.inl hx⟩
  | succ i =>
   obtain ⟨u', fi, Ni, h1, h2, h3, h4⟩ := ih (i := i) (by simpa using hi)
   refine ⟨u', fi, Ni, by simpa using h1, .cons h h2, ?_, fun x hx => ?_⟩
   ·rwa [show K + 1 + i = K + (i + 1) by omega] at h3
   ·rcases h4 x hx with hx | ⟨j, v, hj, hv⟩
    ·rcases zE.1 hx with hx | hx
     ·exact Or.inr ⟨0, u, rfl, hx⟩
     ·exact Or.inl hx
    ·exact Or.inr ⟨j + 1, v, by simpa using hj, hv⟩
end
theorem ajW {i : Nat} {o : Oper} {t : Nat} : ∀ {l : List Oper} {k : Nat}, as6 i o t l k = true → ∀ {j : Nat} {p : Oper}, l[j]? = some p → p.dst = some t → k + j < i ∧ adG o (k + j) = true ∨ i < k + j ∧ adG p i = true
 | [], _, _, j, p, hp, _ => by simp at hp
 | q :: r, k, h, j, p, hp, hd => by
  simp only [as6, zl] at h
  cases j with
  | zero =>
   simp at hp
   subst hp
   rw [hd] at h
   simp only [Nat.beq_refl, zl, xc] at h
   rcases h.1 with ⟨h1, h2⟩ | ⟨h1, h2⟩
   ·exact Or.inl ⟨Nat.le_of_ble_eq_true h1, h2⟩
   ·exact Or.inr ⟨Nat.le_of_ble_eq_true h1, h2⟩
  | succ j =>
   have := ajW h.2 (j := j) (by simpa using hp) hd
   rwa [show k + 1 + j = k + (j + 1) by omega] at this
theorem as9 {i d : Nat} : ∀ {l : List Oper} {k : Nat}, atA i d l k = true → ∀ {j : Nat} {p : Oper}, l[j]? = some p → p.dst = some d → i = k + j
 | [], _, _, j, p, hp, _ => by simp at hp
 | q :: r, k, h, j, p, hp, hd => by
  simp only [atA, zl] at h
  cases j with
  | zero =>
   simp at hp
   subst hp
   rw [hd] at h
   simp only [Nat.beq_refl] at h
   exact aaD h.1
  | succ j =>
   have := as9 h.2 (j := j) (by simpa using hp) hd
   omega
theorem as7 {ops : Array Oper} {pre : List Oper} : ∀ {l : List Oper} {k : Nat}, as8 ops pre l k = true → ∀ {i : Nat} {o : Oper}, l[i]? = some o →
  (∀ t ∈ ajB ops o, as6 (k + i) o t pre 0 = true) ∧ (∀ d, o.dst = some d → atA (k + i) d pre 0 = true)
 | [], _, _, i, o, ho => by simp at ho
 | q :: r, k, h, i, o, ho => by
  simp only [as8, zl, yq] at h
  cases i with
  | zero =>
   simp at ho
   subst ho
   refine ⟨fun t ht => h.1.1 t ht, fun d hd => ?_⟩
   rw [hd] at h
   exact h.1.2
  | succ i =>
   have := as7 h.2 (i := i) (by simpa using ho)
   rwa [show k + 1 + i = k + (i + 1) by omega] at this
theorem abL : ∀ {l : List Oper} {k : Nat}, acP l k = true → ∀ {i : Nat} {o : Oper}, l[i]? = some o → ∀ e ∈ o.after, acA e = true → e.on < k + i
 | [], _, _, i, o, ho => by simp at ho
 | q :: r, k, h, i, o, ho => by
  simp only [acP, zl, yq] at h
  cases i with
  | zero =>
   simp at ho
   subst ho
   intro e he hb
   have := h.1 e (by simpa using he)
   rw [hb] at this
   simp at this
   omega
  | succ i =>
   intro e he hb
   have := abL h.2 (i := i) (by simpa using ho) e he hb
   omega
theorem adW {o : Oper} {j : Nat} (h : adG o j = true) : ∃ e ∈ o.after, acA e = true ∧ e.on = j := by
 unfold adG at h
 rw [wJ] at h
 obtain ⟨e, he, hb⟩ := h
 simp only [zl] at hb
 exact ⟨e, by simpa using he, hb.1, aaD hb.2⟩
theorem adU : ∀ (l : List Oper) (acc : List Nat), acc = (abI l acc).take acc.length ∧ (abI l acc).length = acc.length + l.length
 | [], acc => by simp [abI]
 | o :: r, acc => by
  obtain ⟨h1, h2⟩ := adU r (acc ++ [acV acc o.after.toList])
  simp only [abI]
  refine ⟨?_, by rw [h2]; simp; omega⟩
  have := congrArg (List.take acc.length) h1
  rw [yP] at this
  simp at this
  exact this
theorem aAe : ∀ (l : List Oper) (acc : List Nat) (j : Nat) (o : Oper), l[j]? = some o → (abI l acc)[acc.length + j]? = some (acV ((abI l acc).take (acc.length + j)) o.after.toList)
 | [], acc, j, o, h => by simp at h
 | p :: r, acc, j, o, h => by
  simp only [abI]
  cases j with
  | zero =>
   simp at h
   subst h
   obtain ⟨h1, h2⟩ := adU r (acc ++ [acV acc p.after.toList])
   generalize abI r (acc ++ [acV acc p.after.toList]) = M at *
   have e1 : M.take acc.length = acc := by
    have := congrArg (List.take acc.length) h1
    rw [yP] at this
    simp at this
    exact this.symm
   have e2 : M[acc.length]? = some (acV acc p.after.toList) := by
    have := congrArg (fun l => l[acc.length]?) h1
    simp at this
    exact this.symm
   rw [wB, e1, e2]
  | succ j =>
   have := aAe r (acc ++ [acV acc p.after.toList]) j o (by simpa using h)
   rw [zJ] at this
   simp only [yh, List.length_nil] at this
   rwa [show acc.length + (0 + 1) + j = acc.length + (j + 1) by omega] at this
theorem aiF {acc : List Nat} {i : Nat} : ∀ {es : List Edge}, (acV acc es).testBit i = true → ∃ e ∈ es, acA e = true ∧ (i = e.on ∨ (acc.getD e.on 0).testBit i = true)
 | [], h => by simp [acV] at h
 | e :: r, h => by
  simp only [acV] at h
  cases hb : acA e with
  | true =>
   rw [hb] at h
   simp only [xg, xc] at h
   rcases h with (h | h) | h
   ·rw [Nat.testBit_two_pow] at h
    simp at h
    exact ⟨e, by simp, hb, Or.inl h.symm⟩
   ·exact ⟨e, by simp, hb, Or.inr h⟩
   ·obtain ⟨e', h1, h2⟩ := aiF h
    exact ⟨e', zu _ h1, h2⟩
  | false =>
   rw [hb] at h
   obtain ⟨e', h1, h2⟩ := aiF h
   exact ⟨e', zu _ h1, h2⟩
def awG (l : List Oper) (ls : Nat → Bool) : Prop := ∀ (j : Nat) (o : Oper), l[j]? = some o → ls j = true → ∀ e ∈ o.after, acA e = true → ls e.on = true
theorem aiS {l : List Oper} {ls : Nat → Bool} (hc : awG l ls) (he : acP l 0 = true) : ∀ (j : Nat) (o : Oper), l[j]? = some o → (∀ e ∈ o.after, acA e = true → ls e.on = true) → ∀ x i, (abI l [])[j]? = some x → x.testBit i = true → ls i = true := by
 intro j
 induction j using Nat.strongRecOn with
 | _ j ih =>
  intro o ho hed x i hx hb
  have hm := aAe l [] j o ho
  simp only [List.length_nil, zp] at hm
  rw [hx] at hm
  injection hm with hm
  subst hm
  obtain ⟨e, he1, he2, he3⟩ := aiF hb
  have he1' : e ∈ o.after := by simpa using he1
  have hlt := abL he ho e he1' he2
  rw [zp] at hlt
  rcases he3 with rfl | he3
  ·exact hed e he1' he2
  ·have hjl : j < l.length := (zw.1 ho).1
   have hel : e.on < l.length := zb
   obtain ⟨p, hp⟩ : ∃ p, l[e.on]? = some p := ⟨l[e.on], by simp [hel]⟩
   have hmx : e.on < (abI l []).length := by rw [(adU l []).2]; simpa using hel
   have hgx : (abI l [])[e.on]? = some (abI l [])[e.on] := by simp [hmx]
   have hgd : ((abI l []).take j).getD e.on 0 = (abI l [])[e.on] := by
    rw [zP, zR, if_pos hlt, hgx]; rfl
   rw [hgd] at he3
   exact ih e.on hlt p hp (hc e.on p hp (hed e he1' he2)) _ i hgx he3
theorem agV {m : Nat} : ∀ {l : List Nat} {k : Nat}, ag4 m l k = true → ∀ {j x : Nat}, l[j]? = some x → m ≤ k + j → x = 2 ^ (k + j) - 1
 | [], _, _, j, x, hx => by simp at hx
 | y :: r, k, h, j, x, hx => by
  simp only [ag4, zl] at h
  intro hm
  cases j with
  | zero =>
   simp at hx
   subst hx
   rw [wB] at hm ⊢
   rw [xw hm] at h
   exact aaD h.1
  | succ j =>
   have := agV h.2 (j := j) (by simpa using hx) zb
   rwa [show k + 1 + j = k + (j + 1) by omega] at this
end Go.Vg
