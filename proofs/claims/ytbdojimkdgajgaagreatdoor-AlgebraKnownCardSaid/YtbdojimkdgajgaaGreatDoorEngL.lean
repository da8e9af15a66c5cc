/-
  The engine, part L: that loads, new blocks and calls by contract do what the evaluator says. Own work; no condition.
-/
import Derived.Test.YtbdojimkdgajgaaGreatDoorEngK
import Derived.Laws.IdiomStrings
import Derived.Laws.Append
namespace Go.Vg
open Go Go.RowKit

theorem flatRep_length {α : Type} (l : List α) (n : Nat) : (flatRep l n).length = n * l.length := by
  induction n with
  | zero => simp [flatRep]
  | succ n ih => simp [flatRep, ih, Nat.succ_mul, Nat.add_comm]

theorem flatRep_get {α : Type} (l : List α) : ∀ (n i : Nat), i < n * l.length → (flatRep l n)[i]? = l[i % l.length]?
  | 0, i, h => by simp at h
  | n + 1, i, h => by
    simp only [flatRep]
    by_cases hi : i < l.length
    · rw [List.getElem?_append_left hi, Nat.mod_eq_of_lt hi]
    · rw [List.getElem?_append_right (by omega), flatRep_get l n (i - l.length) (by rw [Nat.succ_mul] at h; omega)]
      rw [show i % l.length = (i - l.length) % l.length from Nat.mod_eq_sub_mod (by omega)]

theorem flatRep_take {α : Type} (l : List α) : ∀ (n c : Nat), n ≤ c → (flatRep l c).take (n * l.length) = flatRep l n
  | 0, c, _ => by simp [flatRep]
  | n + 1, 0, h => by omega
  | n + 1, c + 1, h => by
    simp only [flatRep]
    rw [List.take_append, List.take_of_length_le (by rw [Nat.succ_mul]; omega), ← flatRep_take l n c (by omega)]
    congr 2
    rw [Nat.succ_mul]; omega

theorem madeCells_flat (z : Array Value) (n : Nat) : (madeCells z (n * z.size)).toList = flatRep z.toList n := by
  apply List.ext_getElem?
  intro i
  by_cases hi : i < n * z.size
  · rw [flatRep_get z.toList n i (by simpa using hi)]
    have hpos : 0 < z.size := by
      rcases Nat.eq_zero_or_pos z.size with h | h
      · rw [h] at hi; simp at hi
      · exact h
    have hm : i % z.size < z.size := Nat.mod_lt _ hpos
    simp [madeCells, hi, hm]
  · rw [List.getElem?_eq_none (by simp [madeCells]; omega), List.getElem?_eq_none (by rw [flatRep_length]; simp; omega)]

theorem RdL.replicate {α : Type} {R : α → List Value → Prop} {x : α} {cs : List Value} (h : R x cs) : ∀ n, RdL R (List.replicate n x) (flatRep cs n)
  | 0 => rfl
  | n + 1 => by
    rw [List.replicate_succ]
    exact ⟨cs, flatRep cs n, rfl, h, RdL.replicate h n⟩

section
variable {C : Ctx} {ρ : Nat → Nat} {H : Heap} {w : World} {P : Program} {G : World → Prop}

theorem VRs.rep {as : List AV} {vs : List Value} (h : VRs C ρ H w as vs) : ∀ n, VRs C ρ H w (flatRep as n) (flatRep vs n)
  | 0 => .nil
  | n + 1 => h.append (VRs.rep h n)

theorem flatRep_mem {α : Type} {l : List α} {x : α} : ∀ {n : Nat}, x ∈ flatRep l n → x ∈ l
  | 0, h => by simp [flatRep] at h
  | n + 1, h => by
    rcases List.mem_append.1 h with h | h
    · exact h
    · exact flatRep_mem h

theorem Rd.noSl {ok ok' : Nat → Prop} {w w' : World} : ∀ (t : Ty) (x : t.T) (cs : List Value), noSl t = true → Rd ok w t x cs → Rd ok' w' t x cs
  | .int _, _, _, _, h => h
  | .bool, _, _, _, h => h
  | .str, _, _, _, h => h
  | .unit, _, _, _, h => h
  | .pair t u, _, _, hn, ⟨c1, c2, e, h1, h2⟩ => by
    simp only [Vg.noSl, Bool.and_eq_true] at hn
    exact ⟨c1, c2, e, Rd.noSl t _ _ hn.1 h1, Rd.noSl u _ _ hn.2 h2⟩
  | .arr _ t, _, _, hn, ⟨hl, hr⟩ => ⟨hl, RdL.mono (fun x cs => Rd.noSl t x cs hn) _ _ hr⟩
  | .sl _, _, _, hn, _ => by cases hn

theorem toArgs_sound {H0 : Heap} (hsub : ∀ x ∈ H0, x ∈ H) {next : Nat} (hm : MRel C ρ H next w) : ∀ (t : Ty) (as : List AV) (vs : List Value) (x : t.T), toArgs H0 t as = some x → VRs C ρ H w as vs →
    RdVs (OkL C ρ H w) w t x vs ∧ (anyOwn as = false → RdVs (Ok C ρ H w) w t x vs)
  | .unit, [], vs, x, h, hv => by cases hv; exact ⟨rfl, fun _ => rfl⟩
  | .pair t u, a :: as, vs, x, h, hv => by
    cases hv with
    | cons h1 h2 =>
      simp only [toArgs] at h
      split at h
      · rename_i y hy
        split at h
        · rename_i z hz
          injection h with h; subst h
          obtain ⟨k1, k2⟩ := toArgs_sound hsub hm u as _ z hz h2
          refine ⟨⟨_, _, rfl, toDL_sound hsub hm hy h1.soft, k1⟩, fun ho => ?_⟩
          simp only [anyOwn, Bool.or_eq_false_iff] at ho
          refine ⟨_, _, rfl, toD_sound ?_ h1, k2 ho.2⟩
          cases a <;> first | exact hy | cases ho.1
        · cases h
      · cases h
  | .int _, _, _, _, h, _ => by simp [toArgs] at h
  | .bool, _, _, _, h, _ => by simp [toArgs] at h
  | .str, _, _, _, h, _ => by simp [toArgs] at h
  | .arr _ _, _, _, _, h, _ => by simp [toArgs] at h
  | .sl _, _, _, _, h, _ => by simp [toArgs] at h
  | .unit, _ :: _, _, _, h, _ => by simp [toArgs] at h
  | .pair _ _, [], _, _, h, _ => by simp [toArgs] at h

theorem RdVs.vrs {ok : Nat → Prop} : ∀ (t : Ty) (x : t.T) (vs : List Value), (∀ (u : Ty) (y : u.T) (v : Value), (noSl t = true → noSl u = true) → RdV ok w u y v → RdV (Ok C ρ H w) w u y v) → RdVs ok w t x vs → VRs C ρ H w (resAVs t x) vs
  | .unit, _, vs, _, h => by obtain rfl : vs = [] := h; exact .nil
  | .pair t u, x, vs, hk, h => by
    obtain ⟨v, us, e, h1, h2⟩ := h
    subst e
    refine .cons (.d (hk t _ _ (fun h => ?_) h1)) (RdVs.vrs u _ _ (fun u' y' v' hu' => hk u' y' v' (fun h => hu' ?_)) h2)
    · simp only [noSl, Bool.and_eq_true] at h; exact h.1
    · simp only [noSl, Bool.and_eq_true] at h; exact h.2
  | .int _, _, _, _, h => h.elim
  | .bool, _, _, _, h => h.elim
  | .str, _, _, _, h => h.elim
  | .arr _ _, _, _, _, h => h.elim
  | .sl _, _, _, _, h => h.elim

theorem resAV_sound {l : List AV} {vs : List Value} (h : VRs C ρ H w l vs) : VR C ρ H w (resAV l) (resV vs) := by
  cases h with
  | nil => exact .tup .nil
  | cons h1 h2 =>
    cases h2 with
    | nil => exact h1
    | cons h3 h4 => exact .tup (.cons h1 (.cons h3 h4))

theorem conRes_sound {ok : Nat → Prop} {e : Bool} {t : Ty} {y : t.T} {vs : List Value} {r : AV × List (Nat × Bk)} (h : (conRes e t y).Leaf r)
    (hk : ∀ (u : Ty) (y : u.T) (v : Value), (noSl t = true → noSl u = true) → RdV ok w u y v → RdV (Ok C ρ H w) w u y v) (hr : RdR e ok w t y vs) : r.2 = [] ∧ VR C ρ H w r.1 (resV vs) := by
  cases e with
  | false =>
    cases h
    exact ⟨rfl, resAV_sound (RdVs.vrs _ _ _ hk hr)⟩
  | true =>
    cases t <;> try exact hr.elim
    rename_i u t2
    cases t2 <;> try exact hr.elim
    rename_i t2 t3
    cases t2 <;> try exact hr.elim
    cases t3 <;> try exact hr.elim
    obtain ⟨v, v2, rfl, h1, h2⟩ := hr
    obtain ⟨a, b, c⟩ := y
    have h3 := hk u a v (fun h => by simp only [noSl, Bool.and_eq_true] at h; exact h.1) h1
    cases b with
    | true =>
      obtain ⟨t, p, rfl⟩ := h2
      cases h with
      | t h => cases h; exact ⟨rfl, .tup (.cons (.d h3) (.cons .nni .nil))⟩
    | false =>
      obtain rfl := h2
      cases h with
      | f h => cases h; exact ⟨rfl, .tup (.cons (.d h3) (.cons .nili .nil))⟩

theorem conRes_new {e : Bool} {t : Ty} {y : t.T} {r : AV × List (Nat × Bk)} (h : (conRes e t y).Leaf r) : r.2 = [] := by
  cases e with
  | false => cases h; rfl
  | true =>
    cases t <;> try (cases h; done)
    rename_i u t2
    cases t2 <;> try (cases h; done)
    rename_i t2 t3
    cases t2 <;> try (cases h; done)
    cases t3 <;> try (cases h; done)
    obtain ⟨a, b, c⟩ := y
    cases b with
    | true =>
      cases h with
      | t h => cases h; rfl
    | false =>
      cases h with
      | f h => cases h; rfl

theorem enters_run {f : FuncId} (h : enters P f = true) (args : Array Value) : (callFunc f args).run P w = .ok (.enter f args) w := by
  unfold enters at h
  split at h
  · rename_i fn hf
    split at h
    · rename_i c hb
      have hn : (fn.name == "runtime.NumGoroutine") = false := by simpa using h
      simp only [callFunc, Sem.run_bind, run_program, Result.andThen_ok, hf, hn, hb, Option.isNone_some, Bool.false_eq_true, if_false, Sem.run_pure]
    · cases h
  · cases h

theorem call_run {o : Oper} {a : Act} {f : Operand} {args : Array Operand} {ts : Array TypeId} {g : FuncId} {vf vc : List Value} (ho : o.op = .call { callee := .value f, args, argTypes := ts })
    (hf : a.eval f = .func (.func g) ⟨vf⟩ ⟨vc⟩) (he : enters P g = true) : (execOp a.eval o).run P w = .ok (.enter g ⟨vf ++ args.toList.map a.eval ++ vc⟩) w := by
  simp only [execOp, ho, resolve, Deferred.ofValue, hf, Sem.run_bind, Sem.run_pure, Result.andThen_ok, invoke]
  rw [enters_run he]
  congr 2
  apply Array.ext'
  simp

theorem VRs_no : ∀ (vs : List Value), VRs C ρ H w (List.replicate vs.length .no) vs
  | [] => .nil
  | _ :: vs => .cons .no (VRs_no vs)

theorem makeV_wp {next K : Nat} (hm : MRel C ρ H next w) (hK : K ∉ H.keys) (hKn : K < next) {t e : TypeId} {i : TypeInfo} {n c : Int} {kn kc : IntKind} {r : AV} {new : Heap} {R : Value → World → Prop} {Z : Prop}
    (hu : P.underlying t = some (.slice e)) (hi : P.info? e = some i)
    (h : (makeV K e i n c).Leaf (r, new)) (val : ∀ v w', (Instr.makeSlice t (.int kn n) (.int kc c)).run P w = .ok v w' → R v w' → Z)
    (hnx : ∀ v ρ' w', MRel C ρ' (new ++ H) next w' → Ext C ρ H w ρ' (new ++ H) w' → VR C ρ' (new ++ H) w' r v → Below w.heap.size w w' → R v w') : Z := by
  unfold makeV at h
  split at h
  · rename_i z hzi
    split at h
    · rename_i hc
      simp only [Bool.and_eq_true] at hc
      obtain ⟨⟨hc1, hc3⟩, hone⟩ := hc
      have hc1 := beq_true hc1
      have hc3 := Nat.le_of_ble_eq_true hc3
      cases h with
      | need hp' h =>
        cases h
        obtain ⟨p0, p1, p2⟩ := hp'
        subst p1
        have hz1 : z.cells = #[z] := by cases z <;> first | rfl | (exfalso; revert hone; simp [Value.oneCell'])
        have hcb : n ≤ n * (i.bytes : Int) := by
          have h3 : (1 : Int) ≤ (i.bytes : Int) := by omega
          have := Int.mul_le_mul_of_nonneg_left h3 (show 0 ≤ n by omega)
          omega
        have hrun := run_make (P := P) w t e i z hu hi hzi kn kc n n p0 (Int.le_refl _) (by rw [Int.mul_comm]; omega) (by omega)
        have hmade : (madeCells z.cells (n.toNat * i.size)).toList = flatRep [z] n.toNat := by
          have := madeCells_flat z.cells n.toNat
          rw [hz1] at this ⊢
          rw [hc1]
          simpa using this
        have hlen : (madeCells z.cells (n.toNat * i.size)).toList.length = n.toNat := by rw [hmade, flatRep_length]; simp
        obtain ⟨hm', hext⟩ := hm.alloc (c := madeCells z.cells (n.toNat * i.size)) (e := e) (blk := .vars e (List.replicate n.toNat .no)) hK hKn (fun ρ' H' w' he hh => by
          refine ⟨_, hh, ?_, ?_⟩
          · have := VRs_no (C := C) (ρ := ρ') (H := H') (w := w') (madeCells z.cells (n.toNat * i.size)).toList
            rw [hlen] at this
            exact this
          · intro v hv
            rw [hmade] at hv
            have := flatRep_mem hv
            simp at this
            subst this
            exact hone)
        refine val _ _ hrun (hnx _ _ _ hm' hext ?_ ((Below.refl _ _).alloc (Nat.le_refl _) _))
        have hkk : K ∈ Heap.keys ([(K, Bk.vars e (List.replicate n.toNat .no))] ++ H) := mem_keys (b := .vars e (List.replicate n.toNat .no)) (by simp)
        have := VR.sv (C := C) (ρ := upd ρ K w.heap.size) (H := [(K, Bk.vars e (List.replicate n.toNat .no))] ++ H) (w := w.alloc (.cells (madeCells z.cells (n.toNat * i.size)) e)) (n := n.toNat) hkk (by unfold lim; omega)
        rw [upd_same] at this
        exact this
    · cases h
  · cases h

theorem makeI_wp {next K : Nat} (hm : MRel C ρ H next w) (hK : K ∉ H.keys) (hKn : K < next) {t : TypeId} {n c : Int} {kn kc : IntKind} {r : AV} {new : Heap} {R : Value → World → Prop} {Z : Prop}
    (h : (makeI P K t n c).Leaf (r, new)) (val : ∀ v w', (Instr.makeSlice t (.int kn n) (.int kc c)).run P w = .ok v w' → R v w' → Z)
    (hnx : ∀ v ρ' w', MRel C ρ' (new ++ H) next w' → Ext C ρ H w ρ' (new ++ H) w' → VR C ρ' (new ++ H) w' r v → Below w.heap.size w w' → R v w') : Z := by
  unfold makeI at h
  split at h
  · rename_i e hu
    split at h
    · rename_i i _ hi
      exact makeV_wp hm hK hKn hu hi h val hnx
    · rename_i u zs i hty hz hi
      split at h
      · rename_i x hp
        split at h
        · rename_i hc
          simp only [Bool.and_eq_true] at hc
          obtain ⟨⟨hc1, hc2⟩, hc3⟩ := hc
          have hc1 := beq_true hc1
          have hc2 := beq_true hc2
          have hc3 := Nat.le_of_ble_eq_true hc3
          cases h with
          | need hp' h =>
            cases h
            obtain ⟨p0, p1, p2⟩ := hp'
            obtain ⟨z, hz1, hz2, hz3⟩ := zeroAVs_sound (C := C) (ρ := ρ) (H := H) (w := w) hz
            have hzi : i.zero = some z := by
              simp only [zeroValue, typeInfo, Sem.run_bind, run_program, Result.andThen_ok, hi, Sem.run_pure] at hz1
              cases hzz : i.zero with
              | none => rw [hzz] at hz1; simp at hz1
              | some z' => rw [hzz] at hz1; simp at hz1; rw [hz1]
            have hzl : z.cells.size = u.size := by have := hz2.length; simp at this; omega
            obtain ⟨c1, c2, e1, hl, h2⟩ := pack_sound _ _ _ _ _ hp hz2
            cases h2
            simp only [List.append_nil] at e1
            have hcb : c ≤ c * (i.bytes : Int) := by
              have h3 : (1 : Int) ≤ (i.bytes : Int) := by omega
              have := Int.mul_le_mul_of_nonneg_left h3 (show 0 ≤ c by omega)
              omega
            have hrun := run_make (P := P) w t e i z hu hi hzi kn kc n c p0 p1 (by rw [Int.mul_comm]; omega) (by omega)
            have hmade : (madeCells z.cells (c.toNat * i.size)).toList = flatRep z.cells.toList c.toNat := by
              rw [hc1, ← hzl]; exact madeCells_flat _ _
            have hmsz : (madeCells z.cells (c.toNat * i.size)).size = c.toNat * u.size := by rw [size_madeCells, hc1]
            have hle : n.toNat * u.size ≤ c.toNat * u.size := Nat.mul_le_mul_right _ (by omega)
            obtain ⟨hm', hext⟩ := hm.alloc (c := madeCells z.cells (c.toNat * i.size)) (e := e) (blk := .row e u (List.replicate n.toNat x)) hK hKn (fun ρ' H' w' he hh => by
              refine ⟨_, hh, by rw [List.length_replicate, hmsz]; exact hle, by rw [List.length_replicate]; unfold lim; omega, ?_, ?_⟩
              · rw [hmade, List.length_replicate]
                have : (flatRep z.cells.toList c.toNat).take (n.toNat * u.size) = flatRep z.cells.toList n.toNat := by
                  rw [← hzl]
                  have := flatRep_take z.cells.toList n.toNat c.toNat (by omega)
                  simpa using this
                rw [this, e1]
                exact RdL.replicate (Rd.mono he.data u x _ hl) _
              · intro v hv
                rw [hmade] at hv
                exact hz3 v (flatRep_mem hv))
            refine val _ _ hrun (hnx _ _ _ hm' hext ?_ ((Below.refl _ _).alloc (Nat.le_refl _) _))
            refine .own (e := e) (t := u) (l := List.replicate n.toNat x) (c := madeCells z.cells (c.toNat * i.size)) (fr := (0, 0)) (by simp) (by simp) (by omega) (by unfold maxLen; omega) ?_ (by rw [hmsz, Nat.zero_add]) (Or.inl ?_)
            · rw [upd_same]; show (w.heap.push _)[w.heap.size]? = _; simp
            · rw [upd_same]; simp
        · cases h
      · cases h
    · cases h
  · cases h

theorem rdl_bytes {ok : Nat → Prop} {w' : World} : ∀ l : List UInt8, RdL (Rd ok w' (.int .u8)) (bytesI l) (l.map fun b => Value.int .u8 (b.toNat : Int))
  | [] => rfl
  | b :: l => ⟨[.int .u8 (b.toNat : Int)], _, rfl, ⟨rfl, by show (0 : Int) ≤ ((b.toNat : Nat) : Int); omega, by show ((b.toNat : Nat) : Int) ≤ 255; have := b.toNat_lt; omega⟩, rdl_bytes l⟩

theorem rdV_bytes {ok : Nat → Prop} {w' : World} {l : List Int} {b o cap : Nat} {c : Array Value} {e : TypeId} {fr : Nat × Nat} (hok : ok b) (hb : w'.heap[b]? = some (.cells c e fr)) (hcap : l.length ≤ cap) (hlim : l.length ≤ lim)
    (hsz : o + l.length ≤ c.size) (hr : RdL (Rd ok w' (.int .u8)) l ((c.toList.drop o).take l.length)) : RdV ok w' (.sl (.int .u8)) l (.slice (some ⟨b, o, none⟩) l.length cap) := by
  refine ⟨_, ⟨_, cap, rfl, hcap, hlim, Or.inr ⟨b, o, c, e, fr, rfl, hok, hb, ?_, ?_⟩⟩, rfl⟩
  · show o + l.length * 1 ≤ c.size
    omega
  · show RdL (Rd ok w' (.int .u8)) l ((c.toList.drop o).take (l.length * 1))
    rw [Nat.mul_one]; exact hr

/-- '[]byte(s)': new memory. -/
theorem strBytes_wp {next : Nat} (hm : MRel C ρ H next w) {s d : TypeId} {l : List UInt8} {r : AV} {new : Heap} {R : Value → World → Prop} {Z : Prop} (hl : l.length ≤ lim)
    (h : (strBytes P s d l).Leaf (r, new)) (val : ∀ v w', (convert s d (.string ⟨⟨l⟩⟩)).run P w = .ok v w' → R v w' → Z)
    (hnx : ∀ v ρ' w', MRel C ρ' (new ++ H) next w' → Ext C ρ H w ρ' (new ++ H) w' → VR C ρ' (new ++ H) w' r v → Below w.heap.size w w' → R v w') : Z := by
  unfold strBytes at h
  split at h
  · rename_i e hs hd
    split at h
    · rename_i he
      cases h
      have hrun := run_bytes_of_string (P := P) w s d e ⟨⟨l⟩⟩ hs hd he
      have hsz0 : (⟨⟨l⟩⟩ : ByteArray).size = l.length := rfl
      rw [hsz0] at hrun
      have hB : ∃ B, bytesRow ⟨⟨l⟩⟩ (grownCap w l.length 0 e) = B ∧ B.toList.take l.length = (l.map fun b => Value.int .u8 (b.toNat : Int)) ∧ l.length ≤ B.size := ⟨_, rfl, by simp [bytesRow], by simp [bytesRow]⟩
      obtain ⟨B, hB1, hB2, hB3⟩ := hB
      rw [hB1] at hrun
      have hW : ∃ W, w.drew.alloc (.cells B e (B.size, B.size + 1)) = W := ⟨_, rfl⟩
      obtain ⟨W, hW⟩ := hW
      have hb : Below w.heap.size w W := by rw [← hW]; exact ((Below.refl _ _).drew).alloc (Nat.le_refl _) _
      have hheap : W.heap[w.heap.size]? = some (.cells B e (B.size, B.size + 1)) := by rw [← hW]; show (w.heap.push _)[w.heap.size]? = _; simp
      have hWs : w.heap.size < W.heap.size := by rw [← hW]; simp
      rw [hW] at hrun
      refine val _ _ hrun ?_
      obtain ⟨hm', hext⟩ := hm.grow hb
      refine hnx _ ρ _ hm' hext ?_ hb
      have hlen : (bytesI l).length = l.length := by simp [bytesI]
      have hge := grownCap_ge w l.length 0 e
      have := rdV_bytes (ok := Ok C ρ H W) (w' := W) (l := bytesI l) (b := w.heap.size) (o := 0) (cap := grownCap w l.length 0 e) (c := B) ⟨Or.inr hm.below.size, hWs, fun k hk => by have := hm.key_lt hk; omega⟩ hheap (by rw [hlen]; exact hge) (by rw [hlen]; exact hl) (by rw [hlen]; omega)
        (by rw [hlen, List.drop_zero, hB2]; exact rdl_bytes l)
      rw [hlen] at this
      exact .d this
    · cases h
  · cases h

theorem append_none {t ty e : TypeId} {i : TypeInfo} (hu : P.underlying t = some (.slice e)) (hi : P.info? e = some i) (b a : Option Addr) (sLen sCap cap : Nat) (h : sLen ≤ sCap) :
    (Builtin.append_ #[t, t] ty #[.slice b sLen sCap, .slice a 0 cap]).run P w = .ok (.slice b sLen sCap) w := by
  cases a <;> cases b <;> simp [Builtin.append_, run_underlying hu, sizeOf, typeInfo, hi, Builtin.lenOf, Builtin.firstCells, loadCells, loadCellsFrom, h, storeCells]

theorem zero_of {e : TypeId} {i : TypeInfo} {zs : List AV} (hi : P.info? e = some i) (hz : zeroAVs P e = some zs) : ∃ z, i.zero = some z ∧ z.cells.size = zs.length ∧ ∀ v ∈ z.cells.toList, v.oneCell' = true := by
  unfold zeroAVs at hz
  rw [hi] at hz
  simp only at hz
  split at hz
  · rename_i z hz'
    split at hz
    · rename_i ho
      injection hz with hz
      refine ⟨z, hz', ?_, allOne_sound ho⟩
      rw [← hz]
      have : ∀ l : List Value, (constAVs l).length = l.length := by
        intro l; induction l with
        | nil => rfl
        | cons v l ih => simp [constAVs, ih]
      rw [this]; simp
    · cases hz
  · cases hz

theorem zeroCells_one {z : Value} {n : Nat} (h : ∀ v ∈ z.cells.toList, v.oneCell' = true) : ∀ v ∈ (Builtin.zeroCells z.cells n).toList, v.oneCell' = true := by
  intro v hv
  have e : Builtin.zeroCells z.cells n = madeCells z.cells (n * z.cells.size) := rfl
  rw [e, madeCells_flat] at hv
  exact h v (flatRep_mem hv)

theorem appendNew_wp {next : Nat} (hm : MRel C ρ H next w) {t ty e : TypeId} {i : TypeInfo} {zs : List AV} {u : Ty} {xs : List u.T} {x : AV} {vx : Value} {r : AV} {new : Heap} {R : Value → World → Prop} {Z : Prop}
    (hu : P.underlying t = some (.slice e)) (hi : P.info? e = some i) (hz : zeroAVs P e = some zs) (hc1 : i.size = u.size) (hc3 : 1 ≤ i.bytes) (hx : toD (.sl u) x = some xs) (hvx : VR C ρ H w x vx)
    (h : (appendNew i.bytes u xs).Leaf (r, new)) (val : ∀ v w', (Builtin.append_ #[t, t] ty #[.slice none 0 0, vx]).run P w = .ok v w' → R v w' → Z)
    (hnx : ∀ v ρ' w', MRel C ρ' (new ++ H) next w' → Ext C ρ H w ρ' (new ++ H) w' → VR C ρ' (new ++ H) w' r v → Below w.heap.size w w' → R v w') : Z := by
  unfold appendNew at h
  cases h with
  | need hp h =>
    cases h
    obtain ⟨z, hz1, hz2, hz3⟩ := zero_of hi hz
    obtain ⟨a', cap', ev, h1, h2, h3⟩ := (toD_sound hx hvx).scalar rfl
    injection ev with ev _
    subst ev
    have fin0 : xs = [] → Z := by
      intro h0
      have hrun := append_none (P := P) (w := w) (ty := ty) hu hi none a' 0 0 cap' (Nat.le_refl _)
      refine val _ _ (by rw [show List.length xs = 0 by rw [h0]; rfl]; exact hrun) (hnx _ ρ w hm (Ext.refl _ _ _ _) ?_ (Below.refl _ _))
      exact .d (RdV.of_scalar rfl ⟨none, 0, by rw [h0]; rfl, by rw [h0]; exact Nat.le_refl _, h2, Or.inl h0⟩)
    rcases h3 with h3 | ⟨b, o, c, e', fr, ha, hok, hb, hs, hr⟩
    · exact fin0 h3
    · by_cases h0 : xs = []
      · exact fin0 h0
      have hpos : 0 < List.length xs := List.length_pos_iff.2 h0
      have hcl := RdL.length (fun x cs => Rd.length u x cs) _ _ hr
      have hmul : List.length xs * 1 ≤ List.length xs * i.bytes := Nat.mul_le_mul_left _ hc3
      subst ha
      have hrun := run_append_nil (P := P) w t ty e i z hu hi hz1 ⟨b, o, none⟩ (List.length xs) cap' ((c.toList.drop o).take (List.length xs * u.size)) (by rw [hcl, hc1]) (by
        intro j v hj
        have hlt : j < ((c.toList.drop o).take (List.length xs * u.size)).length := (List.getElem?_eq_some_iff.1 hj).1
        rw [add_mk]
        simp only [World.cell?, hb]
        rw [hcl] at hlt
        rw [List.getElem?_take, if_pos hlt, List.getElem?_drop, Array.getElem?_toList] at hj
        simpa using hj) hpos (by omega) (by omega)
      have hge := grownCap_ge w (List.length xs) 0 e
      have hB : ∃ B : Array Value, ((c.toList.drop o).take (List.length xs * u.size)).toArray ++ Builtin.zeroCells z.cells (grownCap w (List.length xs) 0 e - List.length xs) = B ∧ B.toList.take (List.length xs * u.size) = (c.toList.drop o).take (List.length xs * u.size) ∧ List.length xs * u.size ≤ B.size :=
        ⟨_, rfl, by simp only [Array.toList_append]; rw [List.take_append_of_le_length (by rw [hcl]; exact Nat.le_refl _), List.take_of_length_le (by rw [hcl]; exact Nat.le_refl _)],
          by rw [Array.size_append, List.size_toArray, hcl]; exact Nat.le_add_right _ _⟩
      obtain ⟨B, hB1, hB2, hB3⟩ := hB
      rw [hB1] at hrun
      have hW : ∃ W, w.drew.alloc (.cells B e) = W := ⟨_, rfl⟩
      obtain ⟨W, hW⟩ := hW
      have hbl : Below w.heap.size w W := by rw [← hW]; exact ((Below.refl _ _).drew).alloc (Nat.le_refl _) _
      have hheap : W.heap[w.heap.size]? = some (.cells B e) := by rw [← hW]; show (w.heap.push _)[w.heap.size]? = _; simp
      have hWs : w.heap.size < W.heap.size := by rw [← hW]; simp
      rw [hW] at hrun
      refine val _ _ hrun ?_
      obtain ⟨hm', hext⟩ := hm.grow hbl
      refine hnx _ ρ _ hm' hext (.d (RdV.of_scalar rfl ⟨_, _, rfl, hge, h2, Or.inr ⟨w.heap.size, 0, B, e, _, rfl, ⟨Or.inr hm.below.size, hWs, fun k hk => by have := hm.key_lt hk; omega⟩, hheap, by omega, ?_⟩⟩)) hbl
      rw [List.drop_zero, hB2]
      exact RdL.mono (fun x cs => Rd.mono (fun b hb => hext.data b hb) u x cs) _ _ hr

/-- What an operation that reads, makes a block or calls by contract leaves behind. -/
theorem evM_wp {H0 : Heap} (hsub : ∀ x ∈ H0, x ∈ H) {next K : Nat} (hm : MRel C ρ H next w) (hK : K ∉ H.keys) (hKn : K < next) {Γ : Cons} (hΓ : Γ.ok P G) (hG : G w)
    {a : Act} {arg : Operand → AV} (hv : ∀ x, VR C ρ H w (arg x) (a.eval x)) {o : Oper} {r : AV} {new : Heap} (h : (evM P Γ K H0 arg o).Leaf (r, new))
    {nx : Act → World → Prop} {Q : Exit → Act → World → Prop}
    (hnx : ∀ v ρ' w', MRel C ρ' (new ++ H) next w' → Ext C ρ H w ρ' (new ++ H) w' → VR C ρ' (new ++ H) w' r v → Below w.heap.size w w' → nx (a.put o.dst v) w') : o.wp P a w nx Q := by
  have val : ∀ v w', (execOp a.eval o).run P w = .ok (.value v) w' → nx (a.put o.dst v) w' → o.wp P a w nx Q := by
    intro v w' h1 h2
    unfold Oper.wp
    rw [h1]
    exact h2
  have pur : (evP P H0 arg o).Leaf r → new = [] → o.wp P a w nx Q := by
    intro h1 h2
    subst h2
    obtain ⟨v, h3, h4⟩ := evP_sound hsub hm h1 hv
    exact val v w h3 (hnx v ρ w hm (Ext.refl _ _ _ _) h4 (Below.refl _ _))
  unfold evM at h
  split at h
  · rename_i t x ho
    obtain ⟨r', h1, h2⟩ := T.Leaf.bind h
    cases h2
    obtain ⟨v, h3, h4⟩ := loadAV_sound hsub hm h1 (hv x)
    exact val v w (by simp [execOp, ho, h3]) (hnx v ρ w hm (Ext.refl _ _ _ _) h4 (Below.refl _ _))
  · rename_i e ho
    split at h
    · rename_i zs hz
      cases h
      obtain ⟨z, hz1, hz2, hz3⟩ := zeroAVs_sound (C := C) (ρ := ρ) (H := H) (w := w) hz
      obtain ⟨hm', hext⟩ := hm.alloc (c := z.cells) (e := e) (blk := .vars e zs) hK hKn (fun ρ' H' w' he hh => ⟨_, hh, hz2.imp (fun _ _ => he.vr), hz3⟩)
      refine val (.pointer (some ⟨w.heap.size, 0, none⟩)) (w.alloc (.cells z.cells e)) ?_ (hnx _ _ _ hm' hext ?_ ((Below.refl _ _).alloc (Nat.le_refl _) _))
      · simp [execOp, ho, Instr.alloc, hz1, newVar, newRow]
      · have := VR.ptr (C := C) (w := w.alloc (.cells z.cells e)) (ρ := upd ρ K w.heap.size) (H := (K, .vars e zs) :: H) (k := K) (off := 0) (by simp [Heap.keys])
        rw [upd_same] at this
        exact this
    · cases h
  · rename_i e x ho
    split at h
    · rename_i cells hc
      cases h
      obtain ⟨hc1, hc2⟩ := cellsOf_sound hc (hv x)
      obtain ⟨hm', hext⟩ := hm.alloc (c := (a.eval x).cells) (e := e) (blk := .vars e cells) hK hKn (fun ρ' H' w' he hh => ⟨_, hh, hc1.imp (fun _ _ => he.vr), hc2⟩)
      refine val (.pointer (some ⟨w.heap.size, 0, none⟩)) (w.alloc (.cells (a.eval x).cells e)) ?_ (hnx _ _ _ hm' hext ?_ ((Below.refl _ _).alloc (Nat.le_refl _) _))
      · simp [execOp, ho, Instr.box, newVar, newRow]
      · have := VR.ptr (C := C) (w := w.alloc (.cells (a.eval x).cells e)) (ρ := upd ρ K w.heap.size) (H := (K, .vars e cells) :: H) (k := K) (off := 0) (by simp [Heap.keys])
        rw [upd_same] at this
        exact this
    · cases h
  · rename_i t n ps ho
    split at h
    · rename_i e hu
      split at h
      · rename_i u zs m hty hz hs
        split at h
        · rename_i hc
          simp only [Bool.and_eq_true] at hc
          obtain ⟨⟨⟨hc1, hc2⟩, hc3⟩, hc4⟩ := hc
          have hc1 := beq_true hc1
          have hc2 := beq_true hc2
          have hc3 := Nat.le_of_ble_eq_true hc3
          have hc4 := Nat.le_of_ble_eq_true hc4
          subst hc1
          split at h
          · rename_i cells hf
            split at h
            · rename_i l hp
              obtain ⟨z, hz1, hz2, hz3⟩ := zeroAVs_sound (C := C) (ρ := ρ) (H := H) (w := w) hz
              have hzl : z.cells.size = u.size := by have := hz2.length; simp at this; omega
              obtain ⟨rs, hr1, hr2, hr3⟩ := fillAV_sound _ _ _ _ _ hf (hz2.rep n) (fun v hv => hz3 v (flatRep_mem hv)) (Parts.ofMap hv ps.toList)
              obtain ⟨c1, c2, e1, hl, h2⟩ := pack_sound _ _ _ _ _ hp hr2
              cases h2
              simp only [List.append_nil] at e1
              subst e1
              obtain ⟨hl1, hl2⟩ := hl
              have hlen := RdL.length (fun x cs => Rd.length u x cs) _ _ hl2
              rw [hl1] at hlen
              have hexec : (execOp a.eval o).run P w = .ok (.value (.slice (some ⟨w.heap.size, 0, none⟩) n n)) (w.alloc (.cells ⟨rs⟩ e)) := by
                have hmade : (Array.range (n * u.size)).map ((if n * u.size = 0 then #[] else z.cells)[· % (if n * u.size = 0 then #[] else z.cells).size]!) = ⟨flatRep z.cells.toList n⟩ := by
                  by_cases h0 : n * u.size = 0
                  · apply Array.ext'
                    have : flatRep z.cells.toList n = [] := List.eq_nil_of_length_eq_zero (by rw [flatRep_length]; simp [hzl, h0])
                    simp [h0, this]
                  · have := madeCells_flat z.cells n
                    rw [hzl] at this
                    simp only [h0, if_false]
                    apply Array.ext'
                    exact this
                have hfill : Instr.fill (fun i => some (i * u.size, u.size)) ⟨flatRep z.cells.toList n⟩ (ps.map fun x => (x.1, a.eval x.2)).toList = some ⟨rs⟩ := by
                  rw [← hr1]; simp
                simp only [execOp, ho, Instr.buildSlice, Sem.run_bind, run_underlying hu, sizeAt_run hs, Result.andThen_ok, Sem.run_ite]
                rw [if_neg (by omega)]
                simp only [Sem.run_pure, Result.andThen_ok]
                by_cases h0 : n * u.size = 0
                · simp only [h0, if_true] at hmade ⊢
                  rw [hmade, hfill]
                  rfl
                · simp only [h0, if_false, hz1, Result.andThen_ok] at hmade ⊢
                  rw [hmade, hfill]
                  rfl
              split at h
              · cases h
                have hb : Below w.heap.size w (w.alloc (.cells ⟨rs⟩ e)) := (Below.refl _ _).alloc (Nat.le_refl _) _
                obtain ⟨hm', hext⟩ := hm.grow hb
                have hll : List.length l = n := hl1
                refine val _ _ hexec (hnx _ ρ _ hm' hext ?_ hb)
                refine .d (RdV.of_scalar rfl ⟨some ⟨w.heap.size, 0, none⟩, n, by rw [hll], by rw [hll]; exact Nat.le_refl _, by rw [hll]; unfold lim; omega, Or.inr ⟨w.heap.size, 0, ⟨rs⟩, e, (0, 0), rfl, ⟨Or.inr hm.below.size, by simp, fun k hk => by have := hm.key_lt hk; omega⟩, ?_, ?_, ?_⟩⟩)
                · show (w.heap.push _)[w.heap.size]? = _; simp
                · show 0 + List.length l * u.size ≤ rs.length; rw [hll]; omega
                · show RdL _ l ((rs.drop 0).take (List.length l * u.size))
                  rw [hll, List.drop_zero, ← hlen, List.take_length]
                  exact RdL.mono (fun x cs => Rd.mono (fun b hb => hext.data b hb) u x cs) _ _ hl2
              split at h
              · cases h
                obtain ⟨hm', hext⟩ := hm.alloc (c := ⟨rs⟩) (e := e) (blk := .row e u l) hK hKn (fun ρ' H' w' he hh => ⟨_, hh, by show List.length l * _ ≤ rs.length; rw [hl1]; omega, by show List.length l ≤ lim; rw [hl1]; unfold lim; omega, by
                  show RdL _ l (rs.take (List.length l * u.size))
                  rw [hl1, ← hlen, List.take_length]
                  exact RdL.mono (fun x cs => Rd.mono he.data u x cs) _ _ hl2, hr3⟩)
                refine val _ _ hexec (hnx _ _ _ hm' hext ?_ ((Below.refl _ _).alloc (Nat.le_refl _) _))
                refine .own (e := e) (t := u) (l := l) (c := ⟨rs⟩) (fr := (0, 0)) (by simp) (by show 0 + n ≤ List.length l; rw [hl1]; omega) (Nat.le_refl _) (by unfold maxLen; omega) ?_ (by show (0 + n) * u.size = rs.length; rw [hlen, Nat.zero_add]) (Or.inl ?_)
                · rw [upd_same]; show (w.heap.push _)[w.heap.size]? = _; simp
                · rw [upd_same]; simp
              · cases h
                obtain ⟨hm', hext⟩ := hm.alloc (c := ⟨rs⟩) (e := e) (blk := .row e u l) hK hKn (fun ρ' H' w' he hh => ⟨_, hh, by show List.length l * _ ≤ rs.length; rw [hl1]; omega, by show List.length l ≤ lim; rw [hl1]; unfold lim; omega, by
                  show RdL _ l (rs.take (List.length l * u.size))
                  rw [hl1, ← hlen, List.take_length]
                  exact RdL.mono (fun x cs => Rd.mono he.data u x cs) _ _ hl2, hr3⟩)
                refine val _ _ hexec (hnx _ _ _ hm' hext ?_ ((Below.refl _ _).alloc (Nat.le_refl _) _))
                refine .ox (e := e) (t := u) (l := l) (c := ⟨rs⟩) (fr := (0, 0)) (by simp) (by show 0 + n ≤ List.length l; rw [hl1]; omega) (by unfold maxLen; omega) ?_ (by show (0 + n) * u.size = rs.length; rw [hlen, Nat.zero_add]) (Or.inl ?_)
                · rw [upd_same]; show (w.heap.push _)[w.heap.size]? = _; simp
                · rw [upd_same]; simp
            · cases h
          · cases h
        · cases h
      · cases h
    · cases h
  · rename_i s d x ho
    split at h
    · rename_i l hb hx
      have hvx := hv x
      rw [hx] at hvx
      obtain ⟨e1, hlim⟩ := str_value hvx
      exact strBytes_wp hm hlim h (fun v w' hrun hz => val v w' (by simp [execOp, ho, e1, hrun]) hz) hnx
    · obtain ⟨r', h1, h2⟩ := T.Leaf.bind h
      cases h2
      exact pur h1 rfl
  · rename_i t ho
    split at h
    · rename_i kt et hu
      split at h
      · rename_i k hk
        cases h
        obtain ⟨hm', hext⟩ := hm.allocO (ob := .map #[] 0) (blk := .dic k []) hK hKn (fun ρ' H' w' he hh => ⟨_, _, hh, trivial⟩)
        refine val (.map (some w.heap.size)) (w.alloc (.map #[] 0)) ?_ (hnx _ _ _ hm' hext ?_ ((Below.refl _ _).alloc (Nat.le_refl _) _))
        · simp only [execOp, ho]; rfl
        · have := VR.mp (C := C) (w := w.alloc (.map #[] 0)) (ρ := upd ρ K w.heap.size) (H := (K, .dic k []) :: H) (k := K) (by simp [Heap.keys])
          rw [upd_same] at this
          exact this
      · cases h
    · cases h
  · rename_i t n c ho
    have hn := hv n
    have hc := hv c
    split at h
    · rename_i kn n' hn'
      rw [hn'] at hn
      split at h
      · rename_i kc c' hc'
        rw [hc'] at hc
        obtain ⟨en, _⟩ := int_value hn
        obtain ⟨ec, _⟩ := int_value hc
        exact makeI_wp hm hK hKn (kn := kn) (kc := kc) h (fun v w' hrun hx => val v w' (by simp [execOp, ho, en, ec, hrun]) hx) hnx
      · cases h
    · cases h
  · rename_i f args ts ho
    split at h
    · rename_i g first caps hg
      split at h
      · rename_i c hc
        split at h
        · rename_i hns
          split at h
          · rename_i x hx
            cases h with
            | need hp h =>
              have hf := hv f
              rw [hg] at hf
              generalize hvf : a.eval f = vf at hf
              cases hf with
              | fn h1 h2 =>
                obtain ⟨he, hcon⟩ := Cons.find_ok hΓ hc
                obtain ⟨k1, k2⟩ := toArgs_sound hsub hm _ _ _ _ hx ((h1.append (VRs.ofMap hv args.toList)).append h2)
                unfold Oper.wp
                rw [call_run ho hvf he]
                show Calls P g _ w _
                have hlt : ∀ b, OkL C ρ H w b → b < w.heap.size := by
                  rintro b (hb | ⟨k, hk, e⟩)
                  · exact hb.2.1
                  · subst e; exact hm.key_lt hk
                by_cases hsl : noSl c.res = true
                · refine (hcon w (OkL C ρ H w) _ x hG hlt k1 hp).mono ?_
                  rintro e w' ⟨rs, rfl, hr, hb⟩
                  obtain ⟨hm', hext⟩ := hm.grow hb
                  obtain ⟨e0, h0⟩ := conRes_sound h (fun u y v hu hy => by
                    obtain ⟨cs, h5, h6⟩ := hy
                    exact ⟨cs, Rd.noSl _ _ _ (hu hsl) h5, h6⟩) hr
                  obtain rfl : new = [] := e0
                  exact hnx _ ρ w' hm' hext h0 hb
                · have hno : anyOwn (first ++ args.toList.map arg ++ caps) = false := by
                    cases hh : anyOwn (first ++ args.toList.map arg ++ caps) with
                    | false => rfl
                    | true => rw [hh] at hns; simp at hns; exact absurd hns hsl
                  refine (hcon w (Ok C ρ H w) _ x hG (fun b hb => hb.2.1) (k2 hno) hp).mono ?_
                  rintro e w' ⟨rs, rfl, hr, hb⟩
                  obtain ⟨hm', hext⟩ := hm.grow hb
                  obtain ⟨e0, h0⟩ := conRes_sound h (fun u y v _ hy => hy.mono (by
                    rintro b (hb' | ⟨hb1, hb2⟩)
                    · exact ⟨(hext.data b hb').1, rfl⟩
                    · exact ⟨⟨Or.inr (Nat.le_trans hm.below.size hb1), hb2, fun k hk e => by have := hm.key_lt hk; omega⟩, rfl⟩)) hr
                  obtain rfl : new = [] := e0
                  exact hnx _ ρ w' hm' hext h0 hb
          · cases h
        · cases h
      · cases h
    · cases h
  · rename_i args ts ho
    unfold appendE at h
    split at h
    case h_2 => cases h
    rename_i t t2 x hts hl
    split at h
    case h_2 => cases h
    rename_i htt
    have htt := beq_true htt
    subst htt
    split at h
    case h_2 => cases h
    rename_i e hu
    split at h
    case h_2 => cases h
    rename_i i hi
    split at h
    case h_2 => cases h
    rename_i u zs hty hz
    split at h
    case h_2 => cases h
    rename_i hc
    simp only [Bool.and_eq_true] at hc
    obtain ⟨⟨⟨hc1, hc2⟩, hc3⟩, hc4⟩ := hc
    split at h
    case h_2 => cases h
    rename_i xs hxs
    obtain ⟨y1, y2, hargs, hy1, hy2⟩ : ∃ y1 y2, args.toList = [y1, y2] ∧ arg y1 = .nsl ∧ arg y2 = x := by
      match hq : args.toList, hl with
      | [y1, y2], hl => simp at hl; exact ⟨y1, y2, rfl, hl.1, hl.2⟩
      | [], hl => simp at hl
      | [_], hl => simp at hl
      | _ :: _ :: _ :: _, hl => simp at hl
    have e1 : args.map a.eval = #[a.eval y1, a.eval y2] := by apply Array.ext'; simp [hargs]
    have e2 : ts = #[t, t] := by apply Array.ext'; simp [hts]
    have hv1 := hv y1
    rw [hy1] at hv1
    have ev1 : a.eval y1 = .slice none 0 0 := by generalize a.eval y1 = v at hv1; cases hv1; rfl
    have hv2 := hv y2
    rw [hy2] at hv2
    refine appendNew_wp (ty := o.type) hm hu hi hz (beq_true hc1) (Nat.le_of_ble_eq_true hc3) hxs hv2 h (fun v w' hrun hx => val v w' ?_ hx) hnx
    subst e2
    simp [execOp, ho, resolve, invoke, builtin, e1, ev1, hrun]
  · obtain ⟨r', h1, h2⟩ := T.Leaf.bind h
    cases h2
    exact pur h1 rfl
end
end Go.Vg
