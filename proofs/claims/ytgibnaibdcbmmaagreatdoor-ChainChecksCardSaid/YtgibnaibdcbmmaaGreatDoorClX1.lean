/-
  Contracts of library functions at this program. Own work, in part after the library of contracts; no condition.
-/
import Derived.Test.YtgibnaibdcbmmaaGreatDoorClS1
import Derived.Shelf.Strings.BuilderF
import Derived.Lib.FrozenHead2
import Derived.Lib.OthersKept
import Derived.WalkKit
import Derived.BigCall
import Derived.Test.YtgibnaibdcbmmaaGreatDoorLib
import Derived.LoopTactic
import Derived.Lib.AppendIntMem
import Derived.KernelRfl
set_option linter.unusedVariables false
set_option linter.unusedSimpArgs false
namespace Go.Vs
open Go Go.Vg Go.RowKit Go.Proofs
def Gt (w : World) : Prop := Lib.TabIs Tryz.prog w "internal/strconv.uint64pow10" .u64 Lib.pow10Tab ∧ ∃ tp p, w.var? Tryz.prog "strconv.ErrRange" = some #[.iface tp p]
theorem aCD {n : String} {g : Nat} (hg : Tryz.prog.globalNamed n = some g) {w w' : World} (hlt : ∀ cs, w.var? Tryz.prog n = some cs → g < w.heap.size) (hb : Below w.heap.size w w') {cs : Array Value} (h : w.var? Tryz.prog n = some cs) : w'.var? Tryz.prog n = some cs := by
 have hl := hlt cs h
 unfold World.var? at h ⊢
 rw [hg] at h ⊢
 simp only [xi] at h ⊢
 rw [hb.block g hl]
 exact h
theorem aKg {n : String} {g : Nat} (hg : Tryz.prog.globalNamed n = some g) {w : World} {cs : Array Value} (h : w.var? Tryz.prog n = some cs) : g < w.heap.size := by
 unfold World.var? at h
 rw [hg] at h
 simp only [xi] at h
 rcases zH g w.heap.size with h' | h'
 ·exact h'
 ·rw [yG h'] at h; cases h
theorem aOn : acS Gt := by
 intro w w' hb h
 obtain ⟨h1, tp, p, h2⟩ := h
 refine ⟨?_, tp, p, ?_⟩
 ·exact aCD (g := 4) (by kernel_rfl) (fun cs => aKg (by kernel_rfl)) hb h1
 ·exact aCD (g := 3) (by kernel_rfl) (fun cs => aKg (by kernel_rfl)) hb h2
theorem aOc : Tryz.prog.follows .mixedOrders = true := by kernel_rfl
theorem aL8 {f : FuncId} {A R : Ty} {F : A.T → Option R.T} (he : acL Tryz.prog f = true)
  (h : ∀ (w : World) (ok : Nat → Prop) (vs : List Value) (x : A.T) (y : R.T), Gt w → (∀ b, ok b → b < w.heap.size) → RdVs ok w A x vs → F x = some y →
   Calls Tryz.prog f ⟨vs⟩ w fun e w' => ∃ rs, e = .returned (aIZ rs) ∧ RdVs (aGO ok w w') w' R y rs ∧ Below w.heap.size w w') : (aMo A R F).ok Tryz.prog Gt f := by
 refine Con.ok_plain rfl ⟨he, fun w ok vs x hG hok hvs hp => ?_⟩
 obtain ⟨y, hy⟩ := yD.1 (show (F x).isSome = true from hp)
 have e : (aMo A R F).fn x = y := by show (F x).getD R.dflt = y; rw [hy]; rfl
 rw [e]
 exact h w ok vs x y hG hok hvs hy
theorem aHc : 1000000000000 ≤ lim := zd
structure OkC where
 f : FuncId
 c : Con
 h : c.ok Tryz.prog Gt f
def gOf : List OkC → Cons
 | [] => []
 | x :: r => (x.f, x.c) :: gOf r
theorem gOk : ∀ l : List OkC, (gOf l).ok Tryz.prog Gt
 | [] => trivial
 | x :: r => ⟨x.h, gOk r⟩
def okT (f : FuncId) (A R : Ty) (F : A.T → Option R.T) (Λ : LTab) (l : List OkC) {fn : Func} (hf : Tryz.prog.funcs[f]? = some fn) (t : A.T → TT R.T) (hF : ∀ x y, Wf A x → F x = some y → (t x).toO = some y)
  (hex : ∀ (x : A.T) (K : R.T → Prop), aLQ Tryz.prog Gt (gOf l) Λ 8 f fn A R x K = (t x).holds K := by intro x K; kernel_rfl)
  (hb : fn.body.isSome = true := by rfl) (he : acL Tryz.prog f = true := by kernel_rfl) (hn : ∀ x, Nat.ble (akA A x).length fn.ntmps = true := by exact fun _ => rfl) : OkC :=
 ⟨f, aMo A R F, aCi aOn aOc (gOk l) hf hb he A R Λ 8 hn t hex F hF⟩
abbrev P1 (a : Ty) : Ty := .pair a .unit
abbrev P2 (a b : Ty) : Ty := .pair a (P1 b)
abbrev P3 (a b c : Ty) : Ty := .pair a (P2 b c)
abbrev P4 (a b c d : Ty) : Ty := .pair a (P3 b c d)
abbrev tI : Ty := .int .i64
abbrev tL : Ty := .sl tI
abbrev tB : Ty := P2 tI tI
abbrev tS : Ty := .pair tI (.pair tI (P4 tI tI tI tI))
abbrev tC : Ty := P3 tI tL (.sl tS)
end Go.Vs
