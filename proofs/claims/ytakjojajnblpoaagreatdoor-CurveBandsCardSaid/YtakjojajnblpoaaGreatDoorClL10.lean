/-
  Trees of what the functions compute, and their laws. Own work; no condition.
-/
import Derived.Test.YtakjojajnblpoaaGreatDoorClL9
import Derived.Test.YtakjojajnblpoaaGreatDoorProg
set_option linter.unusedVariables false
set_option linter.unusedSimpArgs false
namespace Go.Vs
open Go Go.Vg
def aWo (b : List BeT) : Prop := b.length = 2 ∧ ∀ x ∈ b, inR x.1 0 255 ∧ inR x.2.1 0 255
theorem aRW {x : DrT × List BeT × BdT × List Int × Unit} (h : Wf (.pair (.pair (.int .u8) (.pair (.sl (.int .u16)) (.pair (.sl (.pair (.int .u8) (.pair (.int .i16) (.pair (.int .i16) (.pair (.int .i16) (.pair (.int .u8) (.pair (.int .u8) .unit))))))) (.pair .bool (.pair .bool .unit))))) (.pair (.arr 2 (.pair (.int .u8) (.pair (.int .u8) (.pair (.int .i64) .unit)))) (.pair (.pair (.int .i64) (.pair (.int .i64) .unit)) (.pair (.arr 2 (.int .i16)) .unit)))) x) :
  aVb x.1 ∧ aWo x.2.1 := by
 obtain ⟨⟨h1, ⟨-, h2⟩, ⟨-, h3⟩, -⟩, ⟨h4, h5⟩, -⟩ := h
 refine ⟨⟨aqA h1, fun v hv => aqA (h2 v hv), fun s hs => ?_⟩, h4, fun v hv => ?_⟩
 ·obtain ⟨a1, a2, a3, a4, a5, a6, -⟩ := h3 s hs
  exact ⟨aqA a1, aqA a2, aqA a3, aqA a4, aqA a5, aqA a6⟩
 ·obtain ⟨a1, a2, -⟩ := h5 v hv
  exact ⟨aqA a1, aqA a2⟩
theorem aTa {α : Type} {p : α → Prop} {a b c d : α} (h1 : p a) (h2 : p b) (h3 : p c) {i : Int} (h : 0 ≤ i) (g : i < 3) : p (gi [a, b, c] i d) := by
 obtain ⟨k, rfl⟩ : ∃ k : Nat, i = k := ⟨i.toNat, by omega⟩
 rw [aaL]
 match k, g with
 | 0, _ => exact h1
 | 1, _ => exact h2
 | 2, _ => exact h3
theorem aE5 {c : CvT} (h : shC c) (x : BdT) : alA (c, x, ()) = adY (c, x, ()) := if_pos h
theorem aBP (d : DrT) (b : List BeT) (raw : BdT) (at0 : List Int) (hp : aVb d ∧ aWo b) (y) (h : aoV (d, b, raw, at0, ()) = some y) : (ao1 d b raw at0).toO = some y := by
 injection h with h
 subst h
 obtain ⟨hd, hl, hb⟩ := hp
 obtain ⟨c0, c1, c2, h3, s0, s1, s2⟩ := aSd d hd b hl hb
 obtain ⟨p, q, rfl⟩ : ∃ p q, b = [p, q] := by
  match b, hl with
  | [p, q], _ => exact ⟨p, q, rfl⟩
 unfold ao1
 refine uC (true, ()) rfl (uF rfl (uV (uV (uV (uV (uC ([c0, c1, c2], ()) h3 (uO (0, ()) rfl ?_)))))))
 refine aaK (fun i : Int × Unit => 0 ≤ i.1 ∧ i.1 ≤ 3) (fun i => (3 - i.1).toNat) (fun _ => (true, ())) ?_ _ ⟨by decide, by decide⟩
 rintro ⟨i, u⟩ ⟨i1, i2⟩
 dsimp only at i1 i2
 unfold at5
 by_cases g : i < 3
 ·left
  refine ⟨(i + 1, ()), ?_, ⟨by dsimp only; omega, by dsimp only; omega⟩, by dsimp only; omega, rfl⟩
  refine uT (zo g) (uN ⟨i1, g⟩ (uO (0, ()) rfl ?_))
  refine aaK (fun j : Int × Unit => 0 ≤ j.1 ∧ j.1 ≤ 3) (fun j => (3 - j.1).toNat) (fun _ => Sum.inl (i + 1, ())) ?_ _ ⟨by decide, by decide⟩
  rintro ⟨j, v⟩ ⟨j1, j2⟩
  dsimp only at j1 j2
  have hs : shC (gi [c0, c1, c2] i (0, [], [], ())) := aTa s0 s1 s2 i1 g
  unfold at4
  by_cases k : j < 3
  ·left
   refine ⟨(j + 1, ()), ?_, ⟨by dsimp only; omega, by dsimp only; omega⟩, by dsimp only; omega, rfl⟩
   have e := aE5 hs (bY at0 raw j)
   obtain ⟨r, hr⟩ : ∃ r, adY (gi [c0, c1, c2] i (0, [], [], ()), bY at0 raw j, ()) = some r := ⟨_, rfl⟩
   rw [hr] at e
   refine uT (zo k) (uN ⟨j1, k⟩ (uC r hr (uC r e (uF zi (uF zi (uV (uB (uV (uV ?_)))))))))
   show some (Sum.inl (w64 (j + 1), ())) = _
   rw [aaA zc]
  ·right
   refine uF (zn k) (uV (uB (uV (uV ?_))))
   show some (Sum.inr (Sum.inl (w64 (i + 1), ()))) = _
   rw [aaA zc]
 ·right
  exact uF (zn g) rfl
set_option maxRecDepth 100000
open Go Go.Vg Go.Proofs
noncomputable section
def aOj : LTab := []
def aOk : LTab := [(233, 12, 1025, ⟨0, (List Int) × Unit, .dat (.s 0) tj <| .nil, [2], [], 0⟩)]
def aFn : LTab := [(266, 58, 10240, ⟨0, (Int) × Unit, .dat (.s 5) uq <| .nil, [0, 1], [], 0⟩)]
def aOm : LTab := [(248, 3, 1025, ⟨0, (List Int) × (List Int) × Unit, .dat (.s 0) tj <| .dat (.s 1) tj <| .nil, [4], [], 0⟩), (248, 250, 10241, ⟨1, (Int) × (Int) × (List Int) × Unit, .dat (.s 22) uq <| .dat (.s 6) uy <| .app (.s 5) 10 189 uy <| .nil, [21, 20, 1, 4], [], 1⟩)]
def aLK : LTab := [(249, 122, 9217, ⟨0, (Int) × (Int) × (List Int) × Unit, .dat (.s 15) uq <| .dat (.s 6) uy <| .row 3 uy <| .nil, [14, 13, 5, 4, 1], [3], 0⟩)]
def aLH : LTab := [(257, 58, 11265, ⟨0, (Int) × (List Int) × Unit, .dat (.s 19) uq <| .row 6 uy <| .nil, [18, 17, 5, 4, 1], [6], 0⟩), (257, 59802, 21505, ⟨1, (Int) × (Int) × (List Int) × Unit, .dat (.s 26) uq <| .dat (.s 8) uX <| .row 6 uy <| .nil, [25, 24, 7, 6, 23, 22, 21, 20, 19, 18, 17, 5, 4, 1], [6], 0⟩)]
def aLI : LTab := [(267, 122, 11265, ⟨0, (Int) × (Int) × (List Int) × Unit, .dat (.s 8) uq <| .dat (.s 7) uX <| .row 4 uy <| .nil, [6, 5, 4, 0, 1], [4], 0⟩)]
def aDw : LTab := [(268, 28, 2050, ⟨0, Bool × (List Int) × (Int) × Unit, .appN (.s 3) 2 189 uy <| .dat (.s 0) uX <| .nil, [2], [], 1⟩)]
def aLO : LTab := [(205, 218, 5122, ⟨0, (Int) × Bool × (List Int) × Unit, .dat (.s 4) uq <| .appN (.s 3) 5 189 uy <| .nil, [2, 0], [], 1⟩), (205, 55834, 13314, ⟨1, (Int) × (Int) × Unit, .dat (.s 7) uq <| .dat (.s 6) uy <| .nil, [15, 5, 14, 13, 12, 3, 4, 2, 0], [], 0⟩), (205, 55834, 13313, ⟨2, (Int) × (Int) × Unit, .dat (.s 7) uq <| .dat (.s 6) uy <| .nil, [15, 5, 14, 13, 12, 3, 4, 2, 0], [5], 0⟩)]
def aH7 : LTab := []
end
end Go.Vs
