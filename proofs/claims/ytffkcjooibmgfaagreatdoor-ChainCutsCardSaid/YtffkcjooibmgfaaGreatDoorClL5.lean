/-
  Trees of what the functions compute, and their laws. Own work; no condition.
-/
import Derived.Test.YtffkcjooibmgfaaGreatDoorClL4
import Derived.Test.YtffkcjooibmgfaaGreatDoorProg
set_option linter.unusedVariables false
set_option linter.unusedSimpArgs false
set_option maxRecDepth 100000
set_option maxHeartbeats 0
namespace Go.Vs
open Go Go.Vg Go.Proofs
noncomputable section
def at7 : LTab := [(23, 7, 9228, ⟨0, Int × Int × Unit, .alt (.s 1) [1, 2, 3, 4] <| .alt (.s 6) [1, 2, 3] <| .nil, [5, 4, 2], [8, 1, 0], 0⟩), (23, 1962, 888888888, uS), (23, 7866, 888888888, uS), (23, 2013770, 888888888, uS), (23, 251866, 888888888, uS)]
def acC (d : DeT) : TT (ElT × Unit) :=
 .triv ((2 + 1) * 1 ≤ 140737488355328) zd <| .ite (decide (w64 (w64 (w64 (0 + 1) + 1) + 1) < len d.2.2.2.2.2.1.1))
 (.triv ((3 + 1) * 1 ≤ 140737488355328) zd <| .call (aaG ((grD d), List.take 4 (List.take 3 (List.take 2 ([0] ++ [0]) ++ [0]) ++ [0]), 1, ())) Dz6 fun y82 =>
 .ok ((xG d y82.1, ())))
 (.triv ((3 + 1) * 1 ≤ 140737488355328) zd <| .call (aaG ((grD d), List.take 4 (List.take 3 (List.take 2 ([0] ++ [0]) ++ [0]) ++ [0]), 1, ())) Dz6 fun y83 =>
 .ok ((xG d y83.1, ())))
def acB (d : DeT) : TT (ElT × Unit) :=
 .triv ((2 + 1) * 1 ≤ 140737488355328) zd <| .ite (decide (w64 (w64 (w64 (0 + 1) + 1) + 1) < len d.2.2.2.2.2.1.1))
 (.triv ((3 + 1) * 1 ≤ 140737488355328) zd <| .call (aaG ((grD d), List.take 4 (List.take 3 (List.take 2 ([0] ++ [0]) ++ [0]) ++ [0]), 2, ())) Dz6 fun y104 =>
 .ok ((xG d y104.1, ())))
 (.triv ((3 + 1) * 1 ≤ 140737488355328) zd <| .call (aaG ((grD d), List.take 4 (List.take 3 (List.take 2 ([0] ++ [0]) ++ [0]) ++ [0]), 2, ())) Dz6 fun y105 =>
 .ok ((xG d y105.1, ())))
def acA (d : DeT) : TT (ElT × Unit) :=
 .triv ((2 + 1) * 1 ≤ 140737488355328) zd <| .ite (decide (w64 (w64 (w64 (0 + 1) + 1) + 1) < len d.2.2.2.2.2.1.1))
 (.triv ((3 + 1) * 1 ≤ 140737488355328) zd <| .call (aaG ((grD d), List.take 4 (List.take 3 (List.take 2 ([0] ++ [0]) ++ [0]) ++ [0]), 3, ())) Dz6 fun y126 =>
 .ok ((xG d y126.1, ())))
 (.triv ((3 + 1) * 1 ≤ 140737488355328) zd <| .call (aaG ((grD d), List.take 4 (List.take 3 (List.take 2 ([0] ++ [0]) ++ [0]) ++ [0]), 3, ())) Dz6 fun y127 =>
 .ok ((xG d y127.1, ())))
def aeC (d : DeT) : TT (ElT × Unit) :=
 .triv (1 * 1 ≤ 140737488355328) zd <| .ite (decide (w64 (0 + 1) < len d.2.2.2.2.2.1.1))
 (.triv ((1 + 1) * 1 ≤ 140737488355328) zd <| .ite (decide (w64 (w64 (0 + 1) + 1) < len d.2.2.2.2.2.1.1))
 (acC d)
 (acC d))
 (.triv ((1 + 1) * 1 ≤ 140737488355328) zd <| .ite (decide (w64 (w64 (0 + 1) + 1) < len d.2.2.2.2.2.1.1))
 (acC d)
 (acC d))
def aeB (d : DeT) : TT (ElT × Unit) :=
 .triv (1 * 1 ≤ 140737488355328) zd <| .ite (decide (w64 (0 + 1) < len d.2.2.2.2.2.1.1))
 (.triv ((1 + 1) * 1 ≤ 140737488355328) zd <| .ite (decide (w64 (w64 (0 + 1) + 1) < len d.2.2.2.2.2.1.1))
 (acB d)
 (acB d))
 (.triv ((1 + 1) * 1 ≤ 140737488355328) zd <| .ite (decide (w64 (w64 (0 + 1) + 1) < len d.2.2.2.2.2.1.1))
 (acB d)
 (acB d))
def aeA (d : DeT) : TT (ElT × Unit) :=
 .triv (1 * 1 ≤ 140737488355328) zd <| .ite (decide (w64 (0 + 1) < len d.2.2.2.2.2.1.1))
 (.triv ((1 + 1) * 1 ≤ 140737488355328) zd <| .ite (decide (w64 (w64 (0 + 1) + 1) < len d.2.2.2.2.2.1.1))
 (acA d)
 (acA d))
 (.triv ((1 + 1) * 1 ≤ 140737488355328) zd <| .ite (decide (w64 (w64 (0 + 1) + 1) < len d.2.2.2.2.2.1.1))
 (acA d)
 (acA d))
def aj4 (d : DeT) (ins : Int) (j : Int × Int × Unit) : TT (ElT × Unit) :=
 .ite (j.1 == 1)
 (.ite (j.2.1 == 1)
  (.ite (kD d == 1)
   (.t4 <| .call (aaI ((cD (List.headD d.2.2.1 c0D)), ())) Dz7 fun y =>
    .need (1 * 56 ≤ 140737488355328) <| .ok (((kD d, [rV y.1], [], [], ([], 0, [], ()), [], 0, 0, ()), ())))
   (.ite (kD d == 2)
    (.t4 <| .t4 <| .need (1 * 8 ≤ 140737488355328) <| .need (1 * 24 ≤ 140737488355328) <| .t4 <| .need (1 * 8 ≤ 140737488355328) <| .ok (((kD d, [], [[mD (abM d.2.2.2.1)]], [oD d.2.2.2.2.1], ([], 0, [], ()), [], 0, 0, ()), ())))
    (.ite (kD d == 3)
     (.ite (decide (0 < len d.2.2.2.2.2.1.1))
      (.need (asT Int 0 ≤ 0 ∧ 0 < len d.2.2.2.2.2.1.1) <| .need (1 * 1 ≤ 140737488355328) <| .call (aaG ((grD d), [gi d.2.2.2.2.2.1.1 0 0], 1, ())) Dz6 fun y1 =>
       .ok ((xG d y1.1, ())))
      (.triv (1 * 1 ≤ 140737488355328) zd <| .call (aaG ((grD d), [0], 1, ())) Dz6 fun y2 =>
       .ok ((xG d y2.1, ()))))
     (.call (aaU ((pgD 1 d), ())) Dz8 fun y3 =>
      .call (aaS ((pgD 1 d), ())) Dz3 fun y4 =>
      .ok ((xP d y3.1 1 y4.1, ()))))))
  (.ite (j.2.1 == 2)
   (.ite (kD d == 1)
    (.t4 <| .call (aaI ((cD (List.headD d.2.2.1 c0D)), ())) Dz7 fun y5 =>
     .need (1 * 56 ≤ 140737488355328) <| .ok (((kD d, [rV y5.1], [], [], ([], 0, [], ()), [], 0, 0, ()), ())))
    (.ite (kD d == 2)
     (.t4 <| .t4 <| .need (1 * 8 ≤ 140737488355328) <| .need (1 * 24 ≤ 140737488355328) <| .t4 <| .need (1 * 8 ≤ 140737488355328) <| .triv (inb (w64 (0 + 1)) (↑4 : Int)) zd <| .t4 <| .need (1 * 8 ≤ 140737488355328) <| .need ((1 + 1) * 24 ≤ 140737488355328) <| .triv (inb (w64 (0 + 1)) (↑4 : Int)) zd <| .need ((1 + 1) * 8 ≤ 140737488355328) <| .ok (((kD d, [], List.take 2 ([[mD (abM d.2.2.2.1)]] ++ [[mD (abM (List.tail d.2.2.2.1))]]), List.take 2 ([oD d.2.2.2.2.1] ++ [oD (List.tail d.2.2.2.2.1)]), ([], 0, [], ()), [], 0, 0, ()), ())))
     (.ite (kD d == 3)
      (.ite (decide (0 < len d.2.2.2.2.2.1.1))
       (.need (asT Int 0 ≤ 0 ∧ 0 < len d.2.2.2.2.2.1.1) <| .need (1 * 1 ≤ 140737488355328) <| .call (aaG ((grD d), [gi d.2.2.2.2.2.1.1 0 0], 2, ())) Dz6 fun y6 =>
        .ok ((xG d y6.1, ())))
       (.triv (1 * 1 ≤ 140737488355328) zd <| .call (aaG ((grD d), [0], 2, ())) Dz6 fun y7 =>
        .ok ((xG d y7.1, ()))))
      (.call (aaU ((pgD 1 d), ())) Dz8 fun y8 =>
       .call (aaS ((pgD 1 d), ())) Dz3 fun y9 =>
       .ok ((xP d y8.1 1 y9.1, ()))))))
   (.ite (j.2.1 == 3)
    (.ite (kD d == 1)
     (.t4 <| .call (aaI ((cD (List.headD d.2.2.1 c0D)), ())) Dz7 fun y10 =>
      .need (1 * 56 ≤ 140737488355328) <| .ok (((kD d, [rV y10.1], [], [], ([], 0, [], ()), [], 0, 0, ()), ())))
     (.ite (kD d == 2)
      (.t4 <| .t4 <| .need (1 * 8 ≤ 140737488355328) <| .need (1 * 24 ≤ 140737488355328) <| .t4 <| .need (1 * 8 ≤ 140737488355328) <| .triv (inb (w64 (0 + 1)) (↑4 : Int)) zd <| .t4 <| .need (1 * 8 ≤ 140737488355328) <| .need ((1 + 1) * 24 ≤ 140737488355328) <| .triv (inb (w64 (0 + 1)) (↑4 : Int)) zd <| .need ((1 + 1) * 8 ≤ 140737488355328) <| .triv (inb (w64 (w64 (0 + 1) + 1)) (↑4 : Int)) zd <| .t4 <| .need (1 * 8 ≤ 140737488355328) <| .need ((2 + 1) * 24 ≤ 140737488355328) <| .triv (inb (w64 (w64 (0 + 1) + 1)) (↑4 : Int)) zd <| .need ((2 + 1) * 8 ≤ 140737488355328) <| .ok (((kD d, [], List.take 3 (List.take 2 ([[mD (abM d.2.2.2.1)]] ++ [[mD (abM (List.tail d.2.2.2.1))]]) ++ [[mD (abM (List.tail (List.tail d.2.2.2.1)))]]), List.take 3 (List.take 2 ([oD d.2.2.2.2.1] ++ [oD (List.tail d.2.2.2.2.1)]) ++ [oD (List.tail (List.tail d.2.2.2.2.1))]), ([], 0, [], ()), [], 0, 0, ()), ())))
      (.ite (kD d == 3)
       (.ite (decide (0 < len d.2.2.2.2.2.1.1))
        (.need (asT Int 0 ≤ 0 ∧ 0 < len d.2.2.2.2.2.1.1) <| .need (1 * 1 ≤ 140737488355328) <| .call (aaG ((grD d), [gi d.2.2.2.2.2.1.1 0 0], 3, ())) Dz6 fun y11 =>
         .ok ((xG d y11.1, ())))
        (.triv (1 * 1 ≤ 140737488355328) zd <| .call (aaG ((grD d), [0], 3, ())) Dz6 fun y12 =>
         .ok ((xG d y12.1, ()))))
       (.call (aaU ((pgD 1 d), ())) Dz8 fun y13 =>
        .call (aaS ((pgD 1 d), ())) Dz3 fun y14 =>
        .ok ((xP d y13.1 1 y14.1, ()))))))
    (.bad))))
 (.ite (j.1 == 2)
  (.ite (j.2.1 == 1)
   (.ite (kD d == 1)
    (.t4 <| .call (aaI ((cD (List.headD d.2.2.1 c0D)), ())) Dz7 fun y15 =>
     .need (1 * 56 ≤ 140737488355328) <| .triv (inb (w64 (0 + 1)) (↑4 : Int)) zd <| .call (aaI ((cD (List.headD (List.tail d.2.2.1) c0D)), ())) Dz7 fun y16 =>
     .need ((1 + 1) * 56 ≤ 140737488355328) <| .ok (((kD d, List.take 2 ([rV y15.1] ++ [rV y16.1]), [], [], ([], 0, [], ()), [], 0, 0, ()), ())))
    (.ite (kD d == 2)
     (.t4 <| .t4 <| .need (1 * 8 ≤ 140737488355328) <| .t4 <| .triv (inb (w64 (0 + 1)) (↑4 : Int)) zd <| .need ((1 + 1) * 8 ≤ 140737488355328) <| .need (1 * 24 ≤ 140737488355328) <| .t4 <| .need (1 * 8 ≤ 140737488355328) <| .ok (((kD d, [], [List.take 2 ([mD (abM d.2.2.2.1)] ++ [mD (List.tail (abM d.2.2.2.1))])], [oD d.2.2.2.2.1], ([], 0, [], ()), [], 0, 0, ()), ())))
     (.ite (kD d == 3)
      (.ite (decide (0 < len d.2.2.2.2.2.1.1))
       (.need (asT Int 0 ≤ 0 ∧ 0 < len d.2.2.2.2.2.1.1) <| .need (1 * 1 ≤ 140737488355328) <| .ite (decide (w64 (0 + 1) < len d.2.2.2.2.2.1.1))
        (.need (inb (w64 (0 + 1)) (len d.2.2.2.2.2.1.1)) <| .need ((1 + 1) * 1 ≤ 140737488355328) <| .call (aaG ((grD d), List.take 2 ([gi d.2.2.2.2.2.1.1 0 0] ++ [gi d.2.2.2.2.2.1.1 (w64 (0 + 1)) 0]), 1, ())) Dz6 fun y17 =>
         .ok ((xG d y17.1, ())))
        (.triv ((1 + 1) * 1 ≤ 140737488355328) zd <| .call (aaG ((grD d), List.take 2 ([gi d.2.2.2.2.2.1.1 0 0] ++ [0]), 1, ())) Dz6 fun y18 =>
         .ok ((xG d y18.1, ()))))
       (.triv (1 * 1 ≤ 140737488355328) zd <| .ite (decide (w64 (0 + 1) < len d.2.2.2.2.2.1.1))
        (.need (inb (w64 (0 + 1)) (len d.2.2.2.2.2.1.1)) <| .need ((1 + 1) * 1 ≤ 140737488355328) <| .call (aaG ((grD d), List.take 2 ([0] ++ [gi d.2.2.2.2.2.1.1 (w64 (0 + 1)) 0]), 1, ())) Dz6 fun y19 =>
         .ok ((xG d y19.1, ())))
        (.triv ((1 + 1) * 1 ≤ 140737488355328) zd <| .call (aaG ((grD d), List.take 2 ([0] ++ [0]), 1, ())) Dz6 fun y20 =>
         .ok ((xG d y20.1, ())))))
      (.call (aaU ((pgD 2 d), ())) Dz8 fun y21 =>
       .call (aaS ((pgD 2 d), ())) Dz3 fun y22 =>
       .ok ((xP d y21.1 2 y22.1, ()))))))
   (.ite (j.2.1 == 2)
    (.ite (kD d == 1)
     (.t4 <| .call (aaI ((cD (List.headD d.2.2.1 c0D)), ())) Dz7 fun y23 =>
      .need (1 * 56 ≤ 140737488355328) <| .triv (inb (w64 (0 + 1)) (↑4 : Int)) zd <| .call (aaI ((cD (List.headD (List.tail d.2.2.1) c0D)), ())) Dz7 fun y24 =>
      .need ((1 + 1) * 56 ≤ 140737488355328) <| .ok (((kD d, List.take 2 ([rV y23.1] ++ [rV y24.1]), [], [], ([], 0, [], ()), [], 0, 0, ()), ())))
     (.ite (kD d == 2)
      (.t4 <| .t4 <| .need (1 * 8 ≤ 140737488355328) <| .t4 <| .triv (inb (w64 (0 + 1)) (↑4 : Int)) zd <| .need ((1 + 1) * 8 ≤ 140737488355328) <| .need (1 * 24 ≤ 140737488355328) <| .t4 <| .need (1 * 8 ≤ 140737488355328) <| .triv (inb (w64 (0 + 1)) (↑4 : Int)) zd <| .t4 <| .need (1 * 8 ≤ 140737488355328) <| .triv (inb (w64 (0 + 1)) (↑4 : Int)) zd <| .triv (inb (w64 (0 + 1)) (↑4 : Int)) zd <| .need ((1 + 1) * 8 ≤ 140737488355328) <| .need ((1 + 1) * 24 ≤ 140737488355328) <| .triv (inb (w64 (0 + 1)) (↑4 : Int)) zd <| .need ((1 + 1) * 8 ≤ 140737488355328) <| .ok (((kD d, [], List.take 2 ([List.take 2 ([mD (abM d.2.2.2.1)] ++ [mD (List.tail (abM d.2.2.2.1))])] ++ [List.take 2 ([mD (abM (List.tail d.2.2.2.1))] ++ [mD (List.tail (abM (List.tail d.2.2.2.1)))])]), List.take 2 ([oD d.2.2.2.2.1] ++ [oD (List.tail d.2.2.2.2.1)]), ([], 0, [], ()), [], 0, 0, ()), ())))
      (.ite (kD d == 3)
       (.ite (decide (0 < len d.2.2.2.2.2.1.1))
        (.need (asT Int 0 ≤ 0 ∧ 0 < len d.2.2.2.2.2.1.1) <| .need (1 * 1 ≤ 140737488355328) <| .ite (decide (w64 (0 + 1) < len d.2.2.2.2.2.1.1))
         (.need (inb (w64 (0 + 1)) (len d.2.2.2.2.2.1.1)) <| .need ((1 + 1) * 1 ≤ 140737488355328) <| .call (aaG ((grD d), List.take 2 ([gi d.2.2.2.2.2.1.1 0 0] ++ [gi d.2.2.2.2.2.1.1 (w64 (0 + 1)) 0]), 2, ())) Dz6 fun y25 =>
          .ok ((xG d y25.1, ())))
         (.triv ((1 + 1) * 1 ≤ 140737488355328) zd <| .call (aaG ((grD d), List.take 2 ([gi d.2.2.2.2.2.1.1 0 0] ++ [0]), 2, ())) Dz6 fun y26 =>
          .ok ((xG d y26.1, ()))))
        (.triv (1 * 1 ≤ 140737488355328) zd <| .ite (decide (w64 (0 + 1) < len d.2.2.2.2.2.1.1))
         (.need (inb (w64 (0 + 1)) (len d.2.2.2.2.2.1.1)) <| .need ((1 + 1) * 1 ≤ 140737488355328) <| .call (aaG ((grD d), List.take 2 ([0] ++ [gi d.2.2.2.2.2.1.1 (w64 (0 + 1)) 0]), 2, ())) Dz6 fun y27 =>
          .ok ((xG d y27.1, ())))
         (.triv ((1 + 1) * 1 ≤ 140737488355328) zd <| .call (aaG ((grD d), List.take 2 ([0] ++ [0]), 2, ())) Dz6 fun y28 =>
          .ok ((xG d y28.1, ())))))
       (.call (aaU ((pgD 2 d), ())) Dz8 fun y29 =>
        .call (aaS ((pgD 2 d), ())) Dz3 fun y30 =>
        .ok ((xP d y29.1 2 y30.1, ()))))))
    (.ite (j.2.1 == 3)
     (.ite (kD d == 1)
      (.t4 <| .call (aaI ((cD (List.headD d.2.2.1 c0D)), ())) Dz7 fun y31 =>
       .need (1 * 56 ≤ 140737488355328) <| .triv (inb (w64 (0 + 1)) (↑4 : Int)) zd <| .call (aaI ((cD (List.headD (List.tail d.2.2.1) c0D)), ())) Dz7 fun y32 =>
       .need ((1 + 1) * 56 ≤ 140737488355328) <| .ok (((kD d, List.take 2 ([rV y31.1] ++ [rV y32.1]), [], [], ([], 0, [], ()), [], 0, 0, ()), ())))
      (.ite (kD d == 2)
       (.t4 <| .t4 <| .need (1 * 8 ≤ 140737488355328) <| .t4 <| .triv (inb (w64 (0 + 1)) (↑4 : Int)) zd <| .need ((1 + 1) * 8 ≤ 140737488355328) <| .need (1 * 24 ≤ 140737488355328) <| .t4 <| .need (1 * 8 ≤ 140737488355328) <| .triv (inb (w64 (0 + 1)) (↑4 : Int)) zd <| .t4 <| .need (1 * 8 ≤ 140737488355328) <| .triv (inb (w64 (0 + 1)) (↑4 : Int)) zd <| .triv (inb (w64 (0 + 1)) (↑4 : Int)) zd <| .need ((1 + 1) * 8 ≤ 140737488355328) <| .need ((1 + 1) * 24 ≤ 140737488355328) <| .triv (inb (w64 (0 + 1)) (↑4 : Int)) zd <| .need ((1 + 1) * 8 ≤ 140737488355328) <| .triv (inb (w64 (w64 (0 + 1) + 1)) (↑4 : Int)) zd <| .t4 <| .need (1 * 8 ≤ 140737488355328) <| .triv (inb (w64 (w64 (0 + 1) + 1)) (↑4 : Int)) zd <| .triv (inb (w64 (0 + 1)) (↑4 : Int)) zd <| .need ((1 + 1) * 8 ≤ 140737488355328) <| .need ((2 + 1) * 24 ≤ 140737488355328) <| .triv (inb (w64 (w64 (0 + 1) + 1)) (↑4 : Int)) zd <| .need ((2 + 1) * 8 ≤ 140737488355328) <| .ok (((kD d, [], List.take 3 (List.take 2 ([List.take 2 ([mD (abM d.2.2.2.1)] ++ [mD (List.tail (abM d.2.2.2.1))])] ++ [List.take 2 ([mD (abM (List.tail d.2.2.2.1))] ++ [mD (List.tail (abM (List.tail d.2.2.2.1)))])]) ++ [List.take 2 ([mD (abM (List.tail (List.tail d.2.2.2.1)))] ++ [mD (List.tail (abM (List.tail (List.tail d.2.2.2.1))))])]), List.take 3 (List.take 2 ([oD d.2.2.2.2.1] ++ [oD (List.tail d.2.2.2.2.1)]) ++ [oD (List.tail (List.tail d.2.2.2.2.1))]), ([], 0, [], ()), [], 0, 0, ()), ())))
       (.ite (kD d == 3)
        (.ite (decide (0 < len d.2.2.2.2.2.1.1))
         (.need (asT Int 0 ≤ 0 ∧ 0 < len d.2.2.2.2.2.1.1) <| .need (1 * 1 ≤ 140737488355328) <| .ite (decide (w64 (0 + 1) < len d.2.2.2.2.2.1.1))
          (.need (inb (w64 (0 + 1)) (len d.2.2.2.2.2.1.1)) <| .need ((1 + 1) * 1 ≤ 140737488355328) <| .call (aaG ((grD d), List.take 2 ([gi d.2.2.2.2.2.1.1 0 0] ++ [gi d.2.2.2.2.2.1.1 (w64 (0 + 1)) 0]), 3, ())) Dz6 fun y33 =>
           .ok ((xG d y33.1, ())))
          (.triv ((1 + 1) * 1 ≤ 140737488355328) zd <| .call (aaG ((grD d), List.take 2 ([gi d.2.2.2.2.2.1.1 0 0] ++ [0]), 3, ())) Dz6 fun y34 =>
           .ok ((xG d y34.1, ()))))
         (.triv (1 * 1 ≤ 140737488355328) zd <| .ite (decide (w64 (0 + 1) < len d.2.2.2.2.2.1.1))
          (.need (inb (w64 (0 + 1)) (len d.2.2.2.2.2.1.1)) <| .need ((1 + 1) * 1 ≤ 140737488355328) <| .call (aaG ((grD d), List.take 2 ([0] ++ [gi d.2.2.2.2.2.1.1 (w64 (0 + 1)) 0]), 3, ())) Dz6 fun y35 =>
           .ok ((xG d y35.1, ())))
          (.triv ((1 + 1) * 1 ≤ 140737488355328) zd <| .call (aaG ((grD d), List.take 2 ([0] ++ [0]), 3, ())) Dz6 fun y36 =>
           .ok ((xG d y36.1, ())))))
        (.call (aaU ((pgD 2 d), ())) Dz8 fun y37 =>
         .call (aaS ((pgD 2 d), ())) Dz3 fun y38 =>
         .ok ((xP d y37.1 2 y38.1, ()))))))
     (.bad))))
  (.ite (j.1 == 3)
   (.ite (j.2.1 == 1)
    (.ite (kD d == 1)
     (.t4 <| .call (aaI ((cD (List.headD d.2.2.1 c0D)), ())) Dz7 fun y39 =>
      .need (1 * 56 ≤ 140737488355328) <| .triv (inb (w64 (0 + 1)) (↑4 : Int)) zd <| .call (aaI ((cD (List.headD (List.tail d.2.2.1) c0D)), ())) Dz7 fun y40 =>
      .need ((1 + 1) * 56 ≤ 140737488355328) <| .triv (inb (w64 (w64 (0 + 1) + 1)) (↑4 : Int)) zd <| .call (aaI ((cD (List.headD (List.tail (List.tail d.2.2.1)) c0D)), ())) Dz7 fun y41 =>
      .need ((2 + 1) * 56 ≤ 140737488355328) <| .ok (((kD d, List.take 3 (List.take 2 ([rV y39.1] ++ [rV y40.1]) ++ [rV y41.1]), [], [], ([], 0, [], ()), [], 0, 0, ()), ())))
     (.ite (kD d == 2)
      (.t4 <| .t4 <| .need (1 * 8 ≤ 140737488355328) <| .t4 <| .triv (inb (w64 (0 + 1)) (↑4 : Int)) zd <| .need ((1 + 1) * 8 ≤ 140737488355328) <| .t4 <| .triv (inb (w64 (w64 (0 + 1) + 1)) (↑4 : Int)) zd <| .need ((2 + 1) * 8 ≤ 140737488355328) <| .need (1 * 24 ≤ 140737488355328) <| .t4 <| .need (1 * 8 ≤ 140737488355328) <| .ok (((kD d, [], [List.take 3 (List.take 2 ([mD (abM d.2.2.2.1)] ++ [mD (List.tail (abM d.2.2.2.1))]) ++ [mD (List.tail (List.tail (abM d.2.2.2.1)))])], [oD d.2.2.2.2.1], ([], 0, [], ()), [], 0, 0, ()), ())))
      (.ite (kD d == 3)
       (.ite (decide (0 < len d.2.2.2.2.2.1.1))
        (.need (asT Int 0 ≤ 0 ∧ 0 < len d.2.2.2.2.2.1.1) <| .need (1 * 1 ≤ 140737488355328) <| .ite (decide (w64 (0 + 1) < len d.2.2.2.2.2.1.1))
         (.need (inb (w64 (0 + 1)) (len d.2.2.2.2.2.1.1)) <| .need ((1 + 1) * 1 ≤ 140737488355328) <| .ite (decide (w64 (w64 (0 + 1) + 1) < len d.2.2.2.2.2.1.1))
          (.need (inb (w64 (w64 (0 + 1) + 1)) (len d.2.2.2.2.2.1.1)) <| .need ((2 + 1) * 1 ≤ 140737488355328) <| .call (aaG ((grD d), List.take 3 (List.take 2 ([gi d.2.2.2.2.2.1.1 0 0] ++ [gi d.2.2.2.2.2.1.1 (w64 (0 + 1)) 0]) ++ [gi d.2.2.2.2.2.1.1 (w64 (w64 (0 + 1) + 1)) 0]), 1, ())) Dz6 fun y42 =>
           .ok ((xG d y42.1, ())))
          (.triv ((2 + 1) * 1 ≤ 140737488355328) zd <| .call (aaG ((grD d), List.take 3 (List.take 2 ([gi d.2.2.2.2.2.1.1 0 0] ++ [gi d.2.2.2.2.2.1.1 (w64 (0 + 1)) 0]) ++ [0]), 1, ())) Dz6 fun y43 =>
           .ok ((xG d y43.1, ()))))
         (.triv ((1 + 1) * 1 ≤ 140737488355328) zd <| .ite (decide (w64 (w64 (0 + 1) + 1) < len d.2.2.2.2.2.1.1))
          (.need (inb (w64 (w64 (0 + 1) + 1)) (len d.2.2.2.2.2.1.1)) <| .need ((2 + 1) * 1 ≤ 140737488355328) <| .call (aaG ((grD d), List.take 3 (List.take 2 ([gi d.2.2.2.2.2.1.1 0 0] ++ [0]) ++ [gi d.2.2.2.2.2.1.1 (w64 (w64 (0 + 1) + 1)) 0]), 1, ())) Dz6 fun y44 =>
           .ok ((xG d y44.1, ())))
          (.triv ((2 + 1) * 1 ≤ 140737488355328) zd <| .call (aaG ((grD d), List.take 3 (List.take 2 ([gi d.2.2.2.2.2.1.1 0 0] ++ [0]) ++ [0]), 1, ())) Dz6 fun y45 =>
           .ok ((xG d y45.1, ())))))
        (.triv (1 * 1 ≤ 140737488355328) zd <| .ite (decide (w64 (0 + 1) < len d.2.2.2.2.2.1.1))
         (.need (inb (w64 (0 + 1)) (len d.2.2.2.2.2.1.1)) <| .need ((1 + 1) * 1 ≤ 140737488355328) <| .ite (decide (w64 (w64 (0 + 1) + 1) < len d.2.2.2.2.2.1.1))
          (.need (inb (w64 (w64 (0 + 1) + 1)) (len d.2.2.2.2.2.1.1)) <| .need ((2 + 1) * 1 ≤ 140737488355328) <| .call (aaG ((grD d), List.take 3 (List.take 2 ([0] ++ [gi d.2.2.2.2.2.1.1 (w64 (0 + 1)) 0]) ++ [gi d.2.2.2.2.2.1.1 (w64 (w64 (0 + 1) + 1)) 0]), 1, ())) Dz6 fun y46 =>
           .ok ((xG d y46.1, ())))
          (.triv ((2 + 1) * 1 ≤ 140737488355328) zd <| .call (aaG ((grD d), List.take 3 (List.take 2 ([0] ++ [gi d.2.2.2.2.2.1.1 (w64 (0 + 1)) 0]) ++ [0]), 1, ())) Dz6 fun y47 =>
           .ok ((xG d y47.1, ()))))
         (.triv ((1 + 1) * 1 ≤ 140737488355328) zd <| .ite (decide (w64 (w64 (0 + 1) + 1) < len d.2.2.2.2.2.1.1))
          (.need (inb (w64 (w64 (0 + 1) + 1)) (len d.2.2.2.2.2.1.1)) <| .need ((2 + 1) * 1 ≤ 140737488355328) <| .call (aaG ((grD d), List.take 3 (List.take 2 ([0] ++ [0]) ++ [gi d.2.2.2.2.2.1.1 (w64 (w64 (0 + 1) + 1)) 0]), 1, ())) Dz6 fun y48 =>
           .ok ((xG d y48.1, ())))
          (.triv ((2 + 1) * 1 ≤ 140737488355328) zd <| .call (aaG ((grD d), List.take 3 (List.take 2 ([0] ++ [0]) ++ [0]), 1, ())) Dz6 fun y49 =>
           .ok ((xG d y49.1, ()))))))
       (.call (aaU ((pgD 3 d), ())) Dz8 fun y50 =>
        .call (aaS ((pgD 3 d), ())) Dz3 fun y51 =>
        .ok ((xP d y50.1 3 y51.1, ()))))))
    (.ite (j.2.1 == 2)
     (.ite (kD d == 1)
      (.t4 <| .call (aaI ((cD (List.headD d.2.2.1 c0D)), ())) Dz7 fun y52 =>
       .need (1 * 56 ≤ 140737488355328) <| .triv (inb (w64 (0 + 1)) (↑4 : Int)) zd <| .call (aaI ((cD (List.headD (List.tail d.2.2.1) c0D)), ())) Dz7 fun y53 =>
       .need ((1 + 1) * 56 ≤ 140737488355328) <| .triv (inb (w64 (w64 (0 + 1) + 1)) (↑4 : Int)) zd <| .call (aaI ((cD (List.headD (List.tail (List.tail d.2.2.1)) c0D)), ())) Dz7 fun y54 =>
       .need ((2 + 1) * 56 ≤ 140737488355328) <| .ok (((kD d, List.take 3 (List.take 2 ([rV y52.1] ++ [rV y53.1]) ++ [rV y54.1]), [], [], ([], 0, [], ()), [], 0, 0, ()), ())))
      (.ite (kD d == 2)
       (.t4 <| .t4 <| .need (1 * 8 ≤ 140737488355328) <| .t4 <| .triv (inb (w64 (0 + 1)) (↑4 : Int)) zd <| .need ((1 + 1) * 8 ≤ 140737488355328) <| .t4 <| .triv (inb (w64 (w64 (0 + 1) + 1)) (↑4 : Int)) zd <| .need ((2 + 1) * 8 ≤ 140737488355328) <| .need (1 * 24 ≤ 140737488355328) <| .t4 <| .need (1 * 8 ≤ 140737488355328) <| .triv (inb (w64 (0 + 1)) (↑4 : Int)) zd <| .t4 <| .need (1 * 8 ≤ 140737488355328) <| .triv (inb (w64 (0 + 1)) (↑4 : Int)) zd <| .triv (inb (w64 (0 + 1)) (↑4 : Int)) zd <| .need ((1 + 1) * 8 ≤ 140737488355328) <| .triv (inb (w64 (0 + 1)) (↑4 : Int)) zd <| .triv (inb (w64 (w64 (0 + 1) + 1)) (↑4 : Int)) zd <| .need ((2 + 1) * 8 ≤ 140737488355328) <| .need ((1 + 1) * 24 ≤ 140737488355328) <| .triv (inb (w64 (0 + 1)) (↑4 : Int)) zd <| .need ((1 + 1) * 8 ≤ 140737488355328) <| .ok (((kD d, [], List.take 2 ([List.take 3 (List.take 2 ([mD (abM d.2.2.2.1)] ++ [mD (List.tail (abM d.2.2.2.1))]) ++ [mD (List.tail (List.tail (abM d.2.2.2.1)))])] ++ [List.take 3 (List.take 2 ([mD (abM (List.tail d.2.2.2.1))] ++ [mD (List.tail (abM (List.tail d.2.2.2.1)))]) ++ [mD (List.tail (List.tail (abM (List.tail d.2.2.2.1))))])]), List.take 2 ([oD d.2.2.2.2.1] ++ [oD (List.tail d.2.2.2.2.1)]), ([], 0, [], ()), [], 0, 0, ()), ())))
       (.ite (kD d == 3)
        (.ite (decide (0 < len d.2.2.2.2.2.1.1))
         (.need (asT Int 0 ≤ 0 ∧ 0 < len d.2.2.2.2.2.1.1) <| .need (1 * 1 ≤ 140737488355328) <| .ite (decide (w64 (0 + 1) < len d.2.2.2.2.2.1.1))
          (.need (inb (w64 (0 + 1)) (len d.2.2.2.2.2.1.1)) <| .need ((1 + 1) * 1 ≤ 140737488355328) <| .ite (decide (w64 (w64 (0 + 1) + 1) < len d.2.2.2.2.2.1.1))
           (.need (inb (w64 (w64 (0 + 1) + 1)) (len d.2.2.2.2.2.1.1)) <| .need ((2 + 1) * 1 ≤ 140737488355328) <| .call (aaG ((grD d), List.take 3 (List.take 2 ([gi d.2.2.2.2.2.1.1 0 0] ++ [gi d.2.2.2.2.2.1.1 (w64 (0 + 1)) 0]) ++ [gi d.2.2.2.2.2.1.1 (w64 (w64 (0 + 1) + 1)) 0]), 2, ())) Dz6 fun y55 =>
            .ok ((xG d y55.1, ())))
           (.triv ((2 + 1) * 1 ≤ 140737488355328) zd <| .call (aaG ((grD d), List.take 3 (List.take 2 ([gi d.2.2.2.2.2.1.1 0 0] ++ [gi d.2.2.2.2.2.1.1 (w64 (0 + 1)) 0]) ++ [0]), 2, ())) Dz6 fun y56 =>
            .ok ((xG d y56.1, ()))))
          (.triv ((1 + 1) * 1 ≤ 140737488355328) zd <| .ite (decide (w64 (w64 (0 + 1) + 1) < len d.2.2.2.2.2.1.1))
           (.need (inb (w64 (w64 (0 + 1) + 1)) (len d.2.2.2.2.2.1.1)) <| .need ((2 + 1) * 1 ≤ 140737488355328) <| .call (aaG ((grD d), List.take 3 (List.take 2 ([gi d.2.2.2.2.2.1.1 0 0] ++ [0]) ++ [gi d.2.2.2.2.2.1.1 (w64 (w64 (0 + 1) + 1)) 0]), 2, ())) Dz6 fun y57 =>
            .ok ((xG d y57.1, ())))
           (.triv ((2 + 1) * 1 ≤ 140737488355328) zd <| .call (aaG ((grD d), List.take 3 (List.take 2 ([gi d.2.2.2.2.2.1.1 0 0] ++ [0]) ++ [0]), 2, ())) Dz6 fun y58 =>
            .ok ((xG d y58.1, ())))))
         (.triv (1 * 1 ≤ 140737488355328) zd <| .ite (decide (w64 (0 + 1) < len d.2.2.2.2.2.1.1))
          (.need (inb (w64 (0 + 1)) (len d.2.2.2.2.2.1.1)) <| .need ((1 + 1) * 1 ≤ 140737488355328) <| .ite (decide (w64 (w64 (0 + 1) + 1) < len d.2.2.2.2.2.1.1))
           (.need (inb (w64 (w64 (0 + 1) + 1)) (len d.2.2.2.2.2.1.1)) <| .need ((2 + 1) * 1 ≤ 140737488355328) <| .call (aaG ((grD d), List.take 3 (List.take 2 ([0] ++ [gi d.2.2.2.2.2.1.1 (w64 (0 + 1)) 0]) ++ [gi d.2.2.2.2.2.1.1 (w64 (w64 (0 + 1) + 1)) 0]), 2, ())) Dz6 fun y59 =>
            .ok ((xG d y59.1, ())))
           (.triv ((2 + 1) * 1 ≤ 140737488355328) zd <| .call (aaG ((grD d), List.take 3 (List.take 2 ([0] ++ [gi d.2.2.2.2.2.1.1 (w64 (0 + 1)) 0]) ++ [0]), 2, ())) Dz6 fun y60 =>
            .ok ((xG d y60.1, ()))))
          (.triv ((1 + 1) * 1 ≤ 140737488355328) zd <| .ite (decide (w64 (w64 (0 + 1) + 1) < len d.2.2.2.2.2.1.1))
           (.need (inb (w64 (w64 (0 + 1) + 1)) (len d.2.2.2.2.2.1.1)) <| .need ((2 + 1) * 1 ≤ 140737488355328) <| .call (aaG ((grD d), List.take 3 (List.take 2 ([0] ++ [0]) ++ [gi d.2.2.2.2.2.1.1 (w64 (w64 (0 + 1) + 1)) 0]), 2, ())) Dz6 fun y61 =>
            .ok ((xG d y61.1, ())))
           (.triv ((2 + 1) * 1 ≤ 140737488355328) zd <| .call (aaG ((grD d), List.take 3 (List.take 2 ([0] ++ [0]) ++ [0]), 2, ())) Dz6 fun y62 =>
            .ok ((xG d y62.1, ()))))))
        (.call (aaU ((pgD 3 d), ())) Dz8 fun y63 =>
         .call (aaS ((pgD 3 d), ())) Dz3 fun y64 =>
         .ok ((xP d y63.1 3 y64.1, ()))))))
     (.ite (j.2.1 == 3)
      (.ite (kD d == 1)
       (.t4 <| .call (aaI ((cD (List.headD d.2.2.1 c0D)), ())) Dz7 fun y65 =>
        .need (1 * 56 ≤ 140737488355328) <| .triv (inb (w64 (0 + 1)) (↑4 : Int)) zd <| .call (aaI ((cD (List.headD (List.tail d.2.2.1) c0D)), ())) Dz7 fun y66 =>
        .need ((1 + 1) * 56 ≤ 140737488355328) <| .triv (inb (w64 (w64 (0 + 1) + 1)) (↑4 : Int)) zd <| .call (aaI ((cD (List.headD (List.tail (List.tail d.2.2.1)) c0D)), ())) Dz7 fun y67 =>
        .need ((2 + 1) * 56 ≤ 140737488355328) <| .ok (((kD d, List.take 3 (List.take 2 ([rV y65.1] ++ [rV y66.1]) ++ [rV y67.1]), [], [], ([], 0, [], ()), [], 0, 0, ()), ())))
       (.ite (kD d == 2)
        (.t4 <| .t4 <| .need (1 * 8 ≤ 140737488355328) <| .t4 <| .triv (inb (w64 (0 + 1)) (↑4 : Int)) zd <| .need ((1 + 1) * 8 ≤ 140737488355328) <| .t4 <| .triv (inb (w64 (w64 (0 + 1) + 1)) (↑4 : Int)) zd <| .need ((2 + 1) * 8 ≤ 140737488355328) <| .need (1 * 24 ≤ 140737488355328) <| .t4 <| .need (1 * 8 ≤ 140737488355328) <| .triv (inb (w64 (0 + 1)) (↑4 : Int)) zd <| .t4 <| .need (1 * 8 ≤ 140737488355328) <| .triv (inb (w64 (0 + 1)) (↑4 : Int)) zd <| .triv (inb (w64 (0 + 1)) (↑4 : Int)) zd <| .need ((1 + 1) * 8 ≤ 140737488355328) <| .triv (inb (w64 (0 + 1)) (↑4 : Int)) zd <| .triv (inb (w64 (w64 (0 + 1) + 1)) (↑4 : Int)) zd <| .need ((2 + 1) * 8 ≤ 140737488355328) <| .need ((1 + 1) * 24 ≤ 140737488355328) <| .triv (inb (w64 (0 + 1)) (↑4 : Int)) zd <| .need ((1 + 1) * 8 ≤ 140737488355328) <| .triv (inb (w64 (w64 (0 + 1) + 1)) (↑4 : Int)) zd <| .t4 <| .need (1 * 8 ≤ 140737488355328) <| .triv (inb (w64 (w64 (0 + 1) + 1)) (↑4 : Int)) zd <| .triv (inb (w64 (0 + 1)) (↑4 : Int)) zd <| .need ((1 + 1) * 8 ≤ 140737488355328) <| .triv (inb (w64 (w64 (0 + 1) + 1)) (↑4 : Int)) zd <| .triv (inb (w64 (w64 (0 + 1) + 1)) (↑4 : Int)) zd <| .need ((2 + 1) * 8 ≤ 140737488355328) <| .need ((2 + 1) * 24 ≤ 140737488355328) <| .triv (inb (w64 (w64 (0 + 1) + 1)) (↑4 : Int)) zd <| .need ((2 + 1) * 8 ≤ 140737488355328) <| .ok (((kD d, [], List.take 3 (List.take 2 ([List.take 3 (List.take 2 ([mD (abM d.2.2.2.1)] ++ [mD (List.tail (abM d.2.2.2.1))]) ++ [mD (List.tail (List.tail (abM d.2.2.2.1)))])] ++ [List.take 3 (List.take 2 ([mD (abM (List.tail d.2.2.2.1))] ++ [mD (List.tail (abM (List.tail d.2.2.2.1)))]) ++ [mD (List.tail (List.tail (abM (List.tail d.2.2.2.1))))])]) ++ [List.take 3 (List.take 2 ([mD (abM (List.tail (List.tail d.2.2.2.1)))] ++ [mD (List.tail (abM (List.tail (List.tail d.2.2.2.1))))]) ++ [mD (List.tail (List.tail (abM (List.tail (List.tail d.2.2.2.1)))))])]), List.take 3 (List.take 2 ([oD d.2.2.2.2.1] ++ [oD (List.tail d.2.2.2.2.1)]) ++ [oD (List.tail (List.tail d.2.2.2.2.1))]), ([], 0, [], ()), [], 0, 0, ()), ())))
        (.ite (kD d == 3)
         (.ite (decide (0 < len d.2.2.2.2.2.1.1))
          (.need (asT Int 0 ≤ 0 ∧ 0 < len d.2.2.2.2.2.1.1) <| .need (1 * 1 ≤ 140737488355328) <| .ite (decide (w64 (0 + 1) < len d.2.2.2.2.2.1.1))
           (.need (inb (w64 (0 + 1)) (len d.2.2.2.2.2.1.1)) <| .need ((1 + 1) * 1 ≤ 140737488355328) <| .ite (decide (w64 (w64 (0 + 1) + 1) < len d.2.2.2.2.2.1.1))
            (.need (inb (w64 (w64 (0 + 1) + 1)) (len d.2.2.2.2.2.1.1)) <| .need ((2 + 1) * 1 ≤ 140737488355328) <| .call (aaG ((grD d), List.take 3 (List.take 2 ([gi d.2.2.2.2.2.1.1 0 0] ++ [gi d.2.2.2.2.2.1.1 (w64 (0 + 1)) 0]) ++ [gi d.2.2.2.2.2.1.1 (w64 (w64 (0 + 1) + 1)) 0]), 3, ())) Dz6 fun y68 =>
             .ok ((xG d y68.1, ())))
            (.triv ((2 + 1) * 1 ≤ 140737488355328) zd <| .call (aaG ((grD d), List.take 3 (List.take 2 ([gi d.2.2.2.2.2.1.1 0 0] ++ [gi d.2.2.2.2.2.1.1 (w64 (0 + 1)) 0]) ++ [0]), 3, ())) Dz6 fun y69 =>
             .ok ((xG d y69.1, ()))))
           (.triv ((1 + 1) * 1 ≤ 140737488355328) zd <| .ite (decide (w64 (w64 (0 + 1) + 1) < len d.2.2.2.2.2.1.1))
            (.need (inb (w64 (w64 (0 + 1) + 1)) (len d.2.2.2.2.2.1.1)) <| .need ((2 + 1) * 1 ≤ 140737488355328) <| .call (aaG ((grD d), List.take 3 (List.take 2 ([gi d.2.2.2.2.2.1.1 0 0] ++ [0]) ++ [gi d.2.2.2.2.2.1.1 (w64 (w64 (0 + 1) + 1)) 0]), 3, ())) Dz6 fun y70 =>
             .ok ((xG d y70.1, ())))
            (.triv ((2 + 1) * 1 ≤ 140737488355328) zd <| .call (aaG ((grD d), List.take 3 (List.take 2 ([gi d.2.2.2.2.2.1.1 0 0] ++ [0]) ++ [0]), 3, ())) Dz6 fun y71 =>
             .ok ((xG d y71.1, ())))))
          (.triv (1 * 1 ≤ 140737488355328) zd <| .ite (decide (w64 (0 + 1) < len d.2.2.2.2.2.1.1))
           (.need (inb (w64 (0 + 1)) (len d.2.2.2.2.2.1.1)) <| .need ((1 + 1) * 1 ≤ 140737488355328) <| .ite (decide (w64 (w64 (0 + 1) + 1) < len d.2.2.2.2.2.1.1))
            (.need (inb (w64 (w64 (0 + 1) + 1)) (len d.2.2.2.2.2.1.1)) <| .need ((2 + 1) * 1 ≤ 140737488355328) <| .call (aaG ((grD d), List.take 3 (List.take 2 ([0] ++ [gi d.2.2.2.2.2.1.1 (w64 (0 + 1)) 0]) ++ [gi d.2.2.2.2.2.1.1 (w64 (w64 (0 + 1) + 1)) 0]), 3, ())) Dz6 fun y72 =>
             .ok ((xG d y72.1, ())))
            (.triv ((2 + 1) * 1 ≤ 140737488355328) zd <| .call (aaG ((grD d), List.take 3 (List.take 2 ([0] ++ [gi d.2.2.2.2.2.1.1 (w64 (0 + 1)) 0]) ++ [0]), 3, ())) Dz6 fun y73 =>
             .ok ((xG d y73.1, ()))))
           (.triv ((1 + 1) * 1 ≤ 140737488355328) zd <| .ite (decide (w64 (w64 (0 + 1) + 1) < len d.2.2.2.2.2.1.1))
            (.need (inb (w64 (w64 (0 + 1) + 1)) (len d.2.2.2.2.2.1.1)) <| .need ((2 + 1) * 1 ≤ 140737488355328) <| .call (aaG ((grD d), List.take 3 (List.take 2 ([0] ++ [0]) ++ [gi d.2.2.2.2.2.1.1 (w64 (w64 (0 + 1) + 1)) 0]), 3, ())) Dz6 fun y74 =>
             .ok ((xG d y74.1, ())))
            (.triv ((2 + 1) * 1 ≤ 140737488355328) zd <| .call (aaG ((grD d), List.take 3 (List.take 2 ([0] ++ [0]) ++ [0]), 3, ())) Dz6 fun y75 =>
             .ok ((xG d y75.1, ()))))))
         (.call (aaU ((pgD 3 d), ())) Dz8 fun y76 =>
          .call (aaS ((pgD 3 d), ())) Dz3 fun y77 =>
          .ok ((xP d y76.1 3 y77.1, ()))))))
      (.bad))))
   (.ite (j.1 == 4)
    (.ite (j.2.1 == 1)
     (.ite (kD d == 1)
      (.t4 <| .call (aaI ((cD (List.headD d.2.2.1 c0D)), ())) Dz7 fun y78 =>
       .need (1 * 56 ≤ 140737488355328) <| .triv (inb (w64 (0 + 1)) (↑4 : Int)) zd <| .call (aaI ((cD (List.headD (List.tail d.2.2.1) c0D)), ())) Dz7 fun y79 =>
       .need ((1 + 1) * 56 ≤ 140737488355328) <| .triv (inb (w64 (w64 (0 + 1) + 1)) (↑4 : Int)) zd <| .call (aaI ((cD (List.headD (List.tail (List.tail d.2.2.1)) c0D)), ())) Dz7 fun y80 =>
       .need ((2 + 1) * 56 ≤ 140737488355328) <| .triv (inb (w64 (w64 (w64 (0 + 1) + 1) + 1)) (↑4 : Int)) zd <| .call (aaI ((cD (List.headD (List.tail (List.tail (List.tail d.2.2.1))) c0D)), ())) Dz7 fun y81 =>
       .need ((3 + 1) * 56 ≤ 140737488355328) <| .ok (((kD d, List.take 4 (List.take 3 (List.take 2 ([rV y78.1] ++ [rV y79.1]) ++ [rV y80.1]) ++ [rV y81.1]), [], [], ([], 0, [], ()), [], 0, 0, ()), ())))
      (.ite (kD d == 2)
       (.t4 <| .t4 <| .need (1 * 8 ≤ 140737488355328) <| .t4 <| .triv (inb (w64 (0 + 1)) (↑4 : Int)) zd <| .need ((1 + 1) * 8 ≤ 140737488355328) <| .t4 <| .triv (inb (w64 (w64 (0 + 1) + 1)) (↑4 : Int)) zd <| .need ((2 + 1) * 8 ≤ 140737488355328) <| .t4 <| .triv (inb (w64 (w64 (w64 (0 + 1) + 1) + 1)) (↑4 : Int)) zd <| .need ((3 + 1) * 8 ≤ 140737488355328) <| .need (1 * 24 ≤ 140737488355328) <| .t4 <| .need (1 * 8 ≤ 140737488355328) <| .ok (((kD d, [], [List.take 4 (List.take 3 (List.take 2 ([mD (abM d.2.2.2.1)] ++ [mD (List.tail (abM d.2.2.2.1))]) ++ [mD (List.tail (List.tail (abM d.2.2.2.1)))]) ++ [mD (List.tail (List.tail (List.tail (abM d.2.2.2.1))))])], [oD d.2.2.2.2.1], ([], 0, [], ()), [], 0, 0, ()), ())))
       (.ite (kD d == 3)
        (.ite (decide (0 < len d.2.2.2.2.2.1.1))
         (aeC d)
         (aeC d))
        (.call (aaU ((pgD 4 d), ())) Dz8 fun y98 =>
         .call (aaS ((pgD 4 d), ())) Dz3 fun y99 =>
         .ok ((xP d y98.1 4 y99.1, ()))))))
     (.ite (j.2.1 == 2)
      (.ite (kD d == 1)
       (.t4 <| .call (aaI ((cD (List.headD d.2.2.1 c0D)), ())) Dz7 fun y100 =>
        .need (1 * 56 ≤ 140737488355328) <| .triv (inb (w64 (0 + 1)) (↑4 : Int)) zd <| .call (aaI ((cD (List.headD (List.tail d.2.2.1) c0D)), ())) Dz7 fun y101 =>
        .need ((1 + 1) * 56 ≤ 140737488355328) <| .triv (inb (w64 (w64 (0 + 1) + 1)) (↑4 : Int)) zd <| .call (aaI ((cD (List.headD (List.tail (List.tail d.2.2.1)) c0D)), ())) Dz7 fun y102 =>
        .need ((2 + 1) * 56 ≤ 140737488355328) <| .triv (inb (w64 (w64 (w64 (0 + 1) + 1) + 1)) (↑4 : Int)) zd <| .call (aaI ((cD (List.headD (List.tail (List.tail (List.tail d.2.2.1))) c0D)), ())) Dz7 fun y103 =>
        .need ((3 + 1) * 56 ≤ 140737488355328) <| .ok (((kD d, List.take 4 (List.take 3 (List.take 2 ([rV y100.1] ++ [rV y101.1]) ++ [rV y102.1]) ++ [rV y103.1]), [], [], ([], 0, [], ()), [], 0, 0, ()), ())))
       (.ite (kD d == 2)
        (.t4 <| .t4 <| .need (1 * 8 ≤ 140737488355328) <| .t4 <| .triv (inb (w64 (0 + 1)) (↑4 : Int)) zd <| .need ((1 + 1) * 8 ≤ 140737488355328) <| .t4 <| .triv (inb (w64 (w64 (0 + 1) + 1)) (↑4 : Int)) zd <| .need ((2 + 1) * 8 ≤ 140737488355328) <| .t4 <| .triv (inb (w64 (w64 (w64 (0 + 1) + 1) + 1)) (↑4 : Int)) zd <| .need ((3 + 1) * 8 ≤ 140737488355328) <| .need (1 * 24 ≤ 140737488355328) <| .t4 <| .need (1 * 8 ≤ 140737488355328) <| .triv (inb (w64 (0 + 1)) (↑4 : Int)) zd <| .t4 <| .need (1 * 8 ≤ 140737488355328) <| .triv (inb (w64 (0 + 1)) (↑4 : Int)) zd <| .triv (inb (w64 (0 + 1)) (↑4 : Int)) zd <| .need ((1 + 1) * 8 ≤ 140737488355328) <| .triv (inb (w64 (0 + 1)) (↑4 : Int)) zd <| .triv (inb (w64 (w64 (0 + 1) + 1)) (↑4 : Int)) zd <| .need ((2 + 1) * 8 ≤ 140737488355328) <| .triv (inb (w64 (0 + 1)) (↑4 : Int)) zd <| .triv (inb (w64 (w64 (w64 (0 + 1) + 1) + 1)) (↑4 : Int)) zd <| .need ((3 + 1) * 8 ≤ 140737488355328) <| .need ((1 + 1) * 24 ≤ 140737488355328) <| .triv (inb (w64 (0 + 1)) (↑4 : Int)) zd <| .need ((1 + 1) * 8 ≤ 140737488355328) <| .ok (((kD d, [], List.take 2 ([List.take 4 (List.take 3 (List.take 2 ([mD (abM d.2.2.2.1)] ++ [mD (List.tail (abM d.2.2.2.1))]) ++ [mD (List.tail (List.tail (abM d.2.2.2.1)))]) ++ [mD (List.tail (List.tail (List.tail (abM d.2.2.2.1))))])] ++ [List.take 4 (List.take 3 (List.take 2 ([mD (abM (List.tail d.2.2.2.1))] ++ [mD (List.tail (abM (List.tail d.2.2.2.1)))]) ++ [mD (List.tail (List.tail (abM (List.tail d.2.2.2.1))))]) ++ [mD (List.tail (List.tail (List.tail (abM (List.tail d.2.2.2.1)))))])]), List.take 2 ([oD d.2.2.2.2.1] ++ [oD (List.tail d.2.2.2.2.1)]), ([], 0, [], ()), [], 0, 0, ()), ())))
        (.ite (kD d == 3)
         (.ite (decide (0 < len d.2.2.2.2.2.1.1))
          (aeB d)
          (aeB d))
         (.call (aaU ((pgD 4 d), ())) Dz8 fun y120 =>
          .call (aaS ((pgD 4 d), ())) Dz3 fun y121 =>
          .ok ((xP d y120.1 4 y121.1, ()))))))
      (.ite (j.2.1 == 3)
       (.ite (kD d == 1)
        (.t4 <| .call (aaI ((cD (List.headD d.2.2.1 c0D)), ())) Dz7 fun y122 =>
         .need (1 * 56 ≤ 140737488355328) <| .triv (inb (w64 (0 + 1)) (↑4 : Int)) zd <| .call (aaI ((cD (List.headD (List.tail d.2.2.1) c0D)), ())) Dz7 fun y123 =>
         .need ((1 + 1) * 56 ≤ 140737488355328) <| .triv (inb (w64 (w64 (0 + 1) + 1)) (↑4 : Int)) zd <| .call (aaI ((cD (List.headD (List.tail (List.tail d.2.2.1)) c0D)), ())) Dz7 fun y124 =>
         .need ((2 + 1) * 56 ≤ 140737488355328) <| .triv (inb (w64 (w64 (w64 (0 + 1) + 1) + 1)) (↑4 : Int)) zd <| .call (aaI ((cD (List.headD (List.tail (List.tail (List.tail d.2.2.1))) c0D)), ())) Dz7 fun y125 =>
         .need ((3 + 1) * 56 ≤ 140737488355328) <| .ok (((kD d, List.take 4 (List.take 3 (List.take 2 ([rV y122.1] ++ [rV y123.1]) ++ [rV y124.1]) ++ [rV y125.1]), [], [], ([], 0, [], ()), [], 0, 0, ()), ())))
        (.ite (kD d == 2)
         (.t4 <| .t4 <| .need (1 * 8 ≤ 140737488355328) <| .t4 <| .triv (inb (w64 (0 + 1)) (↑4 : Int)) zd <| .need ((1 + 1) * 8 ≤ 140737488355328) <| .t4 <| .triv (inb (w64 (w64 (0 + 1) + 1)) (↑4 : Int)) zd <| .need ((2 + 1) * 8 ≤ 140737488355328) <| .t4 <| .triv (inb (w64 (w64 (w64 (0 + 1) + 1) + 1)) (↑4 : Int)) zd <| .need ((3 + 1) * 8 ≤ 140737488355328) <| .need (1 * 24 ≤ 140737488355328) <| .t4 <| .need (1 * 8 ≤ 140737488355328) <| .triv (inb (w64 (0 + 1)) (↑4 : Int)) zd <| .t4 <| .need (1 * 8 ≤ 140737488355328) <| .triv (inb (w64 (0 + 1)) (↑4 : Int)) zd <| .triv (inb (w64 (0 + 1)) (↑4 : Int)) zd <| .need ((1 + 1) * 8 ≤ 140737488355328) <| .triv (inb (w64 (0 + 1)) (↑4 : Int)) zd <| .triv (inb (w64 (w64 (0 + 1) + 1)) (↑4 : Int)) zd <| .need ((2 + 1) * 8 ≤ 140737488355328) <| .triv (inb (w64 (0 + 1)) (↑4 : Int)) zd <| .triv (inb (w64 (w64 (w64 (0 + 1) + 1) + 1)) (↑4 : Int)) zd <| .need ((3 + 1) * 8 ≤ 140737488355328) <| .need ((1 + 1) * 24 ≤ 140737488355328) <| .triv (inb (w64 (0 + 1)) (↑4 : Int)) zd <| .need ((1 + 1) * 8 ≤ 140737488355328) <| .triv (inb (w64 (w64 (0 + 1) + 1)) (↑4 : Int)) zd <| .t4 <| .need (1 * 8 ≤ 140737488355328) <| .triv (inb (w64 (w64 (0 + 1) + 1)) (↑4 : Int)) zd <| .triv (inb (w64 (0 + 1)) (↑4 : Int)) zd <| .need ((1 + 1) * 8 ≤ 140737488355328) <| .triv (inb (w64 (w64 (0 + 1) + 1)) (↑4 : Int)) zd <| .triv (inb (w64 (w64 (0 + 1) + 1)) (↑4 : Int)) zd <| .need ((2 + 1) * 8 ≤ 140737488355328) <| .triv (inb (w64 (w64 (0 + 1) + 1)) (↑4 : Int)) zd <| .triv (inb (w64 (w64 (w64 (0 + 1) + 1) + 1)) (↑4 : Int)) zd <| .need ((3 + 1) * 8 ≤ 140737488355328) <| .need ((2 + 1) * 24 ≤ 140737488355328) <| .triv (inb (w64 (w64 (0 + 1) + 1)) (↑4 : Int)) zd <| .need ((2 + 1) * 8 ≤ 140737488355328) <| .ok (((kD d, [], List.take 3 (List.take 2 ([List.take 4 (List.take 3 (List.take 2 ([mD (abM d.2.2.2.1)] ++ [mD (List.tail (abM d.2.2.2.1))]) ++ [mD (List.tail (List.tail (abM d.2.2.2.1)))]) ++ [mD (List.tail (List.tail (List.tail (abM d.2.2.2.1))))])] ++ [List.take 4 (List.take 3 (List.take 2 ([mD (abM (List.tail d.2.2.2.1))] ++ [mD (List.tail (abM (List.tail d.2.2.2.1)))]) ++ [mD (List.tail (List.tail (abM (List.tail d.2.2.2.1))))]) ++ [mD (List.tail (List.tail (List.tail (abM (List.tail d.2.2.2.1)))))])]) ++ [List.take 4 (List.take 3 (List.take 2 ([mD (abM (List.tail (List.tail d.2.2.2.1)))] ++ [mD (List.tail (abM (List.tail (List.tail d.2.2.2.1))))]) ++ [mD (List.tail (List.tail (abM (List.tail (List.tail d.2.2.2.1)))))]) ++ [w64 (30 * w64 (List.headD (List.tail (List.tail (List.tail (abM (List.tail (List.tail d.2.2.2.1)))))) 0))])]), List.take 3 (List.take 2 ([oD d.2.2.2.2.1] ++ [oD (List.tail d.2.2.2.2.1)]) ++ [oD (List.tail (List.tail d.2.2.2.2.1))]), ([], 0, [], ()), [], 0, 0, ()), ())))
         (.ite (kD d == 3)
          (.ite (decide (0 < len d.2.2.2.2.2.1.1))
           (aeA d)
           (aeA d))
          (.call (aaU ((pgD 4 d), ())) Dz8 fun y142 =>
           .call (aaS ((pgD 4 d), ())) Dz3 fun y143 =>
           .ok ((xP d y142.1 4 y143.1, ()))))))
       (.bad))))
    (.bad))))
def adW (d : DeT) (ins : Int) : TT (ElT × Unit) :=
 .triv (asT Int 4 ≠ 0) zd <| .join 0 (ι := Int × Int × Unit) (.triv (asT Int 3 ≠ 0) zd <| .tt <| .lt (w64 (1 + w64 (Int.tmod d.2.1 3)) : Int) fun z => .xC (xO z ins <| (xI 8 0 true) ∧ wd ∧ xZ ∧ True) <| .xC (xB (xO 59 (kD d : Int) <| True ∧ wz) <| xB (xO 59 (0 : Int) <| True ∧ wz) <| xB (xM 85 d.1 d.2.1 ((List.headD d.2.2.1 c0D).1 : Int) ((List.headD d.2.2.1 c0D).2.1 : List Int) ((List.headD d.2.2.1 c0D).2.2.1 : List xV) ((List.headD d.2.2.1 c0D).2.2.2.1) ((List.headD d.2.2.1 c0D).2.2.2.2.1) <| xM ((List.headD (List.tail d.2.2.1) c0D).1 : Int) ((List.headD (List.tail d.2.2.1) c0D).2.1 : List Int) ((List.headD (List.tail d.2.2.1) c0D).2.2.1 : List xV) ((List.headD (List.tail d.2.2.1) c0D).2.2.2.1) ((List.headD (List.tail d.2.2.1) c0D).2.2.2.2.1) ((List.headD (List.tail (List.tail d.2.2.1)) c0D).1 : Int) ((List.headD (List.tail (List.tail d.2.2.1)) c0D).2.1 : List Int) ((List.headD (List.tail (List.tail d.2.2.1)) c0D).2.2.1 : List xV) <| xM ((List.headD (List.tail (List.tail d.2.2.1)) c0D).2.2.2.1) ((List.headD (List.tail (List.tail d.2.2.1)) c0D).2.2.2.2.1) ((List.headD (List.tail (List.tail (List.tail d.2.2.1))) c0D).1 : Int) ((List.headD (List.tail (List.tail (List.tail d.2.2.1))) c0D).2.1 : List Int) ((List.headD (List.tail (List.tail (List.tail d.2.2.1))) c0D).2.2.1 : List xV) ((List.headD (List.tail (List.tail (List.tail d.2.2.1))) c0D).2.2.2.1) ((List.headD (List.tail (List.tail (List.tail d.2.2.1))) c0D).2.2.2.2.1) (List.headD (abM d.2.2.2.1) 0) <| xM (List.headD (List.tail (abM d.2.2.2.1)) 0) (List.headD (List.tail (List.tail (abM d.2.2.2.1))) 0 : Int) (List.headD (List.tail (List.tail (List.tail (abM d.2.2.2.1)))) 0 : Int) (List.headD (abM (List.tail d.2.2.2.1)) 0) (List.headD (List.tail (abM (List.tail d.2.2.2.1))) 0 : Int) (List.headD (List.tail (List.tail (abM (List.tail d.2.2.2.1)))) 0 : Int) (List.headD (List.tail (List.tail (List.tail (abM (List.tail d.2.2.2.1))))) 0 : Int) (List.headD (abM (List.tail (List.tail d.2.2.2.1))) 0 : Int) <| xM (List.headD (List.tail (abM (List.tail (List.tail d.2.2.2.1)))) 0 : Int) (List.headD (List.tail (List.tail (abM (List.tail (List.tail d.2.2.2.1))))) 0 : Int) (List.headD (List.tail (List.tail (List.tail (abM (List.tail (List.tail d.2.2.2.1)))))) 0 : Int) (List.headD (abM (List.tail (List.tail (List.tail d.2.2.2.1)))) 0 : Int) (List.headD (List.tail (abM (List.tail (List.tail (List.tail d.2.2.2.1))))) 0 : Int) (List.headD (List.tail (List.tail (abM (List.tail (List.tail (List.tail d.2.2.2.1)))))) 0 : Int) (List.headD (List.tail (List.tail (List.tail (abM (List.tail (List.tail (List.tail d.2.2.2.1))))))) 0 : Int) (List.headD d.2.2.2.2.1 0) <| xM (List.headD (List.tail d.2.2.2.2.1) 0) (List.headD (List.tail (List.tail d.2.2.2.2.1)) 0) (List.headD (List.tail (List.tail (List.tail d.2.2.2.2.1))) 0 : Int) d.2.2.2.2.2.1.1 d.2.2.2.2.2.1.2.1 d.2.2.2.2.2.1.2.2.1 d.2.2.2.2.2.1.2.2.2.1 d.2.2.2.2.2.2.1.1 <| xL d.2.2.2.2.2.2.1.2.1 d.2.2.2.2.2.2.1.2.2.1) True) <| .ok (.inl ((ins, z, ())))) (aj4 d ins)
end
open Go Go.Vg
def i16L (l : List Int) : Prop := ∀ v ∈ l, -32768 ≤ v ∧ v ≤ 32767
def rowsL (l : List (List Int)) : Prop := ∀ r ∈ l, i16L r
def drL (l : List CdT) : Prop := ∀ c ∈ l, aJi c
theorem i16L.tl {l : List Int} (h : i16L l) : i16L l.tail := fun v hv => h v (xA hv)
theorem rowsL.tl {l : List (List Int)} (h : rowsL l) : rowsL l.tail := fun v hv => h v (xA hv)
theorem drL.tl {l : List CdT} (h : drL l) : drL l.tail := fun v hv => h v (xA hv)
theorem i16L.hd {l : List Int} (h : i16L l) : -32768 ≤ l.headD 0 ∧ l.headD 0 ≤ 32767 := by
 cases l with
 | nil => exact ⟨by decide, by decide⟩
 | cons a l => exact h a zv
theorem rowsL.hd {l : List (List Int)} (h : rowsL l) : i16L (abM l) := by
 cases l with
 | nil => intro v hv; rw [(List.mem_replicate.1 hv).2]; exact ⟨by decide, by decide⟩
 | cons a l => exact h a zv
theorem drL.hd {l : List CdT} (h : drL l) : aJi (l.headD c0D) := by
 cases l with
 | nil => exact show aJi c0D from ⟨⟨by decide, by decide⟩, (fun v (hv : v ∈ ([] : List Int)) => by cases hv), (fun s (hs : s ∈ ([] : List aiD)) => by cases hs)⟩
 | cons a l => exact h a zv
theorem ab8 {r : List Int} (h : i16L r) : aaQ (mD r) := by
 have := h.hd
 show inR (w64 (30 * w64 (r.headD 0))) _ _
 rw [aaF (x := r.headD 0) ⟨by omega, by omega⟩, aaF ⟨by omega, by omega⟩]
 exact ⟨by omega, by omega⟩
theorem aoC {r : List Int} (h : i16L r) : aaQ (oD r) := by
 have := h.hd
 show inR (w64 (10 * w64 (r.headD 0))) _ _
 rw [aaF (x := r.headD 0) ⟨by omega, by omega⟩, aaF ⟨by omega, by omega⟩]
 exact ⟨by omega, by omega⟩
def wfE (d : DeT) : Prop := (0 ≤ d.1 ∧ d.1 ≤ 255) ∧ (0 ≤ d.2.1 ∧ d.2.1 ≤ 255) ∧ drL d.2.2.1 ∧ rowsL d.2.2.2.1 ∧ i16L d.2.2.2.2.1 ∧ (wfG d.2.2.2.2.2.1 ∧ ∀ v ∈ d.2.2.2.2.2.1.1, 0 ≤ v ∧ v ≤ 255) ∧ wfP d.2.2.2.2.2.2.1
section
variable {α : Type} {P : α → Prop}
theorem aF2 {c : CdT} {dd : CvT × Unit} {x : CvT × Unit → TT α} (h : aJi c) (hx : ∀ v, acR v → WP (x (v, ())) P) : WP (.call (aaI (cD c, ())) dd x) P := by
 obtain ⟨v, e, r⟩ := aHG c h
 exact aaY _ e (hx v r)
theorem aIF {g : GdT} {pts : List Int} {out : Int} {dd : GrT × Unit} {x : GrT × Unit → TT α} (h : wfG g) (hp : (1 ≤ pts.length ∧ pts.length ≤ 4) ∧ ∀ n ∈ pts, 0 ≤ n ∧ n ≤ 255) (ho : 1 ≤ out ∧ out ≤ 3) (hx : ∀ v, afN v → v.1.length = pts.length → WP (x (v, ())) P) :
  WP (.call (aaG ((g.1, g.2.1, g.2.2.1, g.2.2.2.1, ()), pts, out, ())) dd x) P := by
 obtain ⟨⟨v, u⟩, e, r1, r2, -⟩ := azI g h pts hp out ho
 exact aaY (v, ()) e (hx v r1 r2)
theorem aID {p : PgT} {dd : List OpT × Unit} {x : List OpT × Unit → TT α} (h : wfP p) (hx : ∀ v : List OpT, v.length ≤ 30 → (∀ I, 1 + Int.tmod p.1 3 ≤ I → PgOk I v (1 + Int.tmod p.2.1 3)) → WP (x (v, ())) P) : WP (.call (aaU (p, ())) dd x) P := by
 obtain ⟨⟨v, u⟩, e, r1, r2⟩ := arS p h
 exact aaY (v, ()) e (hx v r1 r2)
end
theorem am3 {α : Type} (p : α → Prop) : ∀ x ∈ ([] : List α), p x := fun _ h => by cases h
theorem all_cons {α : Type} {p : α → Prop} {a : α} {l : List α} (h : p a) (hl : ∀ x ∈ l, p x) : ∀ x ∈ a :: l, p x := fun x hx => by
 rcases zq.1 hx with e | hx
 ·rw [e]; exact h
 ·exact hl x hx
theorem aLv {k n : Int} {l : List CvT} (hk : k = 1) (hl : (l.length : Int) = n) (h14 : 1 ≤ n ∧ n ≤ 4) (hr : ∀ c ∈ l, acR c) : ab0 (k, l, [], [], ([], 0, [], ()), [], 0, 0, ()) ∧ aFY (k, l, [], [], ([], 0, [], ()), [], 0, 0, ()) = n := by
 subst hk
 exact ⟨Or.inl ⟨rfl, ⟨rfl, rfl⟩, ⟨rfl, rfl, rfl⟩, ⟨rfl, rfl, rfl⟩, ⟨by dsimp only; omega, by dsimp only; omega⟩, hr⟩, hl⟩
theorem aLu {k n : Int} {rows : List (List Int)} {off : List Int} (hk : k = 2) (h14 : 1 ≤ n ∧ n ≤ 4) (hl : 1 ≤ rows.length ∧ rows.length ≤ 4) (ho : off.length = rows.length) (hr : ∀ r ∈ rows, (r.length : Int) = n ∧ ∀ v ∈ r, aaQ v) (hs : ∀ v ∈ off, aaQ v) :
  ab0 (k, [], rows, off, ([], 0, [], ()), [], 0, 0, ()) ∧ aFY (k, [], rows, off, ([], 0, [], ()), [], 0, 0, ()) = n := by
 subst hk
 have h0 := hr _ (abH (show 0 < rows.length by omega) [])
 exact ⟨Or.inr (Or.inl ⟨rfl, rfl, ⟨rfl, rfl, rfl⟩, ⟨rfl, rfl, rfl⟩, hl, ho, ⟨by dsimp only; omega, by dsimp only; omega⟩, fun r hr' => ⟨by have := (hr r hr').1; dsimp only; omega, (hr r hr').2⟩, hs⟩), h0.1⟩
theorem aLw {k n : Int} {g : GrT} (hk : k = 3) (hg : afN g) (hn : (g.1.length : Int) = n) : ab0 (k, [], [], [], (g.1, g.2.1, g.2.2.1, ()), [], 0, 0, ()) ∧ aFY (k, [], [], [], (g.1, g.2.1, g.2.2.1, ()), [], 0, 0, ()) = n := by
 subst hk
 exact ⟨Or.inr (Or.inr (Or.inl ⟨rfl, rfl, ⟨rfl, rfl⟩, ⟨rfl, rfl, rfl⟩, hg⟩)), hn⟩
theorem aLt {k i o : Int} {p : List OpT} (hk : k = 4) (hi : 1 ≤ i ∧ i ≤ 4) (ho : 1 ≤ o ∧ o ≤ 4) (hp : p.length ≤ 30) (h : PgOk i p o) : ab0 (k, [], [], [], ([], 0, [], ()), p, i, o, ()) ∧ aFY (k, [], [], [], ([], 0, [], ()), p, i, o, ()) = i := by
 subst hk
 obtain ⟨m, e, hm⟩ := h
 refine ⟨Or.inr (Or.inr (Or.inr ⟨rfl, rfl, ⟨rfl, rfl⟩, ⟨rfl, rfl, rfl⟩, ?_⟩)), rfl⟩
 show (ad7 p i o).isSome = true
 unfold ad7
 rw [if_pos ⟨⟨by omega, by omega⟩, ⟨by omega, by omega⟩, by omega⟩, e]
 show (if m ≤ 16 ∧ o = o then some m else none).isSome = true
 rw [if_pos ⟨by omega, rfl⟩]; rfl
set_option maxHeartbeats 0 in
theorem arQ (d : DeT) (hd : wfE d) (ins : Int) (hi : 1 ≤ ins ∧ ins ≤ 4) : WP (adW d ins) fun y => ab0 y.1 ∧ aFY y.1 = ins := by
 obtain ⟨hk, ho, hc, hr, hof, ⟨hg, hgz⟩, hp⟩ := hd
 have hk4 := ad5 (a := d.1) (k := 4) zc hk.1
 have ek : kD d = 1 + Int.tmod d.1 4 := by
  show w64 (1 + w64 (Int.tmod d.1 4)) = _
  rw [aaF (x := Int.tmod d.1 4) ⟨by omega, by omega⟩, aaF ⟨by omega, by omega⟩]
 obtain ⟨o1, o2, o3⟩ := aC9 ho.1 ho.2
 have hq : ∀ k : Int, 1 ≤ k → k ≤ 4 → wfP (pgD k d) ∧ 1 + Int.tmod (pgD k d).1 3 ≤ k := by
  intro k h1 h4
  have : k = 1 ∨ k = 2 ∨ k = 3 ∨ k = 4 := zc
  have e1 : (pgD 1 d).1 = 0 := rfl
  have e2 : (pgD 2 d).1 = 1 := rfl
  have e3 : (pgD 3 d).1 = 2 := rfl
  have e4 : (pgD 4 d).1 = 2 := rfl
  rcases this with rfl | rfl | rfl | rfl
  ·exact ⟨⟨by rw [e1]; omega, hp.2.1, hp.2.2.1, hp.2.2.2⟩, by rw [e1]; decide⟩
  ·exact ⟨⟨by rw [e2]; omega, hp.2.1, hp.2.2.1, hp.2.2.2⟩, by rw [e2]; decide⟩
  ·exact ⟨⟨by rw [e3]; omega, hp.2.1, hp.2.2.1, hp.2.2.2⟩, by rw [e3]; decide⟩
  ·exact ⟨⟨by rw [e4]; omega, hp.2.1, hp.2.2.1, hp.2.2.2⟩, by rw [e4]; decide⟩
 obtain ⟨p1, p2, p3⟩ := aC9 hp.2.1.1 hp.2.1.2
 have LO : ∀ k : Int, aaS (pgD k d, ()) = some (1 + Int.tmod d.2.2.2.2.2.2.1.2.1 3, ()) := by intro k; rw [← p1]; rfl
 have hgi : ∀ k : Nat, k < d.2.2.2.2.2.1.1.length → 0 ≤ gi d.2.2.2.2.2.1.1 (k : Int) 0 ∧ gi d.2.2.2.2.2.1.1 (k : Int) 0 ≤ 255 := by
  intro k hk; rw [aaL]; exact hgz _ (abH hk 0)
 unfold adW
 refine aaA (alY (fun j => j.1 = ins ∧ 1 ≤ j.2.1 ∧ j.2.1 ≤ 3) ?_ ?_)
 ·exact aaA (aaA (aaN (aaA (aaA (aaP ⟨rfl, by rw [o1]; dsimp only; omega, by rw [o1]; dsimp only; omega⟩)))))
 intro j hj
 obtain ⟨a, b, u⟩ := j
 obtain ⟨rfl, hb1, hb3⟩ := hj
 dsimp only at hi hb1 hb3
 have hk1 : 1 ≤ kD d ∧ kD d ≤ 4 := by rw [ek]; omega
 unfold aj4 aeA aeB aeC acA acB acC
 have hw1 : w64 (0 + 1) = ((1 : Nat) : Int) := rfl
 have hw2 : w64 (w64 (0 + 1) + 1) = ((2 : Nat) : Int) := rfl
 have hw3 : w64 (w64 (w64 (0 + 1) + 1) + 1) = ((3 : Nat) : Int) := rfl
 have m00 : aaQ (mD (abM d.2.2.2.1)) := ab8 hr.hd
 have m01 : aaQ (mD (List.tail ((abM d.2.2.2.1)))) := ab8 hr.hd.tl
 have m02 : aaQ (mD (List.tail (List.tail ((abM d.2.2.2.1))))) := ab8 hr.hd.tl.tl
 have m03 : aaQ (mD (List.tail (List.tail (List.tail ((abM d.2.2.2.1)))))) := ab8 hr.hd.tl.tl.tl
 have m10 : aaQ (mD (abM (List.tail d.2.2.2.1))) := ab8 hr.tl.hd
 have m11 : aaQ (mD (List.tail ((abM (List.tail d.2.2.2.1))))) := ab8 hr.tl.hd.tl
 have m12 : aaQ (mD (List.tail (List.tail ((abM (List.tail d.2.2.2.1)))))) := ab8 hr.tl.hd.tl.tl
 have m13 : aaQ (mD (List.tail (List.tail (List.tail ((abM (List.tail d.2.2.2.1))))))) := ab8 hr.tl.hd.tl.tl.tl
 have m20 : aaQ (mD (abM (List.tail (List.tail d.2.2.2.1)))) := ab8 hr.tl.tl.hd
 have m21 : aaQ (mD (List.tail ((abM (List.tail (List.tail d.2.2.2.1)))))) := ab8 hr.tl.tl.hd.tl
 have m22 : aaQ (mD (List.tail (List.tail ((abM (List.tail (List.tail d.2.2.2.1))))))) := ab8 hr.tl.tl.hd.tl.tl
 have m23 : aaQ (mD (List.tail (List.tail (List.tail ((abM (List.tail (List.tail d.2.2.2.1)))))))) := ab8 hr.tl.tl.hd.tl.tl.tl
 have m30 : aaQ (mD (abM (List.tail (List.tail (List.tail d.2.2.2.1))))) := ab8 hr.tl.tl.tl.hd
 have m31 : aaQ (mD (List.tail ((abM (List.tail (List.tail (List.tail d.2.2.2.1))))))) := ab8 hr.tl.tl.tl.hd.tl
 have m32 : aaQ (mD (List.tail (List.tail ((abM (List.tail (List.tail (List.tail d.2.2.2.1)))))))) := ab8 hr.tl.tl.tl.hd.tl.tl
 have m33 : aaQ (mD (List.tail (List.tail (List.tail ((abM (List.tail (List.tail (List.tail d.2.2.2.1))))))))) := ab8 hr.tl.tl.tl.hd.tl.tl.tl
 have q0 : aaQ (oD d.2.2.2.2.1) := aoC hof
 have q1 : aaQ (oD (List.tail d.2.2.2.2.1)) := aoC hof.tl
 have q2 : aaQ (oD (List.tail (List.tail d.2.2.2.2.1))) := aoC hof.tl.tl
 have q3 : aaQ (oD (List.tail (List.tail (List.tail d.2.2.2.2.1)))) := aoC hof.tl.tl.tl
 repeat' (first
  | refine aaA ?_
  | refine aF2 (by first | exact hc.hd | exact hc.tl.hd | exact hc.tl.tl.hd | exact hc.tl.tl.tl.hd) (fun v hv => ?_)
  | refine aID (hq _ zc zc).1 (fun v hv1 hv2 => ?_)
  | refine aaY _ (LO _) ?_
  | refine aaE zc ?_
  | refine aaE ⟨by first | omega | exact xp _, by rw [aaB]; omega⟩ ?_
  | refine aIF hg ⟨⟨by simp, by simp⟩, by intro n hn; simp at hn; first | (subst hn; omega) | (subst hn; first | exact hgi 0 zc) | (rcases hn with h | h <;> subst h <;> first | omega | exact hgi 0 zc | exact hgi 1 zc) | (rcases hn with h | h | h <;> subst h <;> first | omega | exact hgi 0 zc | exact hgi 1 zc | exact hgi 2 zc)⟩ zc (fun v hv1 hv2 => ?_)
  | (refine aaK (fun h => ?_) (fun h => ?_) <;> simp only [zB, xo, zu, beq_eq_false_iff_ne, ne_eq] at h <;> try simp only [aaB] at h))
 all_goals (try subst_vars)
 all_goals (try dsimp only)
 all_goals first
  | (refine aaP (aLv zc (by simp; try omega) hi ?_); intro c hc'; simp at hc'; first | (subst hc'; assumption) | (rcases hc' with h | h <;> (subst h; assumption)) | (rcases hc' with h | h | h <;> (subst h; assumption)) | (rcases hc' with h | h | h | h <;> (subst h; assumption)))
  | (refine aaP (aLu zc hi ⟨Nat.le_of_ble_eq_true rfl, Nat.le_of_ble_eq_true rfl⟩ rfl ?_ ?_) <;> repeat' (first | exact am3 _ | assumption | exact rfl | refine all_cons ?_ ?_ | refine ⟨?_, ?_⟩))
  | (refine aaP (aLw (g := v) zc hv1 ?_); rw [hv2]; simp)
  | (exact aaP (aLt zc zc ⟨by omega, by omega⟩ hv1 (hv2 _ (hq _ zc zc).2)))
  | (exfalso; omega)
noncomputable def ab3 (x : DeT × Int × Unit) : Option (ElT × Unit) := (adW x.1 x.2.1).toO
set_option maxRecDepth 100000
open Go Go.Vg Go.Proofs
noncomputable section
abbrev d0D : DeT := (0, 0, List.replicate 4 c0D, List.replicate 4 (List.replicate 4 0), List.replicate 4 0, ([], 0, [], false, ()), (0, 0, [], ()), ())
abbrev gD (l : List DeT) (i : Int) : DeT := gi l i d0D
abbrev c4D (l : List CdT) : List CdT := [cD (List.headD l c0D), cD (List.headD (List.tail l) c0D), cD (List.headD (List.tail (List.tail l)) c0D), cD (List.headD (List.tail (List.tail (List.tail l))) c0D)]
abbrev r4D (l : List Int) : List Int := [List.headD l 0, List.headD (List.tail l) 0, List.headD (List.tail (List.tail l)) 0, List.headD (List.tail (List.tail (List.tail l))) 0]
abbrev aMe (l : List (List Int)) : List (List Int) := [r4D (abM l), r4D (abM (List.tail l)), r4D (abM (List.tail (List.tail l))), r4D (abM (List.tail (List.tail (List.tail l))))]
abbrev reD (k : Int) (d : DeT) : DeT := (k, d.2.1, c4D d.2.2.1, aMe d.2.2.2.1, r4D d.2.2.2.2.1, grD d, (d.2.2.2.2.2.2.1.1, d.2.2.2.2.2.2.1.2.1, d.2.2.2.2.2.2.1.2.2.1, ()), ())
def aBV : LTab := [(10, 122, 8194, ⟨0, (Int) × (Int) × Bool × (List ElT) × Unit, .dat (.s 7) xW <| .dat (.s 6) xW <| .appN (.c 4 1) 8 59 tyE <| .nil, [5, 4, 2], [4, 1, 0], 1⟩)]
def ao2 (d : DcT) (in0 : Int) (i : (Int) × (Int) × Bool × (List ElT) × Unit) : TT (((Int) × (Int) × Bool × (List ElT) × Unit) ⊕ (ChT × Unit)) :=
 .ite (i.2.2.1)
 (.ite (decide (i.1 < len d.2.1))
 (.ite (decide (i.1 < 3))
 (.need (inb i.1 (len d.2.1)) <| .ite (d.2.2.1)
 (.triv (asT Int 2 ≠ 0) zd <| .call (ab3 (reD (wu8 (2 * Int.tmod (gD d.2.1 i.1).1 2)) (gD d.2.1 i.1), i.2.1, ())) Dz9 fun y =>
 .need (1 * 176 ≤ 140737488355328) <| .call (adN ((rE y.1), ())) Dz0 fun y1 =>
 .tt <| .lt (w64 (i.1 + 1) : Int) fun z1 => .lt ([(rE y.1)] : List ElT) fun z2 => .xC (xO y1.1 z1 <| wG ∧ wd ∧ xZ ∧ True) <| .xC (xB (xR 59 z2) <| xB (xO 28 in0 <| (xT 8 0 1 true) ∧ True) <| xB wH <| xB (xD 24 d.1 d.2.1 d.2.2.1) True) <| .ok (.inl ((z1, y1.1, false, z2, ()))))
 (.call (ab3 (reD ((gD d.2.1 i.1).1) (gD d.2.1 i.1), i.2.1, ())) Dz9 fun y2 =>
 .need (1 * 176 ≤ 140737488355328) <| .call (adN ((rE y2.1), ())) Dz0 fun y3 =>
 .tt <| .lt (w64 (i.1 + 1) : Int) fun z3 => .lt ([(rE y2.1)] : List ElT) fun z4 => .xC (xO y3.1 z3 <| wG ∧ wd ∧ xZ ∧ True) <| .xC (xB (xR 59 z4) <| xB (xO 28 in0 <| (xT 8 0 1 true) ∧ True) <| xB wH <| xB (xD 24 d.1 d.2.1 d.2.2.1) True) <| .ok (.inl ((z3, y3.1, false, z4, ())))))
 (.ok (.inr (((in0, [], ()), ())))))
 (.ok (.inr (((in0, [], ()), ())))))
 (.ite (decide (i.1 < len d.2.1))
 (.ite (decide (i.1 < 3))
 (.need (inb i.1 (len d.2.1)) <| .ite (d.2.2.1)
 (.triv (asT Int 2 ≠ 0) zd <| .call (ab3 (reD (wu8 (2 * Int.tmod (gD d.2.1 i.1).1 2)) (gD d.2.1 i.1), i.2.1, ())) Dz9 fun y4 =>
 .need ((List.length i.2.2.2.1 + 1) * 176 ≤ 140737488355328) <| .call (adN ((rE y4.1), ())) Dz0 fun y5 =>
 .tt <| .lt (w64 (i.1 + 1) : Int) fun z5 => .lt (List.take (List.length i.2.2.2.1) i.2.2.2.1 ++ [(rE y4.1)] : List ElT) fun z6 => .xC (xO y5.1 z5 <| wG ∧ wd ∧ xZ ∧ True) <| .need ((((59 : TypeId) = 59) ∧ ((z6 : List ElT) = z6)) ∧ (true = true) ∧ (((28 : TypeId) = 28) ∧ (((in0) = (in0)) ∧ ((((8) = (8)) ∧ (((0) = (0)) ∧ ((List.length i.2.2.2.1 + 1 = List.length z6) ∧ ((true) = (true))))) ∧ True))) ∧ (true = true) ∧ (((28 : TypeId) = 28) ∧ (((0 : Int) = 0) ∧ wl)) ∧ (true = true) ∧ (((24 : TypeId) = 24) ∧ (((d.1 : Int) = d.1) ∧ (((d.2.1 : List DeT) = d.2.1) ∧ (((d.2.2.1) = (d.2.2.1)) ∧ True)))) ∧ (true = true) ∧ True) <| .ok (.inl ((z5, y5.1, false, z6, ()))))
 (.call (ab3 (reD ((gD d.2.1 i.1).1) (gD d.2.1 i.1), i.2.1, ())) Dz9 fun y6 =>
 .need ((List.length i.2.2.2.1 + 1) * 176 ≤ 140737488355328) <| .call (adN ((rE y6.1), ())) Dz0 fun y7 =>
 .tt <| .lt (w64 (i.1 + 1) : Int) fun z7 => .lt (List.take (List.length i.2.2.2.1) i.2.2.2.1 ++ [(rE y6.1)] : List ElT) fun z8 => .xC (xO y7.1 z7 <| wG ∧ wd ∧ xZ ∧ True) <| .need ((((59 : TypeId) = 59) ∧ ((z8 : List ElT) = z8)) ∧ (true = true) ∧ (((28 : TypeId) = 28) ∧ (((in0) = (in0)) ∧ ((((8) = (8)) ∧ (((0) = (0)) ∧ ((List.length i.2.2.2.1 + 1 = List.length z8) ∧ ((true) = (true))))) ∧ True))) ∧ (true = true) ∧ (((28 : TypeId) = 28) ∧ (((0 : Int) = 0) ∧ wl)) ∧ (true = true) ∧ (((24 : TypeId) = 24) ∧ (((d.1 : Int) = d.1) ∧ (((d.2.1 : List DeT) = d.2.1) ∧ (((d.2.2.1) = (d.2.2.1)) ∧ True)))) ∧ (true = true) ∧ True) <| .ok (.inl ((z7, y7.1, false, z8, ())))))
 (.ok (.inr (((in0, List.take (List.length i.2.2.2.1) i.2.2.2.1, ()), ())))))
 (.ok (.inr (((in0, List.take (List.length i.2.2.2.1) i.2.2.2.1, ()), ())))))
def ag2 (d : DcT) (in0 : Int) : TT (ChT × Unit) :=
 .loop 0 (.tt <| .lt ([] : List ElT) fun z => .xC (xO in0 (0 : Int) <| wG ∧ wd ∧ xZ ∧ True) <| .xC (xB (xO 28 in0 <| True ∧ True) <| xB wH <| xB (xD 24 d.1 d.2.1 d.2.2.1) True) <| .ok ((0, in0, true, z, ()))) (ao2 d in0)
end
theorem azM {x : ElT} (h : ab0 x) : 1 ≤ aiX x ∧ aiX x ≤ 4 := by
 rcases h with ⟨e, -, -, -, h1, -⟩ | ⟨e, -, -, -, h1, -⟩ | ⟨e, -, -, -, h1⟩ | ⟨e, -, -, -, h1⟩
 ·unfold aiX; rw [if_pos e]; omega
 ·unfold aiX; rw [if_neg zc, if_pos e]; omega
 ·unfold aiX; rw [if_neg zc, if_neg zc, if_pos e]; exact h1.2.1
 ·unfold aiX; rw [if_neg zc, if_neg zc, if_neg zc]
  unfold ad7 at h1
  split at h1
  ·rename_i c; exact c.2.1
  ·cases h1
theorem aDr {x : ElT} (h : ab0 x) : shE x := by
 have z : ∀ {α : Type} {l : List α} {n : Nat}, l.length ≤ n → n ≤ 1000000000000 → shL l := fun h1 h2 => zE h1 h2
 rcases h with ⟨-, ⟨a, b⟩, ⟨c, -, d⟩, ⟨e, -, -⟩, ⟨-, h4⟩, h1⟩ | ⟨-, a, ⟨c, -, d⟩, ⟨e, -, -⟩, ⟨-, h4⟩, h2, ⟨-, h3⟩, h5, -⟩ | ⟨-, a, ⟨b, c⟩, ⟨e, -, -⟩, ⟨-, h4⟩, -, -, h5, -⟩ | ⟨-, a, ⟨b, c⟩, ⟨d, -, f⟩, h1⟩
 ·exact ⟨⟨z h4 zc, fun c hc => aDs (h1 c hc)⟩, by rw [a]; exact ⟨z (zm 0) zc, fun _ h => by cases h⟩, by rw [b]; exact z (zm 0) zc, ⟨by rw [c]; exact z (zm 0) zc, by rw [d]; exact z (zm 0) zc⟩, by rw [e]; exact z (zm 0) zc⟩
 ·exact ⟨by rw [a]; exact ⟨z (zm 0) zc, fun _ h => by cases h⟩, ⟨z h4 zc, fun r hr => z (n := 4) (by have := (h5 r hr).1; omega) zc⟩, z (n := 4) zc zc, ⟨by rw [c]; exact z (zm 0) zc, by rw [d]; exact z (zm 0) zc⟩, by rw [e]; exact z (zm 0) zc⟩
 ·exact ⟨by rw [a]; exact ⟨z (zm 0) zc, fun _ h => by cases h⟩, by rw [b]; exact ⟨z (zm 0) zc, fun _ h => by cases h⟩, by rw [c]; exact z (zm 0) zc, ⟨z h4 zc, z h5 zc⟩, by rw [e]; exact z (zm 0) zc⟩
 ·refine ⟨by rw [a]; exact ⟨z (zm 0) zc, fun _ h => by cases h⟩, by rw [b]; exact ⟨z (zm 0) zc, fun _ h => by cases h⟩, by rw [c]; exact z (zm 0) zc, ⟨by rw [d]; exact z (zm 0) zc, by rw [f]; exact z (zm 0) zc⟩, ?_⟩
  unfold ad7 at h1
  split at h1
  ·rename_i c; exact z c.2.2 zc
  ·cases h1
theorem aJF {d : DeT} (h : wfE d) {k : Int} (hk : 0 ≤ k ∧ k ≤ 255) : wfE (reD k d) := by
 obtain ⟨-, ho, hc, hr, hof, hg, hp⟩ := h
 have r4 : ∀ l : List Int, i16L l → i16L (r4D l) := fun l hl => all_cons hl.hd (all_cons hl.tl.hd (all_cons hl.tl.tl.hd (all_cons hl.tl.tl.tl.hd (am3 _))))
 exact ⟨hk, ho, all_cons hc.hd (all_cons hc.tl.hd (all_cons hc.tl.tl.hd (all_cons hc.tl.tl.tl.hd (am3 _)))),
  all_cons (r4 _ hr.hd) (all_cons (r4 _ hr.tl.hd) (all_cons (r4 _ hr.tl.tl.hd) (all_cons (r4 _ hr.tl.tl.tl.hd) (am3 _)))), r4 _ hof, hg, hp⟩
def wfC (d : DcT) : Prop := (0 ≤ d.1 ∧ d.1 ≤ 255) ∧ shM d.2.1 ∧ ∀ p ∈ d.2.1, wfE p
def aES (n : Int) (c : ChT) : Prop := c.1 = n ∧ c.2.1.length ≤ 3 ∧ (∀ x ∈ c.2.1, shE x) ∧ ∃ m, adQ n c.2.1 = some m ∧ 1 ≤ m ∧ m ≤ 4
theorem akI (d : DcT) (hd : wfC d) (ins : Int) (hi : 1 ≤ ins ∧ ins ≤ 4) : WP (ag2 d ins) fun y => aES ins y.1 := by
 obtain ⟨d1, ps, tm, u⟩ := d
 obtain ⟨-, hl, hp⟩ := hd
 dsimp only at hl hp
 have hl' : ps.length ≤ 140737488355328 := hl
 unfold ag2
 refine ae4 (fun i : Int × Int × Bool × List ElT × Unit => ∃ k : Nat, i.1 = (k : Int) ∧ k ≤ 3 ∧ k ≤ ps.length ∧ i.2.2.2.1.length = k ∧ adQ ins i.2.2.2.1 = some i.2.1 ∧ (1 ≤ i.2.1 ∧ i.2.1 ≤ 4) ∧ (∀ x ∈ i.2.2.2.1, shE x) ∧ (i.2.2.1 = true → i.2.2.2.1 = [])) (fun i => (3 - i.1).toNat)
  (aaA (aaN (aaA (aaA (aaP ⟨0, rfl, by omega, zK _, rfl, rfl, hi, fun x h => (by cases h), fun _ => rfl⟩))))) ?_
 intro i hI
 obtain ⟨i, n, f, l, v⟩ := i
 obtain ⟨k, e, hk3, hkl, hll, ho, hn, hs, hf⟩ := hI
 dsimp only at e hll ho hn hs hf
 subst e
 have ewk : w64 ((k : Int) + 1) = ((k + 1 : Nat) : Int) := (aaF ⟨by omega, by omega⟩).trans zc
 have hel : ∀ kk : Int, 0 ≤ kk ∧ kk ≤ 255 → k < ps.length → ∃ x, ab3 (reD kk (gD ps (k : Int)), n, ()) = some (x, ()) ∧ shE x ∧ adN (rE x, ()) = some (aiX x, 0, ()) ∧ 1 ≤ aiX x ∧ aiX x ≤ 4 ∧ adQ ins (l ++ [x]) = some (aiX x) := by
  intro kk hkk h
  have hw := hp _ (abH h d0D)
  obtain ⟨⟨x, w⟩, ex, r1, r2⟩ := arQ (reD kk (gD ps (k : Int))) (aJF (by show wfE (gi ps (k : Int) d0D); rw [aaL]; exact hw) hkk) n hn
  have ex : ab3 (reD kk (gD ps (k : Int)), n, ()) = some (x, ()) := ex
  dsimp only at r1 r2
  have hsx := aDr r1
  refine ⟨x, ex, hsx, ?_, (azM r1).1, (azM r1).2, ?_⟩
  ·have := aIC hsx; rw [if_pos r1] at this; exact this
  ·rw [aiW, ho]
   show adQ n [x] = _
   simp only [adQ]
   rw [if_pos ⟨r1, r2⟩]
 have hk0 : k < ps.length → 0 ≤ (gD ps (k : Int)).1 ∧ (gD ps (k : Int)).1 ≤ 255 := by
  intro h
  have hw := hp _ (abH h d0D)
  show 0 ≤ (gi ps (k : Int) d0D).1 ∧ (gi ps (k : Int) d0D).1 ≤ 255
  rw [aaL]; exact hw.1
 have hwu : ∀ a : Int, 0 ≤ wu8 a ∧ wu8 a ≤ 255 := fun a => by
  have e : wu8 a = a % 256 := rfl
  rw [e]; omega
 have etk : List.take (List.length l) l = l := zF
 unfold ao2
 cases f with
 | true =>
  have el := hf rfl
  subst el
  have hll : 0 = k := hll
  refine aaK (fun _ => ?_) (fun h => by cases h)
  refine aaK (fun a => ?_) (fun a => ?_)
  ·have a' : (k : Int) < len ps := of_decide_eq_true a
   rw [aaB] at a'
   have hkl' : k < ps.length := zc
   refine aaK (fun b => ?_) (fun b => ?_)
   ·have b' : (k : Int) < 3 := of_decide_eq_true b
    refine aaE ⟨by dsimp only; omega, by rw [aaB]; dsimp only; omega⟩ (aaK (fun c => ?_) (fun c => ?_))
    ·refine aaA ?_
     obtain ⟨x, ex, hx, ey, o1, o2, eo⟩ := hel _ (hwu _) hkl'
     refine aaY _ ex (aaE zc (aaY _ ey (aaA (aaN (aaN (aaA (aaA (aaP ⟨⟨k + 1, ewk, by omega, by omega, ?_, ?_, ⟨o1, o2⟩, ?_, fun h => by cases h⟩, ?_⟩))))))))
     ·show 1 = k + 1; omega
     ·exact eo
     ·exact all_cons hx (am3 _)
     ·show (3 - w64 ((k : Int) + 1)).toNat < (3 - (k : Int)).toNat
      rw [ewk]; omega
    ·have := hkl'
     obtain ⟨x, ex, hx, ey, o1, o2, eo⟩ := hel _ (hk0 hkl') hkl'
     refine aaY _ ex (aaE zc (aaY _ ey (aaA (aaN (aaN (aaA (aaA (aaP ⟨⟨k + 1, ewk, by omega, by omega, ?_, ?_, ⟨o1, o2⟩, ?_, fun h => by cases h⟩, ?_⟩))))))))
     ·show 1 = k + 1; omega
     ·exact eo
     ·exact all_cons hx (am3 _)
     ·show (3 - w64 ((k : Int) + 1)).toNat < (3 - (k : Int)).toNat
      rw [ewk]; omega
   ·exact aaP ⟨rfl, by simp, fun x h => (by cases h), n, ho, hn⟩
  ·exact aaP ⟨rfl, by simp, fun x h => (by cases h), n, ho, hn⟩
 | false =>
  refine aaK (fun h => by cases h) (fun _ => ?_)
  have hfin : aES ins (ins, List.take (List.length l) l, ()) := by
   rw [etk]; exact ⟨rfl, by dsimp only; omega, hs, n, ho, hn⟩
  refine aaK (fun a => ?_) (fun a => ?_)
  ·have a' : (k : Int) < len ps := of_decide_eq_true a
   rw [aaB] at a'
   have hkl' : k < ps.length := zc
   refine aaK (fun b => ?_) (fun b => ?_)
   ·have b' : (k : Int) < 3 := of_decide_eq_true b
    refine aaE ⟨by dsimp only; omega, by rw [aaB]; dsimp only; omega⟩ (aaK (fun c => ?_) (fun c => ?_))
    ·refine aaA ?_
     obtain ⟨x, ex, hx, ey, o1, o2, eo⟩ := hel _ (hwu _) hkl'
     refine aaY _ ex (aaE (by show (l.length + 1) * 176 ≤ 140737488355328; omega) (aaY _ ey (aaA (aaN (aaN (aaA (aaE ze (aaP ⟨⟨k + 1, ewk, by omega, by omega, ?_, ?_, ⟨o1, o2⟩, ?_, fun h => by cases h⟩, ?_⟩))))))))
     ·show (List.take l.length l ++ [x]).length = k + 1
      rw [etk, zz]; simp; omega
     ·show adQ ins (List.take l.length l ++ [x]) = _
      rw [etk]; exact eo
     ·show ∀ y ∈ List.take l.length l ++ [x], shE y
      rw [etk]
      intro y hy
      rcases zw.1 hy with h | h
      ·exact hs y h
      ·rw [zJ.1 h]; exact hx
     ·show (3 - w64 ((k : Int) + 1)).toNat < (3 - (k : Int)).toNat
      rw [ewk]; omega
    ·have := hkl'
     obtain ⟨x, ex, hx, ey, o1, o2, eo⟩ := hel _ (hk0 hkl') hkl'
     refine aaY _ ex (aaE (by show (l.length + 1) * 176 ≤ 140737488355328; omega) (aaY _ ey (aaA (aaN (aaN (aaA (aaE ze (aaP ⟨⟨k + 1, ewk, by omega, by omega, ?_, ?_, ⟨o1, o2⟩, ?_, fun h => by cases h⟩, ?_⟩))))))))
     ·show (List.take l.length l ++ [x]).length = k + 1
      rw [etk, zz]; simp; omega
     ·show adQ ins (List.take l.length l ++ [x]) = _
      rw [etk]; exact eo
     ·show ∀ y ∈ List.take l.length l ++ [x], shE y
      rw [etk]
      intro y hy
      rcases zw.1 hy with h | h
      ·exact hs y h
      ·rw [zJ.1 h]; exact hx
     ·show (3 - w64 ((k : Int) + 1)).toNat < (3 - (k : Int)).toNat
      rw [ewk]; omega
   ·exact aaP hfin
  ·exact aaP hfin
noncomputable def adM (x : DcT × Int × Unit) : Option (ChT × Unit) := (ag2 x.1 x.2.1).toO
set_option maxRecDepth 100000
open Go Go.Vg Go.Proofs
noncomputable section
def ay9 : LTab := []
def ahL (d : DcT) : TT (ChT × Unit) :=
 .triv (asT Int 3 ≠ 0) zd <| .call (adM ((d.1, d.2.1, d.2.2.1, ()), w64 (1 + w64 (Int.tmod d.1 3)), ())) aK7 fun y =>
 .ok (((y.1.1, y.1.2.1, ()), ()))
end
noncomputable def ah5 (x : DcT × Unit) : Option (ChT × Unit) := (ahL x.1).toO
def ak3 (_ : DcT × DcT × DcT × Int × Unit) : Option (Bool × Unit) := some (true, ())
set_option maxRecDepth 100000
open Go Go.Vg Go.Proofs
noncomputable section
def aAH : LTab := []
def ah7 (d : DcT) (other : DcT) (third : DcT) (at0 : Int) : TT wc :=
 .call (aq5 ()) Dz2 fun y =>
 .ite (!y.1)
 (.ok ((false, ())))
 (.call (ah5 ((d.1, d.2.1, d.2.2.1, ()), ())) aK7 fun y1 =>
 .need (w64 (len y1.1.2.1 + 1) ≠ 0) <| .call (aeV ((y1.1.1, y1.1.2.1, ()), 0, Int.tmod (w64 at0) (w64 (len y1.1.2.1 + 1)), ())) aBB fun y2 =>
 .call (aeV ((y1.1.1, y1.1.2.1, ()), Int.tmod (w64 at0) (w64 (len y1.1.2.1 + 1)), len y1.1.2.1, ())) aBB fun y3 =>
 .call (abA ((y2.1.1, y2.1.2.1, ()), (y3.1.1, y3.1.2.1, ()), ())) aBB fun y4 =>
 .call (aeV ((y1.1.1, y1.1.2.1, ()), 0, len y1.1.2.1, ())) aBB fun y5 =>
 .call (ad4 ((y1.1.1, y1.1.2.1, ()), ())) Dz0 fun y6 =>
 .ite (y2.2.1 != 0)
 (.ok ((false, ())))
 (.ite (y3.2.1 != 0)
 (.ok ((false, ())))
 (.ite (y4.2.1 != 0)
 (.ok ((false, ())))
 (.ite (y5.2.1 != 0)
 (.ok ((false, ())))
 (.ite (y6.2.1 != 0)
 (.ok ((false, ())))
 (.call (acY ((y4.1.1, y4.1.2.1, ()), (y1.1.1, y1.1.2.1, ()), ())) Dz2 fun y7 =>
 .ite (!y7.1)
 (.ok ((false, ())))
 (.call (acY ((y5.1.1, y5.1.2.1, ()), (y1.1.1, y1.1.2.1, ()), ())) Dz2 fun y8 =>
 .ite (!y8.1)
 (.ok ((false, ())))
 (.ite (len y2.1.2.1 != Int.tmod (w64 at0) (w64 (len y1.1.2.1 + 1)))
 (.ok ((false, ())))
 (.call (abA ((y1.1.1, [], ()), (y1.1.1, y1.1.2.1, ()), ())) aBB fun y9 =>
 .call (abA ((y1.1.1, y1.1.2.1, ()), (y6.1, [], ()), ())) aBB fun y10 =>
 .ite (y9.2.1 != 0)
 (.ok ((false, ())))
 (.ite (y10.2.1 != 0)
 (.ok ((false, ())))
 (.call (acY ((y9.1.1, y9.1.2.1, ()), (y1.1.1, y1.1.2.1, ()), ())) Dz2 fun y11 =>
 .ite (!y11.1)
 (.ok ((false, ())))
 (.call (acY ((y10.1.1, y10.1.2.1, ()), (y1.1.1, y1.1.2.1, ()), ())) Dz2 fun y12 =>
 .ite (!y12.1)
 (.ok ((false, ())))
 (.call (adM ((other.1, other.2.1, other.2.2.1, ()), y6.1, ())) aK7 fun y13 =>
 .call (ad4 ((y13.1.1, y13.1.2.1, ()), ())) Dz0 fun y14 =>
 .ite (y14.2.1 != 0)
 (.ok ((false, ())))
 (.call (adM ((third.1, third.2.1, third.2.2.1, ()), y14.1, ())) aK7 fun y15 =>
 .ite (decide (len y15.1.2.1 > 2))
 (.call (abA ((y1.1.1, y1.1.2.1, ()), (y13.1.1, y13.1.2.1, ()), ())) aBB fun y16 =>
 .call (abA ((y16.1.1, y16.1.2.1, ()), (y15.1.1, [], ()), ())) aBB fun y17 =>
 .call (abA ((y13.1.1, y13.1.2.1, ()), (y15.1.1, [], ()), ())) aBB fun y18 =>
 .call (abA ((y1.1.1, y1.1.2.1, ()), (y18.1.1, y18.1.2.1, ()), ())) aBB fun y19 =>
 .ite (y16.2.1 == 0)
 (.ite (y17.2.1 == 0)
 (.ite (y18.2.1 == 0)
 (.ite (y19.2.1 == 0)
 (.call (acY ((y17.1.1, y17.1.2.1, ()), (y19.1.1, y19.1.2.1, ()), ())) Dz2 fun y20 =>
 .ok ((y20.1, ())))
 (.ok ((false, ()))))
 (.ok ((false, ()))))
 (.ok ((false, ()))))
 (.ok ((false, ()))))
 (.call (abA ((y1.1.1, y1.1.2.1, ()), (y13.1.1, y13.1.2.1, ()), ())) aBB fun y21 =>
 .call (abA ((y21.1.1, y21.1.2.1, ()), (y15.1.1, y15.1.2.1, ()), ())) aBB fun y22 =>
 .call (abA ((y13.1.1, y13.1.2.1, ()), (y15.1.1, y15.1.2.1, ()), ())) aBB fun y23 =>
 .call (abA ((y1.1.1, y1.1.2.1, ()), (y23.1.1, y23.1.2.1, ()), ())) aBB fun y24 =>
 .ite (y21.2.1 == 0)
 (.ite (y22.2.1 == 0)
 (.ite (y23.2.1 == 0)
 (.ite (y24.2.1 == 0)
 (.call (acY ((y22.1.1, y22.1.2.1, ()), (y24.1.1, y24.1.2.1, ()), ())) Dz2 fun y25 =>
 .ok ((y25.1, ())))
 (.ok ((false, ()))))
 (.ok ((false, ()))))
 (.ok ((false, ()))))
 (.ok ((false, ()))))))))))))))))))
end
theorem av7 (d : DcT) (hd : wfC d) : WP (ahL d) fun y => ∃ n, 1 ≤ n ∧ n ≤ 4 ∧ aES n y.1 := by
 have h3 := aC9 hd.1.1 hd.1.2
 obtain ⟨⟨c, u⟩, ec, gc⟩ := akI d hd (1 + Int.tmod d.1 3) ⟨by omega, by omega⟩
 have ec : adM ((d.1, d.2.1, d.2.2.1, ()), w64 (1 + w64 (Int.tmod d.1 3)), ()) = some (c, ()) := by rw [h3.1]; exact ec
 exact aaA (aaY _ ec (aaP ⟨_, by omega, by omega, gc⟩))
def okCh (c : ChT) (n m : Int) : Prop := c.1 = n ∧ (1 ≤ n ∧ n ≤ 4) ∧ (∀ x ∈ c.2.1, shE x) ∧ adQ n c.2.1 = some m
theorem okCh.sh {c : ChT} {n m : Int} (h : okCh c n m) (hl : c.2.1.length ≤ 8) : ay0 c := ⟨zE hl zc, h.2.2.1⟩
theorem okCh.outs {c : ChT} {n m : Int} (h : okCh c n m) (hl : c.2.1.length ≤ 8) : adZ c = some m := by
 unfold adZ
 rw [if_pos ⟨by rw [h.1]; exact h.2.1, hl⟩, h.1]; exact h.2.2.2
theorem okCh.app {a b : ChT} {n m k : Int} (ha : okCh a n m) (hb : okCh b m k) : okCh (a.1, a.2.1 ++ b.2.1, ()) n k :=
 ⟨ha.1, ha.2.1, fun x hx => (zw.1 hx).elim (ha.2.2.1 x) (hb.2.2.1 x), by
  show adQ n (a.2.1 ++ b.2.1) = _
  rw [aiW, ha.2.2.2]; exact hb.2.2.2⟩
theorem aF0 {a b : ChT} {n m k : Int} (ha : okCh a n m) (hb : okCh b m k) (h : a.2.1.length + b.2.1.length ≤ 8) : abA ((a.1, a.2.1, ()), (b.1, b.2.1, ()), ()) = some ((a.1, a.2.1 ++ b.2.1, ()), 0, ()) :=
 aFP (ha.sh zc) (hb.sh zc) (ha.outs zc) (hb.outs zc) hb.1 h
theorem aL6 {c : ChT} {n m : Int} (h : okCh c n m) (hl : c.2.1.length ≤ 8) : ad4 ((c.1, c.2.1, ()), ()) = some (m, 0, ()) := by
 have := arC (h.sh hl)
 rw [h.outs hl] at this
 exact this
theorem aLM {a b : ChT} {n m : Int} (h : okCh a n m) (hl : a.2.1.length ≤ 8) (e : a = b) : acY ((a.1, a.2.1, ()), (b.1, b.2.1, ()), ()) = some (true, ()) := by
 rw [aFO (h.sh hl), ac9 e]
theorem aLO {c : ChT} {n m : Int} (h : okCh c n m) (hl : c.2.1.length ≤ 8) {a b : Nat} (hab : a ≤ b) (hb : b ≤ c.2.1.length) {k : Int} (hk : adQ n (c.2.1.take a) = some k) :
  aeV ((c.1, c.2.1, ()), (a : Int), (b : Int), ()) = some ((k, (c.2.1.drop a).take (b - a), ()), 0, ()) := by
 refine (if_pos (h.sh hl)).trans ?_
 show some (match adZ c with | some _ => _ | none => _) = _
 rw [h.outs hl]
 dsimp only
 rw [if_pos ⟨by omega, by omega, by omega⟩, zA, h.1, hk]
 rfl
theorem aDI : ∀ {l : List ElT} {n k : Int}, (1 ≤ n ∧ n ≤ 4) → adQ n l = some k → 1 ≤ k ∧ k ≤ 4
 | [], _, _, hn, h => by cases h; exact hn
 | x :: l, n, k, _, h => by
  simp only [adQ] at h
  split at h
  ·rename_i c; exact aDI (azM c.1) h
  ·cases h
theorem ayL (d other third : DcT) (hd : wfC d) (ho : wfC other) (ht : wfC third) (at0 : Int) (ha : 0 ≤ at0 ∧ at0 ≤ 255) : (ah7 d other third at0).toO = some (true, ()) := by
 obtain ⟨⟨c, u⟩, ec, n, n1, n4, e1, l3, hs, m, hm, m1, m4⟩ := av7 d hd
 have ec : ah5 ((d.1, d.2.1, d.2.2.1, ()), ()) = some (c, ()) := ec
 dsimp only at e1 l3 hs hm
 have oc : okCh c n m := ⟨e1, ⟨n1, n4⟩, hs, hm⟩
 -- where the chain is cut
 have ew : w64 (len c.2.1 + 1) = ((c.2.1.length + 1 : Nat) : Int) := (aaF ⟨by rw [aaB]; omega, by rw [aaB]; omega⟩).trans (by rw [aaB]; omega)
 obtain ⟨k, ek, hk⟩ : ∃ k : Nat, Int.tmod (w64 at0) (w64 (len c.2.1 + 1)) = (k : Int) ∧ k ≤ c.2.1.length := by
  have ht := ad5 (a := w64 at0) (k := w64 (len c.2.1 + 1)) (by rw [ew]; omega) (by rw [aaF ⟨by omega, by omega⟩]; omega)
  rw [ew] at ht ⊢
  exact ⟨(Int.tmod (w64 at0) ((c.2.1.length + 1 : Nat) : Int)).toNat, by omega, by omega⟩
 obtain ⟨q, hq1, hq2⟩ : ∃ q, adQ n (c.2.1.take k) = some q ∧ adQ q (c.2.1.drop k) = some m := by
  have h := hm
  rw [← yB k c.2.1, aiW] at h
  cases hx : adQ n (c.2.1.take k) with
  | none => rw [hx] at h; cases h
  | some q => rw [hx] at h; exact ⟨q, rfl, h⟩
 have hq := aDI ⟨n1, n4⟩ hq1
 have l8 : c.2.1.length ≤ 8 := zc
 have oA : okCh (n, c.2.1.take k, ()) n q := ⟨rfl, ⟨n1, n4⟩, fun x hx => hs x (yh hx), hq1⟩
 have oB : okCh (q, c.2.1.drop k, ()) q m := ⟨rfl, hq, fun x hx => hs x (yU hx), hq2⟩
 have oN : okCh (n, [], ()) n n := ⟨rfl, ⟨n1, n4⟩, fun x hx => by (cases hx), rfl⟩
 have oM : okCh (m, [], ()) m m := ⟨rfl, ⟨m1, m4⟩, fun x hx => by (cases hx), rfl⟩
 have ecn : c = (n, c.2.1, ()) := by rw [← e1]
 have y2 : aeV ((c.1, c.2.1, ()), 0, (k : Int), ()) = some ((n, c.2.1.take k, ()), 0, ()) := by
  have := aLO oc l8 (zK k) hk (k := n) rfl
  simpa using this
 have y3 : aeV ((c.1, c.2.1, ()), (k : Int), len c.2.1, ()) = some ((q, c.2.1.drop k, ()), 0, ()) := by
  have := aLO oc l8 hk (zm _) hq1
  rw [zy (by rw [zR]; omega)] at this
  exact this
 have y4 : abA ((n, c.2.1.take k, ()), (q, c.2.1.drop k, ()), ()) = some ((n, c.2.1, ()), 0, ()) := by
  have := aF0 oA oB (by dsimp only; rw [zM, zR]; omega)
  dsimp only at this
  rw [yB] at this
  exact this
 have y5 : aeV ((c.1, c.2.1, ()), 0, len c.2.1, ()) = some ((n, c.2.1, ()), 0, ()) := by
  have := aLO oc l8 (zK _) (zm _) (k := n) rfl
  rw [yH, zy zc] at this
  exact this
 have y6 := aL6 oc l8
 have oc' : okCh (n, c.2.1, ()) n m := ⟨rfl, ⟨n1, n4⟩, hs, hm⟩
 have y7 := aLM oc' l8 ecn.symm
 have y9 : abA ((c.1, [], ()), (c.1, c.2.1, ()), ()) = some ((n, c.2.1, ()), 0, ()) := by rw [e1]; exact aF0 oN oc' zi
 have y10 : abA ((c.1, c.2.1, ()), (m, [], ()), ()) = some ((n, c.2.1, ()), 0, ()) := by
  have := aF0 oc' oM zi
  dsimp only at this
  rw [yD] at this
  rw [e1]; exact this
 obtain ⟨⟨s, u2⟩, es, f1, fl, fs, p, hp, p1, p4⟩ := akI other ho m ⟨m1, m4⟩
 have es : adM ((other.1, other.2.1, other.2.2.1, ()), m, ()) = some (s, ()) := es
 dsimp only at f1 fl fs hp
 have os : okCh s m p := ⟨f1, ⟨m1, m4⟩, fs, hp⟩
 have y14 := aL6 os zc
 obtain ⟨⟨t, u3⟩, et, g1, gl, gs, r, hr, r1, r4⟩ := akI third ht p ⟨p1, p4⟩
 have et : adM ((third.1, third.2.1, third.2.2.1, ()), p, ()) = some (t, ()) := et
 dsimp only at g1 gl gs hr
 have ot : okCh t p r := ⟨g1, ⟨p1, p4⟩, gs, hr⟩
 have ot0 : okCh (t.1, [], ()) p p := ⟨g1, ⟨p1, p4⟩, fun x hx => by (cases hx), rfl⟩
 unfold ah7
 refine uC _ (show aq5 () = some (true, ()) from rfl) (uF rfl (uC _ ec (uN (by dsimp only; rw [ew]; omega) ?_)))
 dsimp only
 rw [ek]
 refine uC _ y2 (uC _ y3 (uC _ y4 (uC _ y5 (uC _ y6 (uF rfl (uF rfl (uF rfl (uF rfl (uF rfl (uC _ y7 (uF rfl (uC _ y7 (uF rfl (uF ?_ ?_))))))))))))))
 ·show (len (c.2.1.take k) != (k : Int)) = false
  rw [aaB, zM, yl hk]; simp
 refine uC _ y9 (uC _ y10 (uF rfl (uF rfl (uC _ y7 (uF rfl (uC _ y7 (uF rfl (uC _ es (uC _ y14 (uF rfl (uC _ et ?_)))))))))))
 have z1 := aF0 oc os zc
 have oz1 := oc.app os
 by_cases hl : t.2.1.length > 2
 ·refine uT (zn (by rw [aaB]; dsimp only; omega)) ?_
  have z2 := aF0 oz1 ot0 zi
  have z3 := aF0 os ot0 zi
  have oz3 := os.app ot0
  have z4 := aF0 oc oz3 zi
  have z5 := aLM (b := (c.1, c.2.1 ++ (s.2.1 ++ []), ())) (oz1.app ot0) zi (by dsimp only; rw [yS])
  exact uC _ z1 (uC _ z2 (uC _ z3 (uC _ z4 (uT rfl (uT rfl (uT rfl (uT rfl (uC _ z5 rfl))))))))
 ·refine uF (zl (by rw [aaB]; dsimp only; omega)) ?_
  have z2 := aF0 oz1 ot zi
  have z3 := aF0 os ot zc
  have oz3 := os.app ot
  have z4 := aF0 oc oz3 zi
  have z5 := aLM (b := (c.1, c.2.1 ++ (s.2.1 ++ t.2.1), ())) (oz1.app ot) zi (by dsimp only; rw [yS])
  exact uC _ z1 (uC _ z2 (uC _ z3 (uC _ z4 (uT rfl (uT rfl (uT rfl (uT rfl (uC _ z5 rfl))))))))
theorem azF (d : PgT) (y) (h : ae2 (d, ()) = some y) : (awE d).toO = some y := h
theorem awD (d : PgT) (y) (h : aaS (d, ()) = some y) : (asK d).toO = some y := h
theorem ao4 (d : PgT) (y) (h : aaU (d, ()) = some y) : (adX d).toO = some y := h
theorem auD (a : List Int) (b : Int) (y) (h : aeO (a, b, ()) = some y) : (afP a b).toO = some y := h
theorem awG (d : GdT) (a : List Int) (b : Int) (y) (h : adP (d, a, b, ()) = some y) : (ag6 d a b).toO = some y := h
theorem awI (d : GdT) (a : List Int) (b : Int) (y) (h : aaG (d, a, b, ()) = some y) : (ag7 d a b).toO = some y := h
theorem ao3 (d : DeT) (b : Int) (y) (h : ab3 (d, b, ()) = some y) : (adW d b).toO = some y := h
theorem av6 (d : DcT) (b : Int) (y) (h : adM (d, b, ()) = some y) : (ag2 d b).toO = some y := h
theorem at4 (d : DcT) (y) (h : ah5 (d, ()) = some y) : (ahL d).toO = some y := h
abbrev aMb : Ty := .pair (.int .u8) (.pair (.sl (.int .u16)) (.pair (.sl (.pair (.int .u8) (.pair (.int .i16) (.pair (.int .i16) (.pair (.int .i16) (.pair (.int .u8) (.pair (.int .u8) .unit))))))) (.pair .bool (.pair .bool .unit))))
abbrev aMd : Ty := .pair (.sl (.int .u8)) (.pair (.int .u8) (.pair (.sl (.int .u16)) (.pair .bool .unit)))
abbrev aMc : Ty := .pair (.int .u8) (.pair (.int .u8) (.pair (.sl (.pair (.int .u8) (.pair (.int .i16) .unit))) .unit))
abbrev aLR : Ty := .pair (.int .u8) (.pair (.int .u8) (.pair (.arr 4 aMb) (.pair (.arr 4 (.arr 4 (.int .i16))) (.pair (.arr 4 (.int .i16)) (.pair aMd (.pair aMc .unit))))))
abbrev aKR : Ty := .pair (.int .u8) (.pair (.sl aLR) (.pair .bool .unit))
theorem aK9 {x : DeT} (h : Wf aLR x) : wfE x := by
 obtain ⟨h1, h2, ⟨-, h3⟩, ⟨-, h4⟩, ⟨-, h5⟩, ⟨⟨g0, g1⟩, g2, ⟨g3, g4⟩, -⟩, ⟨p1, p2, ⟨p3, p4⟩, -⟩, -⟩ := h
 refine ⟨h1, h2, fun c hc => ?_, fun r hr => fun v hv => (h4 r hr).2 v hv, fun v hv => h5 v hv, ⟨⟨g0, g2, g3, fun v hv => g4 v hv⟩, fun v hv => g1 v hv⟩, p1, p2, p3, fun s hs => ⟨(p4 s hs).1, (p4 s hs).2.1⟩⟩
 obtain ⟨c1, ⟨-, c2⟩, ⟨-, c3⟩, -⟩ := h3 c hc
 refine ⟨anL c1, fun v hv => anL (c2 v hv), fun s hs => ?_⟩
 obtain ⟨a1, a2, a3, a4, a5, a6, -⟩ := c3 s hs
 exact ⟨anL a1, anL a2, anL a3, anL a4, anL a5, anL a6⟩
theorem aIH {x : DcT} (h : Wf aKR x) : wfC x := ⟨h.1, h.2.1.1, fun p hp => aK9 (h.2.1.2 p hp)⟩
theorem aIG {x : DcT × DcT × DcT × Int × Unit} (h : Wf (.pair aKR (.pair aKR (.pair aKR (.pair (.int .u8) .unit)))) x) : wfC x.1 ∧ wfC x.2.1 ∧ wfC x.2.2.1 ∧ 0 ≤ x.2.2.2.1 ∧ x.2.2.2.1 ≤ 255 :=
 ⟨aIH h.1, aIH h.2.1, aIH h.2.2.1, h.2.2.2.1⟩
theorem avL (d other third : DcT) (at0 : Int) (hp : wfC d ∧ wfC other ∧ wfC third ∧ 0 ≤ at0 ∧ at0 ≤ 255) (y) (h : ak3 (d, other, third, at0, ()) = some y) : (ah7 d other third at0).toO = some y := by
 injection h with h
 subst h
 exact ayL d other third hp.1 hp.2.1 hp.2.2.1 at0 hp.2.2.2
end Go.Vs
