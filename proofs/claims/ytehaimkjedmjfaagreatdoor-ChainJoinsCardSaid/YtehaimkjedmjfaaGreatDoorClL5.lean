/-
  Trees of what the functions compute, and their laws. Own work; no condition.
-/
import Derived.Test.YtehaimkjedmjfaaGreatDoorClL4
import Derived.Test.YtehaimkjedmjfaaGreatDoorProg
set_option linter.unusedVariables false
set_option linter.unusedSimpArgs false
set_option maxRecDepth 100000
set_option maxHeartbeats 0
namespace Go.Vs
open Go Go.Vg Go.Proofs
noncomputable section
def av4 : LTab := [(26, 7, 9228, ⟨0, Int × Int × Unit, .alt (.s 1) [1, 2, 3, 4] <| .alt (.s 6) [1, 2, 3] <| .nil, [5, 4, 2], [8, 1, 0], 0⟩), (26, 1962, 888888888, uS), (26, 7866, 888888888, uS), (26, 2013770, 888888888, uS), (26, 251866, 888888888, uS)]
def acE (d : DeT) : TT (ElT × Unit) :=
 .triv ((2 + 1) * 1 ≤ 140737488355328) zd <| .ite (decide (w64 (w64 (w64 (0 + 1) + 1) + 1) < len d.2.2.2.2.2.1.1))
 (.triv ((3 + 1) * 1 ≤ 140737488355328) zd <| .call (aaG ((grD d), List.take 4 (List.take 3 (List.take 2 ([0] ++ [0]) ++ [0]) ++ [0]), 1, ())) Dz6 fun y82 =>
 .ok ((xG d y82.1, ())))
 (.triv ((3 + 1) * 1 ≤ 140737488355328) zd <| .call (aaG ((grD d), List.take 4 (List.take 3 (List.take 2 ([0] ++ [0]) ++ [0]) ++ [0]), 1, ())) Dz6 fun y83 =>
 .ok ((xG d y83.1, ())))
def acD (d : DeT) : TT (ElT × Unit) :=
 .triv ((2 + 1) * 1 ≤ 140737488355328) zd <| .ite (decide (w64 (w64 (w64 (0 + 1) + 1) + 1) < len d.2.2.2.2.2.1.1))
 (.triv ((3 + 1) * 1 ≤ 140737488355328) zd <| .call (aaG ((grD d), List.take 4 (List.take 3 (List.take 2 ([0] ++ [0]) ++ [0]) ++ [0]), 2, ())) Dz6 fun y104 =>
 .ok ((xG d y104.1, ())))
 (.triv ((3 + 1) * 1 ≤ 140737488355328) zd <| .call (aaG ((grD d), List.take 4 (List.take 3 (List.take 2 ([0] ++ [0]) ++ [0]) ++ [0]), 2, ())) Dz6 fun y105 =>
 .ok ((xG d y105.1, ())))
def acC (d : DeT) : TT (ElT × Unit) :=
 .triv ((2 + 1) * 1 ≤ 140737488355328) zd <| .ite (decide (w64 (w64 (w64 (0 + 1) + 1) + 1) < len d.2.2.2.2.2.1.1))
 (.triv ((3 + 1) * 1 ≤ 140737488355328) zd <| .call (aaG ((grD d), List.take 4 (List.take 3 (List.take 2 ([0] ++ [0]) ++ [0]) ++ [0]), 3, ())) Dz6 fun y126 =>
 .ok ((xG d y126.1, ())))
 (.triv ((3 + 1) * 1 ≤ 140737488355328) zd <| .call (aaG ((grD d), List.take 4 (List.take 3 (List.take 2 ([0] ++ [0]) ++ [0]) ++ [0]), 3, ())) Dz6 fun y127 =>
 .ok ((xG d y127.1, ())))
def aeG (d : DeT) : TT (ElT × Unit) :=
 .triv (1 * 1 ≤ 140737488355328) zd <| .ite (decide (w64 (0 + 1) < len d.2.2.2.2.2.1.1))
 (.triv ((1 + 1) * 1 ≤ 140737488355328) zd <| .ite (decide (w64 (w64 (0 + 1) + 1) < len d.2.2.2.2.2.1.1))
 (acE d)
 (acE d))
 (.triv ((1 + 1) * 1 ≤ 140737488355328) zd <| .ite (decide (w64 (w64 (0 + 1) + 1) < len d.2.2.2.2.2.1.1))
 (acE d)
 (acE d))
def aeF (d : DeT) : TT (ElT × Unit) :=
 .triv (1 * 1 ≤ 140737488355328) zd <| .ite (decide (w64 (0 + 1) < len d.2.2.2.2.2.1.1))
 (.triv ((1 + 1) * 1 ≤ 140737488355328) zd <| .ite (decide (w64 (w64 (0 + 1) + 1) < len d.2.2.2.2.2.1.1))
 (acD d)
 (acD d))
 (.triv ((1 + 1) * 1 ≤ 140737488355328) zd <| .ite (decide (w64 (w64 (0 + 1) + 1) < len d.2.2.2.2.2.1.1))
 (acD d)
 (acD d))
def aeE (d : DeT) : TT (ElT × Unit) :=
 .triv (1 * 1 ≤ 140737488355328) zd <| .ite (decide (w64 (0 + 1) < len d.2.2.2.2.2.1.1))
 (.triv ((1 + 1) * 1 ≤ 140737488355328) zd <| .ite (decide (w64 (w64 (0 + 1) + 1) < len d.2.2.2.2.2.1.1))
 (acC d)
 (acC d))
 (.triv ((1 + 1) * 1 ≤ 140737488355328) zd <| .ite (decide (w64 (w64 (0 + 1) + 1) < len d.2.2.2.2.2.1.1))
 (acC d)
 (acC d))
def ak2 (d : DeT) (ins : Int) (j : Int × Int × Unit) : TT (ElT × Unit) :=
 .ite (j.1 == 1)
 (.ite (j.2.1 == 1)
  (.ite (kD d == 1)
   (.t4 <| .call (aaK ((cD (List.headD d.2.2.1 c0D)), ())) Dz7 fun y =>
    .need (1 * 56 ≤ 140737488355328) <| .ok (((kD d, [rV y.1], [], [], ([], 0, [], ()), [], 0, 0, ()), ())))
   (.ite (kD d == 2)
    (.t4 <| .t4 <| .need (1 * 8 ≤ 140737488355328) <| .need (1 * 24 ≤ 140737488355328) <| .t4 <| .need (1 * 8 ≤ 140737488355328) <| .ok (((kD d, [], [[mD (abR d.2.2.2.1)]], [oD d.2.2.2.2.1], ([], 0, [], ()), [], 0, 0, ()), ())))
    (.ite (kD d == 3)
     (.ite (decide (0 < len d.2.2.2.2.2.1.1))
      (.need (asT Int 0 ≤ 0 ∧ 0 < len d.2.2.2.2.2.1.1) <| .need (1 * 1 ≤ 140737488355328) <| .call (aaG ((grD d), [gi d.2.2.2.2.2.1.1 0 0], 1, ())) Dz6 fun y1 =>
       .ok ((xG d y1.1, ())))
      (.triv (1 * 1 ≤ 140737488355328) zd <| .call (aaG ((grD d), [0], 1, ())) Dz6 fun y2 =>
       .ok ((xG d y2.1, ()))))
     (.call (aaZ ((pgD 1 d), ())) Dz8 fun y3 =>
      .call (aaV ((pgD 1 d), ())) Dz3 fun y4 =>
      .ok ((xP d y3.1 1 y4.1, ()))))))
  (.ite (j.2.1 == 2)
   (.ite (kD d == 1)
    (.t4 <| .call (aaK ((cD (List.headD d.2.2.1 c0D)), ())) Dz7 fun y5 =>
     .need (1 * 56 ≤ 140737488355328) <| .ok (((kD d, [rV y5.1], [], [], ([], 0, [], ()), [], 0, 0, ()), ())))
    (.ite (kD d == 2)
     (.t4 <| .t4 <| .need (1 * 8 ≤ 140737488355328) <| .need (1 * 24 ≤ 140737488355328) <| .t4 <| .need (1 * 8 ≤ 140737488355328) <| .triv (inb (w64 (0 + 1)) (↑4 : Int)) zd <| .t4 <| .need (1 * 8 ≤ 140737488355328) <| .need ((1 + 1) * 24 ≤ 140737488355328) <| .triv (inb (w64 (0 + 1)) (↑4 : Int)) zd <| .need ((1 + 1) * 8 ≤ 140737488355328) <| .ok (((kD d, [], List.take 2 ([[mD (abR d.2.2.2.1)]] ++ [[mD (abR (List.tail d.2.2.2.1))]]), List.take 2 ([oD d.2.2.2.2.1] ++ [oD (List.tail d.2.2.2.2.1)]), ([], 0, [], ()), [], 0, 0, ()), ())))
     (.ite (kD d == 3)
      (.ite (decide (0 < len d.2.2.2.2.2.1.1))
       (.need (asT Int 0 ≤ 0 ∧ 0 < len d.2.2.2.2.2.1.1) <| .need (1 * 1 ≤ 140737488355328) <| .call (aaG ((grD d), [gi d.2.2.2.2.2.1.1 0 0], 2, ())) Dz6 fun y6 =>
        .ok ((xG d y6.1, ())))
       (.triv (1 * 1 ≤ 140737488355328) zd <| .call (aaG ((grD d), [0], 2, ())) Dz6 fun y7 =>
        .ok ((xG d y7.1, ()))))
      (.call (aaZ ((pgD 1 d), ())) Dz8 fun y8 =>
       .call (aaV ((pgD 1 d), ())) Dz3 fun y9 =>
       .ok ((xP d y8.1 1 y9.1, ()))))))
   (.ite (j.2.1 == 3)
    (.ite (kD d == 1)
     (.t4 <| .call (aaK ((cD (List.headD d.2.2.1 c0D)), ())) Dz7 fun y10 =>
      .need (1 * 56 ≤ 140737488355328) <| .ok (((kD d, [rV y10.1], [], [], ([], 0, [], ()), [], 0, 0, ()), ())))
     (.ite (kD d == 2)
      (.t4 <| .t4 <| .need (1 * 8 ≤ 140737488355328) <| .need (1 * 24 ≤ 140737488355328) <| .t4 <| .need (1 * 8 ≤ 140737488355328) <| .triv (inb (w64 (0 + 1)) (↑4 : Int)) zd <| .t4 <| .need (1 * 8 ≤ 140737488355328) <| .need ((1 + 1) * 24 ≤ 140737488355328) <| .triv (inb (w64 (0 + 1)) (↑4 : Int)) zd <| .need ((1 + 1) * 8 ≤ 140737488355328) <| .triv (inb (w64 (w64 (0 + 1) + 1)) (↑4 : Int)) zd <| .t4 <| .need (1 * 8 ≤ 140737488355328) <| .need ((2 + 1) * 24 ≤ 140737488355328) <| .triv (inb (w64 (w64 (0 + 1) + 1)) (↑4 : Int)) zd <| .need ((2 + 1) * 8 ≤ 140737488355328) <| .ok (((kD d, [], List.take 3 (List.take 2 ([[mD (abR d.2.2.2.1)]] ++ [[mD (abR (List.tail d.2.2.2.1))]]) ++ [[mD (abR (List.tail (List.tail d.2.2.2.1)))]]), List.take 3 (List.take 2 ([oD d.2.2.2.2.1] ++ [oD (List.tail d.2.2.2.2.1)]) ++ [oD (List.tail (List.tail d.2.2.2.2.1))]), ([], 0, [], ()), [], 0, 0, ()), ())))
      (.ite (kD d == 3)
       (.ite (decide (0 < len d.2.2.2.2.2.1.1))
        (.need (asT Int 0 ≤ 0 ∧ 0 < len d.2.2.2.2.2.1.1) <| .need (1 * 1 ≤ 140737488355328) <| .call (aaG ((grD d), [gi d.2.2.2.2.2.1.1 0 0], 3, ())) Dz6 fun y11 =>
         .ok ((xG d y11.1, ())))
        (.triv (1 * 1 ≤ 140737488355328) zd <| .call (aaG ((grD d), [0], 3, ())) Dz6 fun y12 =>
         .ok ((xG d y12.1, ()))))
       (.call (aaZ ((pgD 1 d), ())) Dz8 fun y13 =>
        .call (aaV ((pgD 1 d), ())) Dz3 fun y14 =>
        .ok ((xP d y13.1 1 y14.1, ()))))))
    (.bad))))
 (.ite (j.1 == 2)
  (.ite (j.2.1 == 1)
   (.ite (kD d == 1)
    (.t4 <| .call (aaK ((cD (List.headD d.2.2.1 c0D)), ())) Dz7 fun y15 =>
     .need (1 * 56 ≤ 140737488355328) <| .triv (inb (w64 (0 + 1)) (↑4 : Int)) zd <| .call (aaK ((cD (List.headD (List.tail d.2.2.1) c0D)), ())) Dz7 fun y16 =>
     .need ((1 + 1) * 56 ≤ 140737488355328) <| .ok (((kD d, List.take 2 ([rV y15.1] ++ [rV y16.1]), [], [], ([], 0, [], ()), [], 0, 0, ()), ())))
    (.ite (kD d == 2)
     (.t4 <| .t4 <| .need (1 * 8 ≤ 140737488355328) <| .t4 <| .triv (inb (w64 (0 + 1)) (↑4 : Int)) zd <| .need ((1 + 1) * 8 ≤ 140737488355328) <| .need (1 * 24 ≤ 140737488355328) <| .t4 <| .need (1 * 8 ≤ 140737488355328) <| .ok (((kD d, [], [List.take 2 ([mD (abR d.2.2.2.1)] ++ [mD (List.tail (abR d.2.2.2.1))])], [oD d.2.2.2.2.1], ([], 0, [], ()), [], 0, 0, ()), ())))
     (.ite (kD d == 3)
      (.ite (decide (0 < len d.2.2.2.2.2.1.1))
       (.need (asT Int 0 ≤ 0 ∧ 0 < len d.2.2.2.2.2.1.1) <| .need (1 * 1 ≤ 140737488355328) <| .ite (decide (w64 (0 + 1) < len d.2.2.2.2.2.1.1))
        (.need (inb (w64 (0 + 1)) (len d.2.2.2.2.2.1.1)) <| .need ((1 + 1) * 1 ≤ 140737488355328) <| .call (aaG ((grD d), List.take 2 ([gi d.2.2.2.2.2.1.1 0 0] ++ [gi d.2.2.2.2.2.1.1 (w64 (0 + 1)) 0]), 1, ())) Dz6 fun y17 =>
         .ok ((xG d y17.1, ())))
        (.triv ((1 + 1) * 1 ≤ 140737488355328) zd <| .call (aaG ((grD d), List.take 2 ([gi d.2.2.2.2.2.1.1 0 0] ++ [0]), 1, ())) Dz6 fun y18 =>
         .ok ((xG d y18.1, ()))))
       (.triv (1 * 1 ≤ 140737488355328) zd <| .ite (decide (w64 (0 + 1) < len d.2.2.2.2.2.1.1))
        (.need (inb (w64 (0 + 1)) (len d.2.2.2.2.2.1.1)) <| .need ((1 + 1) * 1 ≤ 140737488355328) <| .call (aaG ((grD d), List.take 2 ([0] ++ [gi d.2.2.2.2.2.1.1 (w64 (0 + 1)) 0]), 1, ())) Dz6 fun y19 =>
         .ok ((xG d y19.1, ())))
        (.triv ((1 + 1) * 1 ≤ 140737488355328) zd <| .call (aaG ((grD d), List.take 2 ([0] ++ [0]), 1, ())) Dz6 fun y20 =>
         .ok ((xG d y20.1, ())))))
      (.call (aaZ ((pgD 2 d), ())) Dz8 fun y21 =>
       .call (aaV ((pgD 2 d), ())) Dz3 fun y22 =>
       .ok ((xP d y21.1 2 y22.1, ()))))))
   (.ite (j.2.1 == 2)
    (.ite (kD d == 1)
     (.t4 <| .call (aaK ((cD (List.headD d.2.2.1 c0D)), ())) Dz7 fun y23 =>
      .need (1 * 56 ≤ 140737488355328) <| .triv (inb (w64 (0 + 1)) (↑4 : Int)) zd <| .call (aaK ((cD (List.headD (List.tail d.2.2.1) c0D)), ())) Dz7 fun y24 =>
      .need ((1 + 1) * 56 ≤ 140737488355328) <| .ok (((kD d, List.take 2 ([rV y23.1] ++ [rV y24.1]), [], [], ([], 0, [], ()), [], 0, 0, ()), ())))
     (.ite (kD d == 2)
      (.t4 <| .t4 <| .need (1 * 8 ≤ 140737488355328) <| .t4 <| .triv (inb (w64 (0 + 1)) (↑4 : Int)) zd <| .need ((1 + 1) * 8 ≤ 140737488355328) <| .need (1 * 24 ≤ 140737488355328) <| .t4 <| .need (1 * 8 ≤ 140737488355328) <| .triv (inb (w64 (0 + 1)) (↑4 : Int)) zd <| .t4 <| .need (1 * 8 ≤ 140737488355328) <| .triv (inb (w64 (0 + 1)) (↑4 : Int)) zd <| .triv (inb (w64 (0 + 1)) (↑4 : Int)) zd <| .need ((1 + 1) * 8 ≤ 140737488355328) <| .need ((1 + 1) * 24 ≤ 140737488355328) <| .triv (inb (w64 (0 + 1)) (↑4 : Int)) zd <| .need ((1 + 1) * 8 ≤ 140737488355328) <| .ok (((kD d, [], List.take 2 ([List.take 2 ([mD (abR d.2.2.2.1)] ++ [mD (List.tail (abR d.2.2.2.1))])] ++ [List.take 2 ([mD (abR (List.tail d.2.2.2.1))] ++ [mD (List.tail (abR (List.tail d.2.2.2.1)))])]), List.take 2 ([oD d.2.2.2.2.1] ++ [oD (List.tail d.2.2.2.2.1)]), ([], 0, [], ()), [], 0, 0, ()), ())))
      (.ite (kD d == 3)
       (.ite (decide (0 < len d.2.2.2.2.2.1.1))
        (.need (asT Int 0 ≤ 0 ∧ 0 < len d.2.2.2.2.2.1.1) <| .need (1 * 1 ≤ 140737488355328) <| .ite (decide (w64 (0 + 1) < len d.2.2.2.2.2.1.1))
         (.need (inb (w64 (0 + 1)) (len d.2.2.2.2.2.1.1)) <| .need ((1 + 1) * 1 ≤ 140737488355328) <| .call (aaG ((grD d), List.take 2 ([gi d.2.2.2.2.2.1.1 0 0] ++ [gi d.2.2.2.2.2.1.1 (w64 (0 + 1)) 0]), 2, ())) Dz6 fun y25 =>
          .ok ((xG d y25.1, ())))
         (.triv ((1 + 1) * 1 ≤ 140737488355328) zd <| .call (aaG ((grD d), List.take 2 ([gi d.2.2.2.2.2.1.1 0 0] ++ [0]), 2, ())) Dz6 fun y26 =>
          .ok ((xG d y26.1, ()))))
        (.triv (1 * 1 ≤ 140737488355328) zd <| .ite (decide (w64 (0 + 1) < len d.2.2.2.2.2.1.1))
         (.need (inb (w64 (0 + 1)) (len d.2.2.2.2.2.1.1)) <| .need ((1 + 1) * 1 ≤ 140737488355328) <| .call (aaG ((grD d), List.take 2 ([0] ++ [gi d.2.2.2.2.2.1.1 (w64 (0 + 1)) 0]), 2, ())) Dz6 fun y27 =>
          .ok ((xG d y27.1, ())))
         (.triv ((1 + 1) * 1 ≤ 140737488355328) zd <| .call (aaG ((grD d), List.take 2 ([0] ++ [0]), 2, ())) Dz6 fun y28 =>
          .ok ((xG d y28.1, ())))))
       (.call (aaZ ((pgD 2 d), ())) Dz8 fun y29 =>
        .call (aaV ((pgD 2 d), ())) Dz3 fun y30 =>
        .ok ((xP d y29.1 2 y30.1, ()))))))
    (.ite (j.2.1 == 3)
     (.ite (kD d == 1)
      (.t4 <| .call (aaK ((cD (List.headD d.2.2.1 c0D)), ())) Dz7 fun y31 =>
       .need (1 * 56 ≤ 140737488355328) <| .triv (inb (w64 (0 + 1)) (↑4 : Int)) zd <| .call (aaK ((cD (List.headD (List.tail d.2.2.1) c0D)), ())) Dz7 fun y32 =>
       .need ((1 + 1) * 56 ≤ 140737488355328) <| .ok (((kD d, List.take 2 ([rV y31.1] ++ [rV y32.1]), [], [], ([], 0, [], ()), [], 0, 0, ()), ())))
      (.ite (kD d == 2)
       (.t4 <| .t4 <| .need (1 * 8 ≤ 140737488355328) <| .t4 <| .triv (inb (w64 (0 + 1)) (↑4 : Int)) zd <| .need ((1 + 1) * 8 ≤ 140737488355328) <| .need (1 * 24 ≤ 140737488355328) <| .t4 <| .need (1 * 8 ≤ 140737488355328) <| .triv (inb (w64 (0 + 1)) (↑4 : Int)) zd <| .t4 <| .need (1 * 8 ≤ 140737488355328) <| .triv (inb (w64 (0 + 1)) (↑4 : Int)) zd <| .triv (inb (w64 (0 + 1)) (↑4 : Int)) zd <| .need ((1 + 1) * 8 ≤ 140737488355328) <| .need ((1 + 1) * 24 ≤ 140737488355328) <| .triv (inb (w64 (0 + 1)) (↑4 : Int)) zd <| .need ((1 + 1) * 8 ≤ 140737488355328) <| .triv (inb (w64 (w64 (0 + 1) + 1)) (↑4 : Int)) zd <| .t4 <| .need (1 * 8 ≤ 140737488355328) <| .triv (inb (w64 (w64 (0 + 1) + 1)) (↑4 : Int)) zd <| .triv (inb (w64 (0 + 1)) (↑4 : Int)) zd <| .need ((1 + 1) * 8 ≤ 140737488355328) <| .need ((2 + 1) * 24 ≤ 140737488355328) <| .triv (inb (w64 (w64 (0 + 1) + 1)) (↑4 : Int)) zd <| .need ((2 + 1) * 8 ≤ 140737488355328) <| .ok (((kD d, [], List.take 3 (List.take 2 ([List.take 2 ([mD (abR d.2.2.2.1)] ++ [mD (List.tail (abR d.2.2.2.1))])] ++ [List.take 2 ([mD (abR (List.tail d.2.2.2.1))] ++ [mD (List.tail (abR (List.tail d.2.2.2.1)))])]) ++ [List.take 2 ([mD (abR (List.tail (List.tail d.2.2.2.1)))] ++ [mD (List.tail (abR (List.tail (List.tail d.2.2.2.1))))])]), List.take 3 (List.take 2 ([oD d.2.2.2.2.1] ++ [oD (List.tail d.2.2.2.2.1)]) ++ [oD (List.tail (List.tail d.2.2.2.2.1))]), ([], 0, [], ()), [], 0, 0, ()), ())))
       (.ite (kD d == 3)
        (.ite (decide (0 < len d.2.2.2.2.2.1.1))
         (.need (asT Int 0 ≤ 0 ∧ 0 < len d.2.2.2.2.2.1.1) <| .need (1 * 1 ≤ 140737488355328) <| .ite (decide (w64 (0 + 1) < len d.2.2.2.2.2.1.1))
          (.need (inb (w64 (0 + 1)) (len d.2.2.2.2.2.1.1)) <| .need ((1 + 1) * 1 ≤ 140737488355328) <| .call (aaG ((grD d), List.take 2 ([gi d.2.2.2.2.2.1.1 0 0] ++ [gi d.2.2.2.2.2.1.1 (w64 (0 + 1)) 0]), 3, ())) Dz6 fun y33 =>
           .ok ((xG d y33.1, ())))
          (.triv ((1 + 1) * 1 ≤ 140737488355328) zd <| .call (aaG ((grD d), List.take 2 ([gi d.2.2.2.2.2.1.1 0 0] ++ [0]), 3, ())) Dz6 fun y34 =>
           .ok ((xG d y34.1, ()))))
         (.triv (1 * 1 ≤ 140737488355328) zd <| .ite (decide (w64 (0 + 1) < len d.2.2.2.2.2.1.1))
          (.need (inb (w64 (0 + 1)) (len d.2.2.2.2.2.1.1)) <| .need ((1 + 1) * 1 ≤ 140737488355328) <| .call (aaG ((grD d), List.take 2 ([0] ++ [gi d.2.2.2.2.2.1.1 (w64 (0 + 1)) 0]), 3, ())) Dz6 fun y35 =>
           .ok ((xG d y35.1, ())))
          (.triv ((1 + 1) * 1 ≤ 140737488355328) zd <| .call (aaG ((grD d), List.take 2 ([0] ++ [0]), 3, ())) Dz6 fun y36 =>
           .ok ((xG d y36.1, ())))))
        (.call (aaZ ((pgD 2 d), ())) Dz8 fun y37 =>
         .call (aaV ((pgD 2 d), ())) Dz3 fun y38 =>
         .ok ((xP d y37.1 2 y38.1, ()))))))
     (.bad))))
  (.ite (j.1 == 3)
   (.ite (j.2.1 == 1)
    (.ite (kD d == 1)
     (.t4 <| .call (aaK ((cD (List.headD d.2.2.1 c0D)), ())) Dz7 fun y39 =>
      .need (1 * 56 ≤ 140737488355328) <| .triv (inb (w64 (0 + 1)) (↑4 : Int)) zd <| .call (aaK ((cD (List.headD (List.tail d.2.2.1) c0D)), ())) Dz7 fun y40 =>
      .need ((1 + 1) * 56 ≤ 140737488355328) <| .triv (inb (w64 (w64 (0 + 1) + 1)) (↑4 : Int)) zd <| .call (aaK ((cD (List.headD (List.tail (List.tail d.2.2.1)) c0D)), ())) Dz7 fun y41 =>
      .need ((2 + 1) * 56 ≤ 140737488355328) <| .ok (((kD d, List.take 3 (List.take 2 ([rV y39.1] ++ [rV y40.1]) ++ [rV y41.1]), [], [], ([], 0, [], ()), [], 0, 0, ()), ())))
     (.ite (kD d == 2)
      (.t4 <| .t4 <| .need (1 * 8 ≤ 140737488355328) <| .t4 <| .triv (inb (w64 (0 + 1)) (↑4 : Int)) zd <| .need ((1 + 1) * 8 ≤ 140737488355328) <| .t4 <| .triv (inb (w64 (w64 (0 + 1) + 1)) (↑4 : Int)) zd <| .need ((2 + 1) * 8 ≤ 140737488355328) <| .need (1 * 24 ≤ 140737488355328) <| .t4 <| .need (1 * 8 ≤ 140737488355328) <| .ok (((kD d, [], [List.take 3 (List.take 2 ([mD (abR d.2.2.2.1)] ++ [mD (List.tail (abR d.2.2.2.1))]) ++ [mD (List.tail (List.tail (abR d.2.2.2.1)))])], [oD d.2.2.2.2.1], ([], 0, [], ()), [], 0, 0, ()), ())))
      (.ite (kD d == 3)
       (.ite (decide (0 < len d.2.2.2.2.2.1.1))
        (.need (asT Int 0 ≤ 0 ∧ 0 < len d.2.2.2.2.2.1.1) <| .need (1 * 1 ≤ 140737488355328) <| .ite (decide (w64 (0 + 1) < len d.2.2.2.2.2.1.1))
         (.need (inb (w64 (0 + 1)) (len d.2.2.2.2.2.1.1)) <| .need ((1 + 1) * 1 ≤ 140737488355328) <| .ite (decide (w64 (w64 (0 + 1) + 1) < len d.2.2.2.2.2.1.1))
          (.need (inb (w64 (w64 (0 + 1) + 1)) (len d.2.2.2.2.2.1.1)) <| .need ((2 + 1) * 1 ≤ 140737488355328) <| .call (aaG ((grD d), List.take 3 (List.take 2 ([gi d.2.2.2.2.2.1.1 0 0] ++ [gi d.2.2.2.2.2.1.1 (w64 (0 + 1)) 0]) ++ [gi d.2.2.2.2.2.1.1 (w64 (w64 (0 + 1) + 1)) 0]), 1, ())) Dz6 fun y42 =>
           .ok ((xG d y42.1, ())))
          (.triv ((2 + 1) * 1 ≤ 140737488355328) zd <| .call (aaG ((grD d), List.take 3 (List.take 2 ([gi d.2.2.2.2.2.1.1 0 0] ++ [gi d.2.2.2.2.2.1.1 (w64 (0 + 1)) 0]) ++ [0]), 1, ())) Dz6 fun y43 =>
           .ok ((xG d y43.1, ()))))
         (.triv ((1 + 1) * 1 ≤ 140737488355328) zd <| .ite (decide (w64 (w64 (0 + 1) + 1) < len d.2.2.2.2.2.1.1))
          (.need (inb (w64 (w64 (0 + 1) + 1)) (len d.2.2.2.2.2.1.1)) <| .need ((2 + 1) * 1 ≤ 140737488355328) <| .call (aaG ((grD d), List.take 3 (List.take 2 ([gi d.2.2.2.2.2.1.1 0 0] ++ [0]) ++ [gi d.2.2.2.2.2.1.1 (w64 (w64 (0 + 1) + 1)) 0]), 1, ())) Dz6 fun y44 =>
           .ok ((xG d y44.1, ())))
          (.triv ((2 + 1) * 1 ≤ 140737488355328) zd <| .call (aaG ((grD d), List.take 3 (List.take 2 ([gi d.2.2.2.2.2.1.1 0 0] ++ [0]) ++ [0]), 1, ())) Dz6 fun y45 =>
           .ok ((xG d y45.1, ())))))
        (.triv (1 * 1 ≤ 140737488355328) zd <| .ite (decide (w64 (0 + 1) < len d.2.2.2.2.2.1.1))
         (.need (inb (w64 (0 + 1)) (len d.2.2.2.2.2.1.1)) <| .need ((1 + 1) * 1 ≤ 140737488355328) <| .ite (decide (w64 (w64 (0 + 1) + 1) < len d.2.2.2.2.2.1.1))
          (.need (inb (w64 (w64 (0 + 1) + 1)) (len d.2.2.2.2.2.1.1)) <| .need ((2 + 1) * 1 ≤ 140737488355328) <| .call (aaG ((grD d), List.take 3 (List.take 2 ([0] ++ [gi d.2.2.2.2.2.1.1 (w64 (0 + 1)) 0]) ++ [gi d.2.2.2.2.2.1.1 (w64 (w64 (0 + 1) + 1)) 0]), 1, ())) Dz6 fun y46 =>
           .ok ((xG d y46.1, ())))
          (.triv ((2 + 1) * 1 ≤ 140737488355328) zd <| .call (aaG ((grD d), List.take 3 (List.take 2 ([0] ++ [gi d.2.2.2.2.2.1.1 (w64 (0 + 1)) 0]) ++ [0]), 1, ())) Dz6 fun y47 =>
           .ok ((xG d y47.1, ()))))
         (.triv ((1 + 1) * 1 ≤ 140737488355328) zd <| .ite (decide (w64 (w64 (0 + 1) + 1) < len d.2.2.2.2.2.1.1))
          (.need (inb (w64 (w64 (0 + 1) + 1)) (len d.2.2.2.2.2.1.1)) <| .need ((2 + 1) * 1 ≤ 140737488355328) <| .call (aaG ((grD d), List.take 3 (List.take 2 ([0] ++ [0]) ++ [gi d.2.2.2.2.2.1.1 (w64 (w64 (0 + 1) + 1)) 0]), 1, ())) Dz6 fun y48 =>
           .ok ((xG d y48.1, ())))
          (.triv ((2 + 1) * 1 ≤ 140737488355328) zd <| .call (aaG ((grD d), List.take 3 (List.take 2 ([0] ++ [0]) ++ [0]), 1, ())) Dz6 fun y49 =>
           .ok ((xG d y49.1, ()))))))
       (.call (aaZ ((pgD 3 d), ())) Dz8 fun y50 =>
        .call (aaV ((pgD 3 d), ())) Dz3 fun y51 =>
        .ok ((xP d y50.1 3 y51.1, ()))))))
    (.ite (j.2.1 == 2)
     (.ite (kD d == 1)
      (.t4 <| .call (aaK ((cD (List.headD d.2.2.1 c0D)), ())) Dz7 fun y52 =>
       .need (1 * 56 ≤ 140737488355328) <| .triv (inb (w64 (0 + 1)) (↑4 : Int)) zd <| .call (aaK ((cD (List.headD (List.tail d.2.2.1) c0D)), ())) Dz7 fun y53 =>
       .need ((1 + 1) * 56 ≤ 140737488355328) <| .triv (inb (w64 (w64 (0 + 1) + 1)) (↑4 : Int)) zd <| .call (aaK ((cD (List.headD (List.tail (List.tail d.2.2.1)) c0D)), ())) Dz7 fun y54 =>
       .need ((2 + 1) * 56 ≤ 140737488355328) <| .ok (((kD d, List.take 3 (List.take 2 ([rV y52.1] ++ [rV y53.1]) ++ [rV y54.1]), [], [], ([], 0, [], ()), [], 0, 0, ()), ())))
      (.ite (kD d == 2)
       (.t4 <| .t4 <| .need (1 * 8 ≤ 140737488355328) <| .t4 <| .triv (inb (w64 (0 + 1)) (↑4 : Int)) zd <| .need ((1 + 1) * 8 ≤ 140737488355328) <| .t4 <| .triv (inb (w64 (w64 (0 + 1) + 1)) (↑4 : Int)) zd <| .need ((2 + 1) * 8 ≤ 140737488355328) <| .need (1 * 24 ≤ 140737488355328) <| .t4 <| .need (1 * 8 ≤ 140737488355328) <| .triv (inb (w64 (0 + 1)) (↑4 : Int)) zd <| .t4 <| .need (1 * 8 ≤ 140737488355328) <| .triv (inb (w64 (0 + 1)) (↑4 : Int)) zd <| .triv (inb (w64 (0 + 1)) (↑4 : Int)) zd <| .need ((1 + 1) * 8 ≤ 140737488355328) <| .triv (inb (w64 (0 + 1)) (↑4 : Int)) zd <| .triv (inb (w64 (w64 (0 + 1) + 1)) (↑4 : Int)) zd <| .need ((2 + 1) * 8 ≤ 140737488355328) <| .need ((1 + 1) * 24 ≤ 140737488355328) <| .triv (inb (w64 (0 + 1)) (↑4 : Int)) zd <| .need ((1 + 1) * 8 ≤ 140737488355328) <| .ok (((kD d, [], List.take 2 ([List.take 3 (List.take 2 ([mD (abR d.2.2.2.1)] ++ [mD (List.tail (abR d.2.2.2.1))]) ++ [mD (List.tail (List.tail (abR d.2.2.2.1)))])] ++ [List.take 3 (List.take 2 ([mD (abR (List.tail d.2.2.2.1))] ++ [mD (List.tail (abR (List.tail d.2.2.2.1)))]) ++ [mD (List.tail (List.tail (abR (List.tail d.2.2.2.1))))])]), List.take 2 ([oD d.2.2.2.2.1] ++ [oD (List.tail d.2.2.2.2.1)]), ([], 0, [], ()), [], 0, 0, ()), ())))
       (.ite (kD d == 3)
        (.ite (decide (0 < len d.2.2.2.2.2.1.1))
         (.need (asT Int 0 ≤ 0 ∧ 0 < len d.2.2.2.2.2.1.1) <| .need (1 * 1 ≤ 140737488355328) <| .ite (decide (w64 (0 + 1) < len d.2.2.2.2.2.1.1))
          (.need (inb (w64 (0 + 1)) (len d.2.2.2.2.2.1.1)) <| .need ((1 + 1) * 1 ≤ 140737488355328) <| .ite (decide (w64 (w64 (0 + 1) + 1) < len d.2.2.2.2.2.1.1))
           (.need (inb (w64 (w64 (0 + 1) + 1)) (len d.2.2.2.2.2.1.1)) <| .need ((2 + 1) * 1 ≤ 140737488355328) <| .call (aaG ((grD d), List.take 3 (List.take 2 ([gi d.2.2.2.2.2.1.1 0 0] ++ [gi d.2.2.2.2.2.1.1 (w64 (0 + 1)) 0]) ++ [gi d.2.2.2.2.2.1.1 (w64 (w64 (0 + 1) + 1)) 0]), 2, ())) Dz6 fun y55 =>
            .ok ((xG d y55.1, ())))
           (.triv ((2 + 1) * 1 ≤ 140737488355328) zd <| .call (aaG ((grD d), List.take 3 (List.take 2 ([gi d.2.2.2.2.2.1.1 0 0] ++ [gi d.2.2.2.2.2.1.1 (w64 (0 + 1)) 0]) ++ [0]), 2, ())) Dz6 fun y56 =>
            .ok ((xG d y56.1, ()))))
          (.triv ((1 + 1) * 1 ≤ 140737488355328) zd <| .ite (decide (w64 (w64 (0 + 1) + 1) < len d.2.2.2.2.2.1.1))
           (.need (inb (w64 (w64 (0 + 1) + 1)) (len d.2.2.2.2.2.1.1)) <| .need ((2 + 1) * 1 ≤ 140737488355328) <| .call (aaG ((grD d), List.take 3 (List.take 2 ([gi d.2.2.2.2.2.1.1 0 0] ++ [0]) ++ [gi d.2.2.2.2.2.1.1 (w64 (w64 (0 + 1) + 1)) 0]), 2, ())) Dz6 fun y57 =>
            .ok ((xG d y57.1, ())))
           (.triv ((2 + 1) * 1 ≤ 140737488355328) zd <| .call (aaG ((grD d), List.take 3 (List.take 2 ([gi d.2.2.2.2.2.1.1 0 0] ++ [0]) ++ [0]), 2, ())) Dz6 fun y58 =>
            .ok ((xG d y58.1, ())))))
         (.triv (1 * 1 ≤ 140737488355328) zd <| .ite (decide (w64 (0 + 1) < len d.2.2.2.2.2.1.1))
          (.need (inb (w64 (0 + 1)) (len d.2.2.2.2.2.1.1)) <| .need ((1 + 1) * 1 ≤ 140737488355328) <| .ite (decide (w64 (w64 (0 + 1) + 1) < len d.2.2.2.2.2.1.1))
           (.need (inb (w64 (w64 (0 + 1) + 1)) (len d.2.2.2.2.2.1.1)) <| .need ((2 + 1) * 1 ≤ 140737488355328) <| .call (aaG ((grD d), List.take 3 (List.take 2 ([0] ++ [gi d.2.2.2.2.2.1.1 (w64 (0 + 1)) 0]) ++ [gi d.2.2.2.2.2.1.1 (w64 (w64 (0 + 1) + 1)) 0]), 2, ())) Dz6 fun y59 =>
            .ok ((xG d y59.1, ())))
           (.triv ((2 + 1) * 1 ≤ 140737488355328) zd <| .call (aaG ((grD d), List.take 3 (List.take 2 ([0] ++ [gi d.2.2.2.2.2.1.1 (w64 (0 + 1)) 0]) ++ [0]), 2, ())) Dz6 fun y60 =>
            .ok ((xG d y60.1, ()))))
          (.triv ((1 + 1) * 1 ≤ 140737488355328) zd <| .ite (decide (w64 (w64 (0 + 1) + 1) < len d.2.2.2.2.2.1.1))
           (.need (inb (w64 (w64 (0 + 1) + 1)) (len d.2.2.2.2.2.1.1)) <| .need ((2 + 1) * 1 ≤ 140737488355328) <| .call (aaG ((grD d), List.take 3 (List.take 2 ([0] ++ [0]) ++ [gi d.2.2.2.2.2.1.1 (w64 (w64 (0 + 1) + 1)) 0]), 2, ())) Dz6 fun y61 =>
            .ok ((xG d y61.1, ())))
           (.triv ((2 + 1) * 1 ≤ 140737488355328) zd <| .call (aaG ((grD d), List.take 3 (List.take 2 ([0] ++ [0]) ++ [0]), 2, ())) Dz6 fun y62 =>
            .ok ((xG d y62.1, ()))))))
        (.call (aaZ ((pgD 3 d), ())) Dz8 fun y63 =>
         .call (aaV ((pgD 3 d), ())) Dz3 fun y64 =>
         .ok ((xP d y63.1 3 y64.1, ()))))))
     (.ite (j.2.1 == 3)
      (.ite (kD d == 1)
       (.t4 <| .call (aaK ((cD (List.headD d.2.2.1 c0D)), ())) Dz7 fun y65 =>
        .need (1 * 56 ≤ 140737488355328) <| .triv (inb (w64 (0 + 1)) (↑4 : Int)) zd <| .call (aaK ((cD (List.headD (List.tail d.2.2.1) c0D)), ())) Dz7 fun y66 =>
        .need ((1 + 1) * 56 ≤ 140737488355328) <| .triv (inb (w64 (w64 (0 + 1) + 1)) (↑4 : Int)) zd <| .call (aaK ((cD (List.headD (List.tail (List.tail d.2.2.1)) c0D)), ())) Dz7 fun y67 =>
        .need ((2 + 1) * 56 ≤ 140737488355328) <| .ok (((kD d, List.take 3 (List.take 2 ([rV y65.1] ++ [rV y66.1]) ++ [rV y67.1]), [], [], ([], 0, [], ()), [], 0, 0, ()), ())))
       (.ite (kD d == 2)
        (.t4 <| .t4 <| .need (1 * 8 ≤ 140737488355328) <| .t4 <| .triv (inb (w64 (0 + 1)) (↑4 : Int)) zd <| .need ((1 + 1) * 8 ≤ 140737488355328) <| .t4 <| .triv (inb (w64 (w64 (0 + 1) + 1)) (↑4 : Int)) zd <| .need ((2 + 1) * 8 ≤ 140737488355328) <| .need (1 * 24 ≤ 140737488355328) <| .t4 <| .need (1 * 8 ≤ 140737488355328) <| .triv (inb (w64 (0 + 1)) (↑4 : Int)) zd <| .t4 <| .need (1 * 8 ≤ 140737488355328) <| .triv (inb (w64 (0 + 1)) (↑4 : Int)) zd <| .triv (inb (w64 (0 + 1)) (↑4 : Int)) zd <| .need ((1 + 1) * 8 ≤ 140737488355328) <| .triv (inb (w64 (0 + 1)) (↑4 : Int)) zd <| .triv (inb (w64 (w64 (0 + 1) + 1)) (↑4 : Int)) zd <| .need ((2 + 1) * 8 ≤ 140737488355328) <| .need ((1 + 1) * 24 ≤ 140737488355328) <| .triv (inb (w64 (0 + 1)) (↑4 : Int)) zd <| .need ((1 + 1) * 8 ≤ 140737488355328) <| .triv (inb (w64 (w64 (0 + 1) + 1)) (↑4 : Int)) zd <| .t4 <| .need (1 * 8 ≤ 140737488355328) <| .triv (inb (w64 (w64 (0 + 1) + 1)) (↑4 : Int)) zd <| .triv (inb (w64 (0 + 1)) (↑4 : Int)) zd <| .need ((1 + 1) * 8 ≤ 140737488355328) <| .triv (inb (w64 (w64 (0 + 1) + 1)) (↑4 : Int)) zd <| .triv (inb (w64 (w64 (0 + 1) + 1)) (↑4 : Int)) zd <| .need ((2 + 1) * 8 ≤ 140737488355328) <| .need ((2 + 1) * 24 ≤ 140737488355328) <| .triv (inb (w64 (w64 (0 + 1) + 1)) (↑4 : Int)) zd <| .need ((2 + 1) * 8 ≤ 140737488355328) <| .ok (((kD d, [], List.take 3 (List.take 2 ([List.take 3 (List.take 2 ([mD (abR d.2.2.2.1)] ++ [mD (List.tail (abR d.2.2.2.1))]) ++ [mD (List.tail (List.tail (abR d.2.2.2.1)))])] ++ [List.take 3 (List.take 2 ([mD (abR (List.tail d.2.2.2.1))] ++ [mD (List.tail (abR (List.tail d.2.2.2.1)))]) ++ [mD (List.tail (List.tail (abR (List.tail d.2.2.2.1))))])]) ++ [List.take 3 (List.take 2 ([mD (abR (List.tail (List.tail d.2.2.2.1)))] ++ [mD (List.tail (abR (List.tail (List.tail d.2.2.2.1))))]) ++ [mD (List.tail (List.tail (abR (List.tail (List.tail d.2.2.2.1)))))])]), List.take 3 (List.take 2 ([oD d.2.2.2.2.1] ++ [oD (List.tail d.2.2.2.2.1)]) ++ [oD (List.tail (List.tail d.2.2.2.2.1))]), ([], 0, [], ()), [], 0, 0, ()), ())))
        (.ite (kD d == 3)
         (.ite (decide (0 < len d.2.2.2.2.2.1.1))
          (.need (asT Int 0 ≤ 0 ∧ 0 < len d.2.2.2.2.2.1.1) <| .need (1 * 1 ≤ 140737488355328) <| .ite (decide (w64 (0 + 1) < len d.2.2.2.2.2.1.1))
           (.need (inb (w64 (0 + 1)) (len d.2.2.2.2.2.1.1)) <| .need ((1 + 1) * 1 ≤ 140737488355328) <| .ite (decide (w64 (w64 (0 + 1) + 1) < len d.2.2.2.2.2.1.1))
            (.need (inb (w64 (w64 (0 + 1) + 1)) (len d.2.2.2.2.2.1.1)) <| .need ((2 + 1) * 1 ≤ 140737488355328) <| .call (aaG ((grD d), List.take 3 (List.take 2 ([gi d.2.2.2.2.2.1.1 0 0] ++ [gi d.2.2.2.2.2.1.1 (w64 (0 + 1)) 0]) ++ [gi d.2.2.2.2.2.1.1 (w64 (w64 (0 + 1) + 1)) 0]), 3, ())) Dz6 fun y68 =>
             .ok ((xG d y68.1, ())))
            (.triv ((2 + 1) * 1 ≤ 140737488355328) zd <| .call (aaG ((grD d), List.take 3 (List.take 2 ([gi d.2.2.2.2.2.1.1 0 0] ++ [gi d.2.2.2.2.2.1.1 (w64 (0 + 1)) 0]) ++ [0]), 3, ())) Dz6 fun y69 =>
             .ok ((xG d y69.1, ()))))
           (.triv ((1 + 1) * 1 ≤ 140737488355328) zd <| .ite (decide (w64 (w64 (0 + 1) + 1) < len d.2.2.2.2.2.1.1))
            (.need (inb (w64 (w64 (0 + 1) + 1)) (len d.2.2.2.2.2.1.1)) <| .need ((2 + 1) * 1 ≤ 140737488355328) <| .call (aaG ((grD d), List.take 3 (List.take 2 ([gi d.2.2.2.2.2.1.1 0 0] ++ [0]) ++ [gi d.2.2.2.2.2.1.1 (w64 (w64 (0 + 1) + 1)) 0]), 3, ())) Dz6 fun y70 =>
             .ok ((xG d y70.1, ())))
            (.triv ((2 + 1) * 1 ≤ 140737488355328) zd <| .call (aaG ((grD d), List.take 3 (List.take 2 ([gi d.2.2.2.2.2.1.1 0 0] ++ [0]) ++ [0]), 3, ())) Dz6 fun y71 =>
             .ok ((xG d y71.1, ())))))
          (.triv (1 * 1 ≤ 140737488355328) zd <| .ite (decide (w64 (0 + 1) < len d.2.2.2.2.2.1.1))
           (.need (inb (w64 (0 + 1)) (len d.2.2.2.2.2.1.1)) <| .need ((1 + 1) * 1 ≤ 140737488355328) <| .ite (decide (w64 (w64 (0 + 1) + 1) < len d.2.2.2.2.2.1.1))
            (.need (inb (w64 (w64 (0 + 1) + 1)) (len d.2.2.2.2.2.1.1)) <| .need ((2 + 1) * 1 ≤ 140737488355328) <| .call (aaG ((grD d), List.take 3 (List.take 2 ([0] ++ [gi d.2.2.2.2.2.1.1 (w64 (0 + 1)) 0]) ++ [gi d.2.2.2.2.2.1.1 (w64 (w64 (0 + 1) + 1)) 0]), 3, ())) Dz6 fun y72 =>
             .ok ((xG d y72.1, ())))
            (.triv ((2 + 1) * 1 ≤ 140737488355328) zd <| .call (aaG ((grD d), List.take 3 (List.take 2 ([0] ++ [gi d.2.2.2.2.2.1.1 (w64 (0 + 1)) 0]) ++ [0]), 3, ())) Dz6 fun y73 =>
             .ok ((xG d y73.1, ()))))
           (.triv ((1 + 1) * 1 ≤ 140737488355328) zd <| .ite (decide (w64 (w64 (0 + 1) + 1) < len d.2.2.2.2.2.1.1))
            (.need (inb (w64 (w64 (0 + 1) + 1)) (len d.2.2.2.2.2.1.1)) <| .need ((2 + 1) * 1 ≤ 140737488355328) <| .call (aaG ((grD d), List.take 3 (List.take 2 ([0] ++ [0]) ++ [gi d.2.2.2.2.2.1.1 (w64 (w64 (0 + 1) + 1)) 0]), 3, ())) Dz6 fun y74 =>
             .ok ((xG d y74.1, ())))
            (.triv ((2 + 1) * 1 ≤ 140737488355328) zd <| .call (aaG ((grD d), List.take 3 (List.take 2 ([0] ++ [0]) ++ [0]), 3, ())) Dz6 fun y75 =>
             .ok ((xG d y75.1, ()))))))
         (.call (aaZ ((pgD 3 d), ())) Dz8 fun y76 =>
          .call (aaV ((pgD 3 d), ())) Dz3 fun y77 =>
          .ok ((xP d y76.1 3 y77.1, ()))))))
      (.bad))))
   (.ite (j.1 == 4)
    (.ite (j.2.1 == 1)
     (.ite (kD d == 1)
      (.t4 <| .call (aaK ((cD (List.headD d.2.2.1 c0D)), ())) Dz7 fun y78 =>
       .need (1 * 56 ≤ 140737488355328) <| .triv (inb (w64 (0 + 1)) (↑4 : Int)) zd <| .call (aaK ((cD (List.headD (List.tail d.2.2.1) c0D)), ())) Dz7 fun y79 =>
       .need ((1 + 1) * 56 ≤ 140737488355328) <| .triv (inb (w64 (w64 (0 + 1) + 1)) (↑4 : Int)) zd <| .call (aaK ((cD (List.headD (List.tail (List.tail d.2.2.1)) c0D)), ())) Dz7 fun y80 =>
       .need ((2 + 1) * 56 ≤ 140737488355328) <| .triv (inb (w64 (w64 (w64 (0 + 1) + 1) + 1)) (↑4 : Int)) zd <| .call (aaK ((cD (List.headD (List.tail (List.tail (List.tail d.2.2.1))) c0D)), ())) Dz7 fun y81 =>
       .need ((3 + 1) * 56 ≤ 140737488355328) <| .ok (((kD d, List.take 4 (List.take 3 (List.take 2 ([rV y78.1] ++ [rV y79.1]) ++ [rV y80.1]) ++ [rV y81.1]), [], [], ([], 0, [], ()), [], 0, 0, ()), ())))
      (.ite (kD d == 2)
       (.t4 <| .t4 <| .need (1 * 8 ≤ 140737488355328) <| .t4 <| .triv (inb (w64 (0 + 1)) (↑4 : Int)) zd <| .need ((1 + 1) * 8 ≤ 140737488355328) <| .t4 <| .triv (inb (w64 (w64 (0 + 1) + 1)) (↑4 : Int)) zd <| .need ((2 + 1) * 8 ≤ 140737488355328) <| .t4 <| .triv (inb (w64 (w64 (w64 (0 + 1) + 1) + 1)) (↑4 : Int)) zd <| .need ((3 + 1) * 8 ≤ 140737488355328) <| .need (1 * 24 ≤ 140737488355328) <| .t4 <| .need (1 * 8 ≤ 140737488355328) <| .ok (((kD d, [], [List.take 4 (List.take 3 (List.take 2 ([mD (abR d.2.2.2.1)] ++ [mD (List.tail (abR d.2.2.2.1))]) ++ [mD (List.tail (List.tail (abR d.2.2.2.1)))]) ++ [mD (List.tail (List.tail (List.tail (abR d.2.2.2.1))))])], [oD d.2.2.2.2.1], ([], 0, [], ()), [], 0, 0, ()), ())))
       (.ite (kD d == 3)
        (.ite (decide (0 < len d.2.2.2.2.2.1.1))
         (aeG d)
         (aeG d))
        (.call (aaZ ((pgD 4 d), ())) Dz8 fun y98 =>
         .call (aaV ((pgD 4 d), ())) Dz3 fun y99 =>
         .ok ((xP d y98.1 4 y99.1, ()))))))
     (.ite (j.2.1 == 2)
      (.ite (kD d == 1)
       (.t4 <| .call (aaK ((cD (List.headD d.2.2.1 c0D)), ())) Dz7 fun y100 =>
        .need (1 * 56 ≤ 140737488355328) <| .triv (inb (w64 (0 + 1)) (↑4 : Int)) zd <| .call (aaK ((cD (List.headD (List.tail d.2.2.1) c0D)), ())) Dz7 fun y101 =>
        .need ((1 + 1) * 56 ≤ 140737488355328) <| .triv (inb (w64 (w64 (0 + 1) + 1)) (↑4 : Int)) zd <| .call (aaK ((cD (List.headD (List.tail (List.tail d.2.2.1)) c0D)), ())) Dz7 fun y102 =>
        .need ((2 + 1) * 56 ≤ 140737488355328) <| .triv (inb (w64 (w64 (w64 (0 + 1) + 1) + 1)) (↑4 : Int)) zd <| .call (aaK ((cD (List.headD (List.tail (List.tail (List.tail d.2.2.1))) c0D)), ())) Dz7 fun y103 =>
        .need ((3 + 1) * 56 ≤ 140737488355328) <| .ok (((kD d, List.take 4 (List.take 3 (List.take 2 ([rV y100.1] ++ [rV y101.1]) ++ [rV y102.1]) ++ [rV y103.1]), [], [], ([], 0, [], ()), [], 0, 0, ()), ())))
       (.ite (kD d == 2)
        (.t4 <| .t4 <| .need (1 * 8 ≤ 140737488355328) <| .t4 <| .triv (inb (w64 (0 + 1)) (↑4 : Int)) zd <| .need ((1 + 1) * 8 ≤ 140737488355328) <| .t4 <| .triv (inb (w64 (w64 (0 + 1) + 1)) (↑4 : Int)) zd <| .need ((2 + 1) * 8 ≤ 140737488355328) <| .t4 <| .triv (inb (w64 (w64 (w64 (0 + 1) + 1) + 1)) (↑4 : Int)) zd <| .need ((3 + 1) * 8 ≤ 140737488355328) <| .need (1 * 24 ≤ 140737488355328) <| .t4 <| .need (1 * 8 ≤ 140737488355328) <| .triv (inb (w64 (0 + 1)) (↑4 : Int)) zd <| .t4 <| .need (1 * 8 ≤ 140737488355328) <| .triv (inb (w64 (0 + 1)) (↑4 : Int)) zd <| .triv (inb (w64 (0 + 1)) (↑4 : Int)) zd <| .need ((1 + 1) * 8 ≤ 140737488355328) <| .triv (inb (w64 (0 + 1)) (↑4 : Int)) zd <| .triv (inb (w64 (w64 (0 + 1) + 1)) (↑4 : Int)) zd <| .need ((2 + 1) * 8 ≤ 140737488355328) <| .triv (inb (w64 (0 + 1)) (↑4 : Int)) zd <| .triv (inb (w64 (w64 (w64 (0 + 1) + 1) + 1)) (↑4 : Int)) zd <| .need ((3 + 1) * 8 ≤ 140737488355328) <| .need ((1 + 1) * 24 ≤ 140737488355328) <| .triv (inb (w64 (0 + 1)) (↑4 : Int)) zd <| .need ((1 + 1) * 8 ≤ 140737488355328) <| .ok (((kD d, [], List.take 2 ([List.take 4 (List.take 3 (List.take 2 ([mD (abR d.2.2.2.1)] ++ [mD (List.tail (abR d.2.2.2.1))]) ++ [mD (List.tail (List.tail (abR d.2.2.2.1)))]) ++ [mD (List.tail (List.tail (List.tail (abR d.2.2.2.1))))])] ++ [List.take 4 (List.take 3 (List.take 2 ([mD (abR (List.tail d.2.2.2.1))] ++ [mD (List.tail (abR (List.tail d.2.2.2.1)))]) ++ [mD (List.tail (List.tail (abR (List.tail d.2.2.2.1))))]) ++ [mD (List.tail (List.tail (List.tail (abR (List.tail d.2.2.2.1)))))])]), List.take 2 ([oD d.2.2.2.2.1] ++ [oD (List.tail d.2.2.2.2.1)]), ([], 0, [], ()), [], 0, 0, ()), ())))
        (.ite (kD d == 3)
         (.ite (decide (0 < len d.2.2.2.2.2.1.1))
          (aeF d)
          (aeF d))
         (.call (aaZ ((pgD 4 d), ())) Dz8 fun y120 =>
          .call (aaV ((pgD 4 d), ())) Dz3 fun y121 =>
          .ok ((xP d y120.1 4 y121.1, ()))))))
      (.ite (j.2.1 == 3)
       (.ite (kD d == 1)
        (.t4 <| .call (aaK ((cD (List.headD d.2.2.1 c0D)), ())) Dz7 fun y122 =>
         .need (1 * 56 ≤ 140737488355328) <| .triv (inb (w64 (0 + 1)) (↑4 : Int)) zd <| .call (aaK ((cD (List.headD (List.tail d.2.2.1) c0D)), ())) Dz7 fun y123 =>
         .need ((1 + 1) * 56 ≤ 140737488355328) <| .triv (inb (w64 (w64 (0 + 1) + 1)) (↑4 : Int)) zd <| .call (aaK ((cD (List.headD (List.tail (List.tail d.2.2.1)) c0D)), ())) Dz7 fun y124 =>
         .need ((2 + 1) * 56 ≤ 140737488355328) <| .triv (inb (w64 (w64 (w64 (0 + 1) + 1) + 1)) (↑4 : Int)) zd <| .call (aaK ((cD (List.headD (List.tail (List.tail (List.tail d.2.2.1))) c0D)), ())) Dz7 fun y125 =>
         .need ((3 + 1) * 56 ≤ 140737488355328) <| .ok (((kD d, List.take 4 (List.take 3 (List.take 2 ([rV y122.1] ++ [rV y123.1]) ++ [rV y124.1]) ++ [rV y125.1]), [], [], ([], 0, [], ()), [], 0, 0, ()), ())))
        (.ite (kD d == 2)
         (.t4 <| .t4 <| .need (1 * 8 ≤ 140737488355328) <| .t4 <| .triv (inb (w64 (0 + 1)) (↑4 : Int)) zd <| .need ((1 + 1) * 8 ≤ 140737488355328) <| .t4 <| .triv (inb (w64 (w64 (0 + 1) + 1)) (↑4 : Int)) zd <| .need ((2 + 1) * 8 ≤ 140737488355328) <| .t4 <| .triv (inb (w64 (w64 (w64 (0 + 1) + 1) + 1)) (↑4 : Int)) zd <| .need ((3 + 1) * 8 ≤ 140737488355328) <| .need (1 * 24 ≤ 140737488355328) <| .t4 <| .need (1 * 8 ≤ 140737488355328) <| .triv (inb (w64 (0 + 1)) (↑4 : Int)) zd <| .t4 <| .need (1 * 8 ≤ 140737488355328) <| .triv (inb (w64 (0 + 1)) (↑4 : Int)) zd <| .triv (inb (w64 (0 + 1)) (↑4 : Int)) zd <| .need ((1 + 1) * 8 ≤ 140737488355328) <| .triv (inb (w64 (0 + 1)) (↑4 : Int)) zd <| .triv (inb (w64 (w64 (0 + 1) + 1)) (↑4 : Int)) zd <| .need ((2 + 1) * 8 ≤ 140737488355328) <| .triv (inb (w64 (0 + 1)) (↑4 : Int)) zd <| .triv (inb (w64 (w64 (w64 (0 + 1) + 1) + 1)) (↑4 : Int)) zd <| .need ((3 + 1) * 8 ≤ 140737488355328) <| .need ((1 + 1) * 24 ≤ 140737488355328) <| .triv (inb (w64 (0 + 1)) (↑4 : Int)) zd <| .need ((1 + 1) * 8 ≤ 140737488355328) <| .triv (inb (w64 (w64 (0 + 1) + 1)) (↑4 : Int)) zd <| .t4 <| .need (1 * 8 ≤ 140737488355328) <| .triv (inb (w64 (w64 (0 + 1) + 1)) (↑4 : Int)) zd <| .triv (inb (w64 (0 + 1)) (↑4 : Int)) zd <| .need ((1 + 1) * 8 ≤ 140737488355328) <| .triv (inb (w64 (w64 (0 + 1) + 1)) (↑4 : Int)) zd <| .triv (inb (w64 (w64 (0 + 1) + 1)) (↑4 : Int)) zd <| .need ((2 + 1) * 8 ≤ 140737488355328) <| .triv (inb (w64 (w64 (0 + 1) + 1)) (↑4 : Int)) zd <| .triv (inb (w64 (w64 (w64 (0 + 1) + 1) + 1)) (↑4 : Int)) zd <| .need ((3 + 1) * 8 ≤ 140737488355328) <| .need ((2 + 1) * 24 ≤ 140737488355328) <| .triv (inb (w64 (w64 (0 + 1) + 1)) (↑4 : Int)) zd <| .need ((2 + 1) * 8 ≤ 140737488355328) <| .ok (((kD d, [], List.take 3 (List.take 2 ([List.take 4 (List.take 3 (List.take 2 ([mD (abR d.2.2.2.1)] ++ [mD (List.tail (abR d.2.2.2.1))]) ++ [mD (List.tail (List.tail (abR d.2.2.2.1)))]) ++ [mD (List.tail (List.tail (List.tail (abR d.2.2.2.1))))])] ++ [List.take 4 (List.take 3 (List.take 2 ([mD (abR (List.tail d.2.2.2.1))] ++ [mD (List.tail (abR (List.tail d.2.2.2.1)))]) ++ [mD (List.tail (List.tail (abR (List.tail d.2.2.2.1))))]) ++ [mD (List.tail (List.tail (List.tail (abR (List.tail d.2.2.2.1)))))])]) ++ [List.take 4 (List.take 3 (List.take 2 ([mD (abR (List.tail (List.tail d.2.2.2.1)))] ++ [mD (List.tail (abR (List.tail (List.tail d.2.2.2.1))))]) ++ [mD (List.tail (List.tail (abR (List.tail (List.tail d.2.2.2.1)))))]) ++ [w64 (30 * w64 (List.headD (List.tail (List.tail (List.tail (abR (List.tail (List.tail d.2.2.2.1)))))) 0))])]), List.take 3 (List.take 2 ([oD d.2.2.2.2.1] ++ [oD (List.tail d.2.2.2.2.1)]) ++ [oD (List.tail (List.tail d.2.2.2.2.1))]), ([], 0, [], ()), [], 0, 0, ()), ())))
         (.ite (kD d == 3)
          (.ite (decide (0 < len d.2.2.2.2.2.1.1))
           (aeE d)
           (aeE d))
          (.call (aaZ ((pgD 4 d), ())) Dz8 fun y142 =>
           .call (aaV ((pgD 4 d), ())) Dz3 fun y143 =>
           .ok ((xP d y142.1 4 y143.1, ()))))))
       (.bad))))
    (.bad))))
def ad2 (d : DeT) (ins : Int) : TT (ElT × Unit) :=
 .triv (asT Int 4 ≠ 0) zd <| .join 0 (ι := Int × Int × Unit) (.triv (asT Int 3 ≠ 0) zd <| .tt <| .lt (w64 (1 + w64 (Int.tmod d.2.1 3)) : Int) fun z => .xD (xQ z ins <| wN ∧ wb ∧ wc ∧ True) <| .xD (xC (xQ 82 (kD d : Int) <| True ∧ xZ) <| xC (xQ 82 (0 : Int) <| True ∧ xZ) <| xC (xN 40 d.1 d.2.1 ((List.headD d.2.2.1 c0D).1 : Int) ((List.headD d.2.2.1 c0D).2.1 : List Int) ((List.headD d.2.2.1 c0D).2.2.1 : List xW) ((List.headD d.2.2.1 c0D).2.2.2.1) ((List.headD d.2.2.1 c0D).2.2.2.2.1) <| xN ((List.headD (List.tail d.2.2.1) c0D).1 : Int) ((List.headD (List.tail d.2.2.1) c0D).2.1 : List Int) ((List.headD (List.tail d.2.2.1) c0D).2.2.1 : List xW) ((List.headD (List.tail d.2.2.1) c0D).2.2.2.1) ((List.headD (List.tail d.2.2.1) c0D).2.2.2.2.1) ((List.headD (List.tail (List.tail d.2.2.1)) c0D).1 : Int) ((List.headD (List.tail (List.tail d.2.2.1)) c0D).2.1 : List Int) ((List.headD (List.tail (List.tail d.2.2.1)) c0D).2.2.1 : List xW) <| xN ((List.headD (List.tail (List.tail d.2.2.1)) c0D).2.2.2.1) ((List.headD (List.tail (List.tail d.2.2.1)) c0D).2.2.2.2.1) ((List.headD (List.tail (List.tail (List.tail d.2.2.1))) c0D).1 : Int) ((List.headD (List.tail (List.tail (List.tail d.2.2.1))) c0D).2.1 : List Int) ((List.headD (List.tail (List.tail (List.tail d.2.2.1))) c0D).2.2.1 : List xW) ((List.headD (List.tail (List.tail (List.tail d.2.2.1))) c0D).2.2.2.1) ((List.headD (List.tail (List.tail (List.tail d.2.2.1))) c0D).2.2.2.2.1) (List.headD (abR d.2.2.2.1) 0) <| xN (List.headD (List.tail (abR d.2.2.2.1)) 0) (List.headD (List.tail (List.tail (abR d.2.2.2.1))) 0 : Int) (List.headD (List.tail (List.tail (List.tail (abR d.2.2.2.1)))) 0 : Int) (List.headD (abR (List.tail d.2.2.2.1)) 0) (List.headD (List.tail (abR (List.tail d.2.2.2.1))) 0 : Int) (List.headD (List.tail (List.tail (abR (List.tail d.2.2.2.1)))) 0 : Int) (List.headD (List.tail (List.tail (List.tail (abR (List.tail d.2.2.2.1))))) 0 : Int) (List.headD (abR (List.tail (List.tail d.2.2.2.1))) 0 : Int) <| xN (List.headD (List.tail (abR (List.tail (List.tail d.2.2.2.1)))) 0 : Int) (List.headD (List.tail (List.tail (abR (List.tail (List.tail d.2.2.2.1))))) 0 : Int) (List.headD (List.tail (List.tail (List.tail (abR (List.tail (List.tail d.2.2.2.1)))))) 0 : Int) (List.headD (abR (List.tail (List.tail (List.tail d.2.2.2.1)))) 0 : Int) (List.headD (List.tail (abR (List.tail (List.tail (List.tail d.2.2.2.1))))) 0 : Int) (List.headD (List.tail (List.tail (abR (List.tail (List.tail (List.tail d.2.2.2.1)))))) 0 : Int) (List.headD (List.tail (List.tail (List.tail (abR (List.tail (List.tail (List.tail d.2.2.2.1))))))) 0 : Int) (List.headD d.2.2.2.2.1 0) <| xN (List.headD (List.tail d.2.2.2.2.1) 0) (List.headD (List.tail (List.tail d.2.2.2.2.1)) 0) (List.headD (List.tail (List.tail (List.tail d.2.2.2.2.1))) 0 : Int) d.2.2.2.2.2.1.1 d.2.2.2.2.2.1.2.1 d.2.2.2.2.2.1.2.2.1 d.2.2.2.2.2.1.2.2.2.1 d.2.2.2.2.2.2.1.1 <| xM d.2.2.2.2.2.2.1.2.1 d.2.2.2.2.2.2.1.2.2.1) True) <| .ok (.inl ((ins, z, ())))) (ak2 d ins)
end
open Go Go.Vg
def i16L (l : List Int) : Prop := ∀ v ∈ l, -32768 ≤ v ∧ v ≤ 32767
def rowsL (l : List (List Int)) : Prop := ∀ r ∈ l, i16L r
def drL (l : List CdT) : Prop := ∀ c ∈ l, aLk c
theorem i16L.tl {l : List Int} (h : i16L l) : i16L l.tail := fun v hv => h v (xB hv)
theorem rowsL.tl {l : List (List Int)} (h : rowsL l) : rowsL l.tail := fun v hv => h v (xB hv)
theorem drL.tl {l : List CdT} (h : drL l) : drL l.tail := fun v hv => h v (xB hv)
theorem i16L.hd {l : List Int} (h : i16L l) : -32768 ≤ l.headD 0 ∧ l.headD 0 ≤ 32767 := by
 cases l with
 | nil => exact ⟨by decide, by decide⟩
 | cons a l => exact h a zy
theorem rowsL.hd {l : List (List Int)} (h : rowsL l) : i16L (abR l) := by
 cases l with
 | nil => intro v hv; rw [(List.mem_replicate.1 hv).2]; exact ⟨by decide, by decide⟩
 | cons a l => exact h a zy
theorem drL.hd {l : List CdT} (h : drL l) : aLk (l.headD c0D) := by
 cases l with
 | nil => exact show aLk c0D from ⟨⟨by decide, by decide⟩, (fun v (hv : v ∈ ([] : List Int)) => by cases hv), (fun s (hs : s ∈ ([] : List akY)) => by cases hs)⟩
 | cons a l => exact h a zy
theorem ab9 {r : List Int} (h : i16L r) : aaS (mD r) := by
 have := h.hd
 show inR (w64 (30 * w64 (r.headD 0))) _ _
 rw [aaD (x := r.headD 0) ⟨by omega, by omega⟩, aaD ⟨by omega, by omega⟩]
 exact ⟨by omega, by omega⟩
theorem apT {r : List Int} (h : i16L r) : aaS (oD r) := by
 have := h.hd
 show inR (w64 (10 * w64 (r.headD 0))) _ _
 rw [aaD (x := r.headD 0) ⟨by omega, by omega⟩, aaD ⟨by omega, by omega⟩]
 exact ⟨by omega, by omega⟩
def wfE (d : DeT) : Prop := (0 ≤ d.1 ∧ d.1 ≤ 255) ∧ (0 ≤ d.2.1 ∧ d.2.1 ≤ 255) ∧ drL d.2.2.1 ∧ rowsL d.2.2.2.1 ∧ i16L d.2.2.2.2.1 ∧ (wfG d.2.2.2.2.2.1 ∧ ∀ v ∈ d.2.2.2.2.2.1.1, 0 ≤ v ∧ v ≤ 255) ∧ wfP d.2.2.2.2.2.2.1
section
variable {α : Type} {P : α → Prop}
theorem aHW {c : CdT} {dd : CvT × Unit} {x : CvT × Unit → TT α} (h : aLk c) (hx : ∀ v, acV v → WP (x (v, ())) P) : WP (.call (aaK (cD c, ())) dd x) P := by
 obtain ⟨v, e, r⟩ := aJz c h
 exact aaM _ e (hx v r)
theorem aKK {g : GdT} {pts : List Int} {out : Int} {dd : GrT × Unit} {x : GrT × Unit → TT α} (h : wfG g) (hp : (1 ≤ pts.length ∧ pts.length ≤ 4) ∧ ∀ n ∈ pts, 0 ≤ n ∧ n ≤ 255) (ho : 1 ≤ out ∧ out ≤ 3) (hx : ∀ v, af2 v → v.1.length = pts.length → WP (x (v, ())) P) :
  WP (.call (aaG ((g.1, g.2.1, g.2.2.1, g.2.2.2.1, ()), pts, out, ())) dd x) P := by
 obtain ⟨⟨v, u⟩, e, r1, r2, -⟩ := aA4 g h pts hp out ho
 exact aaM (v, ()) e (hx v r1 r2)
theorem aKI {p : PgT} {dd : List OpT × Unit} {x : List OpT × Unit → TT α} (h : wfP p) (hx : ∀ v : List OpT, v.length ≤ 30 → (∀ I, 1 + Int.tmod p.1 3 ≤ I → PgOk I v (1 + Int.tmod p.2.1 3)) → WP (x (v, ())) P) : WP (.call (aaZ (p, ())) dd x) P := by
 obtain ⟨⟨v, u⟩, e, r1, r2⟩ := atE p h
 exact aaM (v, ()) e (hx v r1 r2)
end
theorem aoM {α : Type} (p : α → Prop) : ∀ x ∈ ([] : List α), p x := fun _ h => by cases h
theorem all_cons {α : Type} {p : α → Prop} {a : α} {l : List α} (h : p a) (hl : ∀ x ∈ l, p x) : ∀ x ∈ a :: l, p x := fun x hx => by
 rcases zp.1 hx with e | hx
 ·rw [e]; exact h
 ·exact hl x hx
theorem aNA {k n : Int} {l : List CvT} (hk : k = 1) (hl : (l.length : Int) = n) (h14 : 1 ≤ n ∧ n ≤ 4) (hr : ∀ c ∈ l, acV c) : abM (k, l, [], [], ([], 0, [], ()), [], 0, 0, ()) ∧ aEb (k, l, [], [], ([], 0, [], ()), [], 0, 0, ()) = n := by
 subst hk
 exact ⟨Or.inl ⟨rfl, ⟨rfl, rfl⟩, ⟨rfl, rfl, rfl⟩, ⟨rfl, rfl, rfl⟩, ⟨by dsimp only; omega, by dsimp only; omega⟩, hr⟩, hl⟩
theorem aNz {k n : Int} {rows : List (List Int)} {off : List Int} (hk : k = 2) (h14 : 1 ≤ n ∧ n ≤ 4) (hl : 1 ≤ rows.length ∧ rows.length ≤ 4) (ho : off.length = rows.length) (hr : ∀ r ∈ rows, (r.length : Int) = n ∧ ∀ v ∈ r, aaS v) (hs : ∀ v ∈ off, aaS v) :
  abM (k, [], rows, off, ([], 0, [], ()), [], 0, 0, ()) ∧ aEb (k, [], rows, off, ([], 0, [], ()), [], 0, 0, ()) = n := by
 subst hk
 have h0 := hr _ (aa9 (show 0 < rows.length by omega) [])
 exact ⟨Or.inr (Or.inl ⟨rfl, rfl, ⟨rfl, rfl, rfl⟩, ⟨rfl, rfl, rfl⟩, hl, ho, ⟨by dsimp only; omega, by dsimp only; omega⟩, fun r hr' => ⟨by have := (hr r hr').1; dsimp only; omega, (hr r hr').2⟩, hs⟩), h0.1⟩
theorem aNB {k n : Int} {g : GrT} (hk : k = 3) (hg : af2 g) (hn : (g.1.length : Int) = n) : abM (k, [], [], [], (g.1, g.2.1, g.2.2.1, ()), [], 0, 0, ()) ∧ aEb (k, [], [], [], (g.1, g.2.1, g.2.2.1, ()), [], 0, 0, ()) = n := by
 subst hk
 exact ⟨Or.inr (Or.inr (Or.inl ⟨rfl, rfl, ⟨rfl, rfl⟩, ⟨rfl, rfl, rfl⟩, hg⟩)), hn⟩
theorem aNx {k i o : Int} {p : List OpT} (hk : k = 4) (hi : 1 ≤ i ∧ i ≤ 4) (ho : 1 ≤ o ∧ o ≤ 4) (hp : p.length ≤ 30) (h : PgOk i p o) : abM (k, [], [], [], ([], 0, [], ()), p, i, o, ()) ∧ aEb (k, [], [], [], ([], 0, [], ()), p, i, o, ()) = i := by
 subst hk
 obtain ⟨m, e, hm⟩ := h
 refine ⟨Or.inr (Or.inr (Or.inr ⟨rfl, rfl, ⟨rfl, rfl⟩, ⟨rfl, rfl, rfl⟩, ?_⟩)), rfl⟩
 show (aeB p i o).isSome = true
 unfold aeB
 rw [if_pos ⟨⟨by omega, by omega⟩, ⟨by omega, by omega⟩, by omega⟩, e]
 show (if m ≤ 16 ∧ o = o then some m else none).isSome = true
 rw [if_pos ⟨by omega, rfl⟩]; rfl
set_option maxHeartbeats 0 in
theorem ak1 (d : DeT) (hd : wfE d) (ins : Int) (hi : 1 ≤ ins ∧ ins ≤ 4) : WP (ad2 d ins) fun y => abM y.1 ∧ aEb y.1 = ins := by
 obtain ⟨hk, ho, hc, hr, hof, ⟨hg, hgz⟩, hp⟩ := hd
 have hk4 := adK (a := d.1) (k := 4) zc hk.1
 have ek : kD d = 1 + Int.tmod d.1 4 := by
  show w64 (1 + w64 (Int.tmod d.1 4)) = _
  rw [aaD (x := Int.tmod d.1 4) ⟨by omega, by omega⟩, aaD ⟨by omega, by omega⟩]
 obtain ⟨o1, o2, o3⟩ := aEV ho.1 ho.2
 have hq : ∀ k : Int, 1 ≤ k → k ≤ 4 → wfP (pgD k d) ∧ 1 + Int.tmod (pgD k d).1 3 ≤ k := by
  intro k h1 h4
  have : k = 1 ∨ k = 2 ∨ k = 3 ∨ k = 4 := zc
  have e1 : (pgD 1 d).1 = 0 := rfl
  have e2 : (pgD 2 d).1 = 1 := rfl
  have e3 : (pgD 3 d).1 = 2 := rfl
  have e4 : (pgD 4 d).1 = 2 := rfl
  rcases this with rfl | rfl | rfl | rfl
  ·exact ⟨⟨by rw [e1]; omega, hp.2.1, hp.2.2.1, hp.2.2.2⟩, by rw [e1]; decide⟩
  ·exact ⟨⟨by rw [e2]; omega, hp.2.1, hp.2.2.1, hp.2.2.2⟩, by rw [e2]; decide⟩
  ·exact ⟨⟨by rw [e3]; omega, hp.2.1, hp.2.2.1, hp.2.2.2⟩, by rw [e3]; decide⟩
  ·exact ⟨⟨by rw [e4]; omega, hp.2.1, hp.2.2.1, hp.2.2.2⟩, by rw [e4]; decide⟩
 obtain ⟨p1, p2, p3⟩ := aEV hp.2.1.1 hp.2.1.2
 have LO : ∀ k : Int, aaV (pgD k d, ()) = some (1 + Int.tmod d.2.2.2.2.2.2.1.2.1 3, ()) := by intro k; rw [← p1]; rfl
 have hgi : ∀ k : Nat, k < d.2.2.2.2.2.1.1.length → 0 ≤ gi d.2.2.2.2.2.1.1 (k : Int) 0 ∧ gi d.2.2.2.2.2.1.1 (k : Int) 0 ≤ 255 := by
  intro k hk; rw [aaJ]; exact hgz _ (aa9 hk 0)
 unfold ad2
 refine aaA (am8 (fun j => j.1 = ins ∧ 1 ≤ j.2.1 ∧ j.2.1 ≤ 3) ?_ ?_)
 ·exact aaA (aaA (aaP (aaA (aaA (aaN ⟨rfl, by rw [o1]; dsimp only; omega, by rw [o1]; dsimp only; omega⟩)))))
 intro j hj
 obtain ⟨a, b, u⟩ := j
 obtain ⟨rfl, hb1, hb3⟩ := hj
 dsimp only at hi hb1 hb3
 have hk1 : 1 ≤ kD d ∧ kD d ≤ 4 := by rw [ek]; omega
 unfold ak2 aeE aeF aeG acC acD acE
 have hw1 : w64 (0 + 1) = ((1 : Nat) : Int) := rfl
 have hw2 : w64 (w64 (0 + 1) + 1) = ((2 : Nat) : Int) := rfl
 have hw3 : w64 (w64 (w64 (0 + 1) + 1) + 1) = ((3 : Nat) : Int) := rfl
 have m00 : aaS (mD (abR d.2.2.2.1)) := ab9 hr.hd
 have m01 : aaS (mD (List.tail ((abR d.2.2.2.1)))) := ab9 hr.hd.tl
 have m02 : aaS (mD (List.tail (List.tail ((abR d.2.2.2.1))))) := ab9 hr.hd.tl.tl
 have m03 : aaS (mD (List.tail (List.tail (List.tail ((abR d.2.2.2.1)))))) := ab9 hr.hd.tl.tl.tl
 have m10 : aaS (mD (abR (List.tail d.2.2.2.1))) := ab9 hr.tl.hd
 have m11 : aaS (mD (List.tail ((abR (List.tail d.2.2.2.1))))) := ab9 hr.tl.hd.tl
 have m12 : aaS (mD (List.tail (List.tail ((abR (List.tail d.2.2.2.1)))))) := ab9 hr.tl.hd.tl.tl
 have m13 : aaS (mD (List.tail (List.tail (List.tail ((abR (List.tail d.2.2.2.1))))))) := ab9 hr.tl.hd.tl.tl.tl
 have m20 : aaS (mD (abR (List.tail (List.tail d.2.2.2.1)))) := ab9 hr.tl.tl.hd
 have m21 : aaS (mD (List.tail ((abR (List.tail (List.tail d.2.2.2.1)))))) := ab9 hr.tl.tl.hd.tl
 have m22 : aaS (mD (List.tail (List.tail ((abR (List.tail (List.tail d.2.2.2.1))))))) := ab9 hr.tl.tl.hd.tl.tl
 have m23 : aaS (mD (List.tail (List.tail (List.tail ((abR (List.tail (List.tail d.2.2.2.1)))))))) := ab9 hr.tl.tl.hd.tl.tl.tl
 have m30 : aaS (mD (abR (List.tail (List.tail (List.tail d.2.2.2.1))))) := ab9 hr.tl.tl.tl.hd
 have m31 : aaS (mD (List.tail ((abR (List.tail (List.tail (List.tail d.2.2.2.1))))))) := ab9 hr.tl.tl.tl.hd.tl
 have m32 : aaS (mD (List.tail (List.tail ((abR (List.tail (List.tail (List.tail d.2.2.2.1)))))))) := ab9 hr.tl.tl.tl.hd.tl.tl
 have m33 : aaS (mD (List.tail (List.tail (List.tail ((abR (List.tail (List.tail (List.tail d.2.2.2.1))))))))) := ab9 hr.tl.tl.tl.hd.tl.tl.tl
 have q0 : aaS (oD d.2.2.2.2.1) := apT hof
 have q1 : aaS (oD (List.tail d.2.2.2.2.1)) := apT hof.tl
 have q2 : aaS (oD (List.tail (List.tail d.2.2.2.2.1))) := apT hof.tl.tl
 have q3 : aaS (oD (List.tail (List.tail (List.tail d.2.2.2.2.1)))) := apT hof.tl.tl.tl
 repeat' (first
  | refine aaA ?_
  | refine aHW (by first | exact hc.hd | exact hc.tl.hd | exact hc.tl.tl.hd | exact hc.tl.tl.tl.hd) (fun v hv => ?_)
  | refine aKI (hq _ zc zc).1 (fun v hv1 hv2 => ?_)
  | refine aaM _ (LO _) ?_
  | refine aaF zc ?_
  | refine aaF ⟨by first | omega | exact xk _, by rw [aaB]; omega⟩ ?_
  | refine aKK hg ⟨⟨by simp, by simp⟩, by intro n hn; simp at hn; first | (subst hn; omega) | (subst hn; first | exact hgi 0 zc) | (rcases hn with h | h <;> subst h <;> first | omega | exact hgi 0 zc | exact hgi 1 zc) | (rcases hn with h | h | h <;> subst h <;> first | omega | exact hgi 0 zc | exact hgi 1 zc | exact hgi 2 zc)⟩ zc (fun v hv1 hv2 => ?_)
  | (refine aaI (fun h => ?_) (fun h => ?_) <;> simp only [zC, xq, zz, beq_eq_false_iff_ne, ne_eq] at h <;> try simp only [aaB] at h))
 all_goals (try subst_vars)
 all_goals (try dsimp only)
 all_goals first
  | (refine aaN (aNA zc (by simp; try omega) hi ?_); intro c hc'; simp at hc'; first | (subst hc'; assumption) | (rcases hc' with h | h <;> (subst h; assumption)) | (rcases hc' with h | h | h <;> (subst h; assumption)) | (rcases hc' with h | h | h | h <;> (subst h; assumption)))
  | (refine aaN (aNz zc hi ⟨Nat.le_of_ble_eq_true rfl, Nat.le_of_ble_eq_true rfl⟩ rfl ?_ ?_) <;> repeat' (first | exact aoM _ | assumption | exact rfl | refine all_cons ?_ ?_ | refine ⟨?_, ?_⟩))
  | (refine aaN (aNB (g := v) zc hv1 ?_); rw [hv2]; simp)
  | (exact aaN (aNx zc zc ⟨by omega, by omega⟩ hv1 (hv2 _ (hq _ zc zc).2)))
  | (exfalso; omega)
noncomputable def aa4 (x : DeT × Int × Unit) : Option (ElT × Unit) := (ad2 x.1 x.2.1).toO
set_option maxRecDepth 100000
open Go Go.Vg Go.Proofs
noncomputable section
abbrev d0D : DeT := (0, 0, List.replicate 4 c0D, List.replicate 4 (List.replicate 4 0), List.replicate 4 0, ([], 0, [], false, ()), (0, 0, [], ()), ())
abbrev gD (l : List DeT) (i : Int) : DeT := gi l i d0D
abbrev c4D (l : List CdT) : List CdT := [cD (List.headD l c0D), cD (List.headD (List.tail l) c0D), cD (List.headD (List.tail (List.tail l)) c0D), cD (List.headD (List.tail (List.tail (List.tail l))) c0D)]
abbrev r4D (l : List Int) : List Int := [List.headD l 0, List.headD (List.tail l) 0, List.headD (List.tail (List.tail l)) 0, List.headD (List.tail (List.tail (List.tail l))) 0]
abbrev aOj (l : List (List Int)) : List (List Int) := [r4D (abR l), r4D (abR (List.tail l)), r4D (abR (List.tail (List.tail l))), r4D (abR (List.tail (List.tail (List.tail l))))]
abbrev reD (k : Int) (d : DeT) : DeT := (k, d.2.1, c4D d.2.2.1, aOj d.2.2.2.1, r4D d.2.2.2.2.1, grD d, (d.2.2.2.2.2.2.1.1, d.2.2.2.2.2.2.1.2.1, d.2.2.2.2.2.2.1.2.2.1, ()), ())
def aDq : LTab := [(8, 122, 8194, ⟨0, (Int) × (Int) × Bool × (List ElT) × Unit, .dat (.s 7) xX <| .dat (.s 6) xX <| .appN (.c 4 1) 8 82 tyE <| .nil, [5, 4, 2], [4, 1, 0], 1⟩)]
def aqP (d : DcT) (in0 : Int) (i : (Int) × (Int) × Bool × (List ElT) × Unit) : TT (((Int) × (Int) × Bool × (List ElT) × Unit) ⊕ (ChT × Unit)) :=
 .ite (i.2.2.1)
 (.ite (decide (i.1 < len d.2.1))
 (.ite (decide (i.1 < 3))
 (.need (inb i.1 (len d.2.1)) <| .ite (d.2.2.1)
 (.triv (asT Int 2 ≠ 0) zd <| .call (aa4 (reD (wu8 (2 * Int.tmod (gD d.2.1 i.1).1 2)) (gD d.2.1 i.1), i.2.1, ())) Dz9 fun y =>
 .need (1 * 176 ≤ 140737488355328) <| .call (acT ((rE y.1), ())) Dz0 fun y1 =>
 .tt <| .lt (w64 (i.1 + 1) : Int) fun z1 => .lt ([(rE y.1)] : List ElT) fun z2 => .xD (xQ y1.1 z1 <| wR ∧ wb ∧ wc ∧ True) <| .xD (xC (xS 82 z2) <| xC (xQ 47 in0 <| (xU 8 0 1 true) ∧ True) <| xC wd <| xC (xE 24 d.1 d.2.1 d.2.2.1) True) <| .ok (.inl ((z1, y1.1, false, z2, ()))))
 (.call (aa4 (reD ((gD d.2.1 i.1).1) (gD d.2.1 i.1), i.2.1, ())) Dz9 fun y2 =>
 .need (1 * 176 ≤ 140737488355328) <| .call (acT ((rE y2.1), ())) Dz0 fun y3 =>
 .tt <| .lt (w64 (i.1 + 1) : Int) fun z3 => .lt ([(rE y2.1)] : List ElT) fun z4 => .xD (xQ y3.1 z3 <| wR ∧ wb ∧ wc ∧ True) <| .xD (xC (xS 82 z4) <| xC (xQ 47 in0 <| (xU 8 0 1 true) ∧ True) <| xC wd <| xC (xE 24 d.1 d.2.1 d.2.2.1) True) <| .ok (.inl ((z3, y3.1, false, z4, ())))))
 (.ok (.inr (((in0, [], ()), ())))))
 (.ok (.inr (((in0, [], ()), ())))))
 (.ite (decide (i.1 < len d.2.1))
 (.ite (decide (i.1 < 3))
 (.need (inb i.1 (len d.2.1)) <| .ite (d.2.2.1)
 (.triv (asT Int 2 ≠ 0) zd <| .call (aa4 (reD (wu8 (2 * Int.tmod (gD d.2.1 i.1).1 2)) (gD d.2.1 i.1), i.2.1, ())) Dz9 fun y4 =>
 .need ((List.length i.2.2.2.1 + 1) * 176 ≤ 140737488355328) <| .call (acT ((rE y4.1), ())) Dz0 fun y5 =>
 .tt <| .lt (w64 (i.1 + 1) : Int) fun z5 => .lt (List.take (List.length i.2.2.2.1) i.2.2.2.1 ++ [(rE y4.1)] : List ElT) fun z6 => .xD (xQ y5.1 z5 <| wR ∧ wb ∧ wc ∧ True) <| .need ((((82 : TypeId) = 82) ∧ ((z6 : List ElT) = z6)) ∧ (true = true) ∧ (((47 : TypeId) = 47) ∧ (((in0) = (in0)) ∧ ((((8) = (8)) ∧ (((0) = (0)) ∧ ((List.length i.2.2.2.1 + 1 = List.length z6) ∧ ((true) = (true))))) ∧ True))) ∧ (true = true) ∧ (((47 : TypeId) = 47) ∧ (((0 : Int) = 0) ∧ wq)) ∧ (true = true) ∧ (((24 : TypeId) = 24) ∧ (((d.1 : Int) = d.1) ∧ (((d.2.1 : List DeT) = d.2.1) ∧ (((d.2.2.1) = (d.2.2.1)) ∧ True)))) ∧ (true = true) ∧ True) <| .ok (.inl ((z5, y5.1, false, z6, ()))))
 (.call (aa4 (reD ((gD d.2.1 i.1).1) (gD d.2.1 i.1), i.2.1, ())) Dz9 fun y6 =>
 .need ((List.length i.2.2.2.1 + 1) * 176 ≤ 140737488355328) <| .call (acT ((rE y6.1), ())) Dz0 fun y7 =>
 .tt <| .lt (w64 (i.1 + 1) : Int) fun z7 => .lt (List.take (List.length i.2.2.2.1) i.2.2.2.1 ++ [(rE y6.1)] : List ElT) fun z8 => .xD (xQ y7.1 z7 <| wR ∧ wb ∧ wc ∧ True) <| .need ((((82 : TypeId) = 82) ∧ ((z8 : List ElT) = z8)) ∧ (true = true) ∧ (((47 : TypeId) = 47) ∧ (((in0) = (in0)) ∧ ((((8) = (8)) ∧ (((0) = (0)) ∧ ((List.length i.2.2.2.1 + 1 = List.length z8) ∧ ((true) = (true))))) ∧ True))) ∧ (true = true) ∧ (((47 : TypeId) = 47) ∧ (((0 : Int) = 0) ∧ wq)) ∧ (true = true) ∧ (((24 : TypeId) = 24) ∧ (((d.1 : Int) = d.1) ∧ (((d.2.1 : List DeT) = d.2.1) ∧ (((d.2.2.1) = (d.2.2.1)) ∧ True)))) ∧ (true = true) ∧ True) <| .ok (.inl ((z7, y7.1, false, z8, ())))))
 (.ok (.inr (((in0, List.take (List.length i.2.2.2.1) i.2.2.2.1, ()), ())))))
 (.ok (.inr (((in0, List.take (List.length i.2.2.2.1) i.2.2.2.1, ()), ())))))
def ahM (d : DcT) (in0 : Int) : TT (ChT × Unit) :=
 .loop 0 (.tt <| .lt ([] : List ElT) fun z => .xD (xQ in0 (0 : Int) <| wR ∧ wb ∧ wc ∧ True) <| .xD (xC (xQ 47 in0 <| True ∧ True) <| xC wd <| xC (xE 24 d.1 d.2.1 d.2.2.1) True) <| .ok ((0, in0, true, z, ()))) (aqP d in0)
end
theorem aA8 {x : ElT} (h : abM x) : 1 ≤ aiG x ∧ aiG x ≤ 4 := by
 rcases h with ⟨e, -, -, -, h1, -⟩ | ⟨e, -, -, -, h1, -⟩ | ⟨e, -, -, -, h1⟩ | ⟨e, -, -, -, h1⟩
 ·unfold aiG; rw [if_pos e]; omega
 ·unfold aiG; rw [if_neg zc, if_pos e]; omega
 ·unfold aiG; rw [if_neg zc, if_neg zc, if_pos e]; exact h1.2.1
 ·unfold aiG; rw [if_neg zc, if_neg zc, if_neg zc]
  unfold aeB at h1
  split at h1
  ·rename_i c; exact c.2.1
  ·cases h1
theorem axW {x : ElT} (h : abM x) : shE x := by
 have z : ∀ {α : Type} {l : List α} {n : Nat}, l.length ≤ n → n ≤ 1000000000000 → shL l := fun h1 h2 => zF h1 h2
 rcases h with ⟨-, ⟨a, b⟩, ⟨c, -, d⟩, ⟨e, -, -⟩, ⟨-, h4⟩, h1⟩ | ⟨-, a, ⟨c, -, d⟩, ⟨e, -, -⟩, ⟨-, h4⟩, h2, ⟨-, h3⟩, h5, -⟩ | ⟨-, a, ⟨b, c⟩, ⟨e, -, -⟩, ⟨-, h4⟩, -, -, h5, -⟩ | ⟨-, a, ⟨b, c⟩, ⟨d, -, f⟩, h1⟩
 ·exact ⟨⟨z h4 zc, fun c hc => aFb (h1 c hc)⟩, by rw [a]; exact ⟨z (zm 0) zc, fun _ h => by cases h⟩, by rw [b]; exact z (zm 0) zc, ⟨by rw [c]; exact z (zm 0) zc, by rw [d]; exact z (zm 0) zc⟩, by rw [e]; exact z (zm 0) zc⟩
 ·exact ⟨by rw [a]; exact ⟨z (zm 0) zc, fun _ h => by cases h⟩, ⟨z h4 zc, fun r hr => z (n := 4) (by have := (h5 r hr).1; omega) zc⟩, z (n := 4) zc zc, ⟨by rw [c]; exact z (zm 0) zc, by rw [d]; exact z (zm 0) zc⟩, by rw [e]; exact z (zm 0) zc⟩
 ·exact ⟨by rw [a]; exact ⟨z (zm 0) zc, fun _ h => by cases h⟩, by rw [b]; exact ⟨z (zm 0) zc, fun _ h => by cases h⟩, by rw [c]; exact z (zm 0) zc, ⟨z h4 zc, z h5 zc⟩, by rw [e]; exact z (zm 0) zc⟩
 ·refine ⟨by rw [a]; exact ⟨z (zm 0) zc, fun _ h => by cases h⟩, by rw [b]; exact ⟨z (zm 0) zc, fun _ h => by cases h⟩, by rw [c]; exact z (zm 0) zc, ⟨by rw [d]; exact z (zm 0) zc, by rw [f]; exact z (zm 0) zc⟩, ?_⟩
  unfold aeB at h1
  split at h1
  ·rename_i c; exact z c.2.2 zc
  ·cases h1
theorem aEQ {d : DeT} (h : wfE d) {k : Int} (hk : 0 ≤ k ∧ k ≤ 255) : wfE (reD k d) := by
 obtain ⟨-, ho, hc, hr, hof, hg, hp⟩ := h
 have r4 : ∀ l : List Int, i16L l → i16L (r4D l) := fun l hl => all_cons hl.hd (all_cons hl.tl.hd (all_cons hl.tl.tl.hd (all_cons hl.tl.tl.tl.hd (aoM _))))
 exact ⟨hk, ho, all_cons hc.hd (all_cons hc.tl.hd (all_cons hc.tl.tl.hd (all_cons hc.tl.tl.tl.hd (aoM _)))),
  all_cons (r4 _ hr.hd) (all_cons (r4 _ hr.tl.hd) (all_cons (r4 _ hr.tl.tl.hd) (all_cons (r4 _ hr.tl.tl.tl.hd) (aoM _)))), r4 _ hof, hg, hp⟩
def wfC (d : DcT) : Prop := (0 ≤ d.1 ∧ d.1 ≤ 255) ∧ shM d.2.1 ∧ ∀ p ∈ d.2.1, wfE p
def goodCh (n : Int) (c : ChT) : Prop := c.1 = n ∧ c.2.1.length ≤ 3 ∧ (∀ x ∈ c.2.1, shE x) ∧ ∃ m, adH n c.2.1 = some m ∧ 1 ≤ m ∧ m ≤ 4
theorem aqO (d : DcT) (hd : wfC d) (ins : Int) (hi : 1 ≤ ins ∧ ins ≤ 4) : WP (ahM d ins) fun y => goodCh ins y.1 := by
 obtain ⟨d1, ps, tm, u⟩ := d
 obtain ⟨-, hl, hp⟩ := hd
 dsimp only at hl hp
 have hl' : ps.length ≤ 140737488355328 := hl
 unfold ahM
 refine ac7 (fun i : Int × Int × Bool × List ElT × Unit => ∃ k : Nat, i.1 = (k : Int) ∧ k ≤ 3 ∧ k ≤ ps.length ∧ i.2.2.2.1.length = k ∧ adH ins i.2.2.2.1 = some i.2.1 ∧ (1 ≤ i.2.1 ∧ i.2.1 ≤ 4) ∧ (∀ x ∈ i.2.2.2.1, shE x) ∧ (i.2.2.1 = true → i.2.2.2.1 = [])) (fun i => (3 - i.1).toNat)
  (aaA (aaP (aaA (aaA (aaN ⟨0, rfl, by omega, zA _, rfl, rfl, hi, fun x h => (by cases h), fun _ => rfl⟩))))) ?_
 intro i hI
 obtain ⟨i, n, f, l, v⟩ := i
 obtain ⟨k, e, hk3, hkl, hll, ho, hn, hs, hf⟩ := hI
 dsimp only at e hll ho hn hs hf
 subst e
 have ewk : w64 ((k : Int) + 1) = ((k + 1 : Nat) : Int) := (aaD ⟨by omega, by omega⟩).trans zc
 have hel : ∀ kk : Int, 0 ≤ kk ∧ kk ≤ 255 → k < ps.length → ∃ x, aa4 (reD kk (gD ps (k : Int)), n, ()) = some (x, ()) ∧ shE x ∧ acT (rE x, ()) = some (aiG x, 0, ()) ∧ 1 ≤ aiG x ∧ aiG x ≤ 4 ∧ adH ins (l ++ [x]) = some (aiG x) := by
  intro kk hkk h
  have hw := hp _ (aa9 h d0D)
  obtain ⟨⟨x, w⟩, ex, r1, r2⟩ := ak1 (reD kk (gD ps (k : Int))) (aEQ (by show wfE (gi ps (k : Int) d0D); rw [aaJ]; exact hw) hkk) n hn
  have ex : aa4 (reD kk (gD ps (k : Int)), n, ()) = some (x, ()) := ex
  dsimp only at r1 r2
  have hsx := axW r1
  refine ⟨x, ex, hsx, ?_, (aA8 r1).1, (aA8 r1).2, ?_⟩
  ·have := aKG hsx; rw [if_pos r1] at this; exact this
  ·rw [amH, ho]
   show adH n [x] = _
   simp only [adH]
   rw [if_pos ⟨r1, r2⟩]
 have hk0 : k < ps.length → 0 ≤ (gD ps (k : Int)).1 ∧ (gD ps (k : Int)).1 ≤ 255 := by
  intro h
  have hw := hp _ (aa9 h d0D)
  show 0 ≤ (gi ps (k : Int) d0D).1 ∧ (gi ps (k : Int) d0D).1 ≤ 255
  rw [aaJ]; exact hw.1
 have hwu : ∀ a : Int, 0 ≤ wu8 a ∧ wu8 a ≤ 255 := fun a => by
  have e : wu8 a = a % 256 := rfl
  rw [e]; omega
 have etk : List.take (List.length l) l = l := zB
 unfold aqP
 cases f with
 | true =>
  have el := hf rfl
  subst el
  have hll : 0 = k := hll
  refine aaI (fun _ => ?_) (fun h => by cases h)
  refine aaI (fun a => ?_) (fun a => ?_)
  ·have a' : (k : Int) < len ps := of_decide_eq_true a
   rw [aaB] at a'
   have hkl' : k < ps.length := zc
   refine aaI (fun b => ?_) (fun b => ?_)
   ·have b' : (k : Int) < 3 := of_decide_eq_true b
    refine aaF ⟨by dsimp only; omega, by rw [aaB]; dsimp only; omega⟩ (aaI (fun c => ?_) (fun c => ?_))
    ·refine aaA ?_
     obtain ⟨x, ex, hx, ey, o1, o2, eo⟩ := hel _ (hwu _) hkl'
     refine aaM _ ex (aaF zc (aaM _ ey (aaA (aaP (aaP (aaA (aaA (aaN ⟨⟨k + 1, ewk, by omega, by omega, ?_, ?_, ⟨o1, o2⟩, ?_, fun h => by cases h⟩, ?_⟩))))))))
     ·show 1 = k + 1; omega
     ·exact eo
     ·exact all_cons hx (aoM _)
     ·show (3 - w64 ((k : Int) + 1)).toNat < (3 - (k : Int)).toNat
      rw [ewk]; omega
    ·have := hkl'
     obtain ⟨x, ex, hx, ey, o1, o2, eo⟩ := hel _ (hk0 hkl') hkl'
     refine aaM _ ex (aaF zc (aaM _ ey (aaA (aaP (aaP (aaA (aaA (aaN ⟨⟨k + 1, ewk, by omega, by omega, ?_, ?_, ⟨o1, o2⟩, ?_, fun h => by cases h⟩, ?_⟩))))))))
     ·show 1 = k + 1; omega
     ·exact eo
     ·exact all_cons hx (aoM _)
     ·show (3 - w64 ((k : Int) + 1)).toNat < (3 - (k : Int)).toNat
      rw [ewk]; omega
   ·exact aaN ⟨rfl, by simp, fun x h => (by cases h), n, ho, hn⟩
  ·exact aaN ⟨rfl, by simp, fun x h => (by cases h), n, ho, hn⟩
 | false =>
  refine aaI (fun h => by cases h) (fun _ => ?_)
  have hfin : goodCh ins (ins, List.take (List.length l) l, ()) := by
   rw [etk]; exact ⟨rfl, by dsimp only; omega, hs, n, ho, hn⟩
  refine aaI (fun a => ?_) (fun a => ?_)
  ·have a' : (k : Int) < len ps := of_decide_eq_true a
   rw [aaB] at a'
   have hkl' : k < ps.length := zc
   refine aaI (fun b => ?_) (fun b => ?_)
   ·have b' : (k : Int) < 3 := of_decide_eq_true b
    refine aaF ⟨by dsimp only; omega, by rw [aaB]; dsimp only; omega⟩ (aaI (fun c => ?_) (fun c => ?_))
    ·refine aaA ?_
     obtain ⟨x, ex, hx, ey, o1, o2, eo⟩ := hel _ (hwu _) hkl'
     refine aaM _ ex (aaF (by show (l.length + 1) * 176 ≤ 140737488355328; omega) (aaM _ ey (aaA (aaP (aaP (aaA (aaF ze (aaN ⟨⟨k + 1, ewk, by omega, by omega, ?_, ?_, ⟨o1, o2⟩, ?_, fun h => by cases h⟩, ?_⟩))))))))
     ·show (List.take l.length l ++ [x]).length = k + 1
      rw [etk, zq]; simp; omega
     ·show adH ins (List.take l.length l ++ [x]) = _
      rw [etk]; exact eo
     ·show ∀ y ∈ List.take l.length l ++ [x], shE y
      rw [etk]
      intro y hy
      rcases zw.1 hy with h | h
      ·exact hs y h
      ·rw [zG.1 h]; exact hx
     ·show (3 - w64 ((k : Int) + 1)).toNat < (3 - (k : Int)).toNat
      rw [ewk]; omega
    ·have := hkl'
     obtain ⟨x, ex, hx, ey, o1, o2, eo⟩ := hel _ (hk0 hkl') hkl'
     refine aaM _ ex (aaF (by show (l.length + 1) * 176 ≤ 140737488355328; omega) (aaM _ ey (aaA (aaP (aaP (aaA (aaF ze (aaN ⟨⟨k + 1, ewk, by omega, by omega, ?_, ?_, ⟨o1, o2⟩, ?_, fun h => by cases h⟩, ?_⟩))))))))
     ·show (List.take l.length l ++ [x]).length = k + 1
      rw [etk, zq]; simp; omega
     ·show adH ins (List.take l.length l ++ [x]) = _
      rw [etk]; exact eo
     ·show ∀ y ∈ List.take l.length l ++ [x], shE y
      rw [etk]
      intro y hy
      rcases zw.1 hy with h | h
      ·exact hs y h
      ·rw [zG.1 h]; exact hx
     ·show (3 - w64 ((k : Int) + 1)).toNat < (3 - (k : Int)).toNat
      rw [ewk]; omega
   ·exact aaN hfin
  ·exact aaN hfin
noncomputable def afV (x : DcT × Int × Unit) : Option (ChT × Unit) := (ahM x.1 x.2.1).toO
set_option maxRecDepth 100000
open Go Go.Vg Go.Proofs
noncomputable section
def aAU : LTab := []
def aiA (d : DcT) : TT (ChT × Unit) :=
 .triv (asT Int 3 ≠ 0) zd <| .call (afV ((d.1, d.2.1, d.2.2.1, ()), w64 (1 + w64 (Int.tmod d.1 3)), ())) aLM fun y =>
 .ok (((y.1.1, y.1.2.1, ()), ()))
end
noncomputable def aeU (x : DcT × Unit) : Option (ChT × Unit) := (aiA x.1).toO
theorem aoU (d : DcT) (hd : wfC d) : WP (aiA d) fun y => ∃ n, 1 ≤ n ∧ n ≤ 4 ∧ goodCh n y.1 := by
 have h3 := aEV hd.1.1 hd.1.2
 obtain ⟨⟨c, u⟩, ec, gc⟩ := aqO d hd (1 + Int.tmod d.1 3) ⟨by omega, by omega⟩
 have ec : afV ((d.1, d.2.1, d.2.2.1, ()), w64 (1 + w64 (Int.tmod d.1 3)), ()) = some (c, ()) := by rw [h3.1]; exact ec
 exact aaA (aaM _ ec (aaN ⟨_, by omega, by omega, gc⟩))
theorem aFt : ∀ {l : List ElT} {n k : Int}, (1 ≤ n ∧ n ≤ 4) → adH n l = some k → 1 ≤ k ∧ k ≤ 4
 | [], _, _, hn, h => by cases h; exact hn
 | x :: l, n, k, _, h => by
  simp only [adH] at h
  split at h
  ·rename_i c; exact aFt (aA8 c.1) h
  ·cases h
theorem aA1 (d : PgT) (y) (h : ae8 (d, ()) = some y) : (ayH d).toO = some y := h
theorem ayG (d : PgT) (y) (h : aaV (d, ()) = some y) : (auD d).toO = some y := h
theorem aqT (d : PgT) (y) (h : aaZ (d, ()) = some y) : (ad3 d).toO = some y := h
theorem awA (a : List Int) (b : Int) (y) (h : aeY (a, b, ()) = some y) : (af4 a b).toO = some y := h
theorem ayJ (d : GdT) (a : List Int) (b : Int) (y) (h : adV (d, a, b, ()) = some y) : (ahQ d a b).toO = some y := h
theorem ayM (d : GdT) (a : List Int) (b : Int) (y) (h : aaG (d, a, b, ()) = some y) : (ahR d a b).toO = some y := h
theorem aqS (d : DeT) (b : Int) (y) (h : aa4 (d, b, ()) = some y) : (ad2 d b).toO = some y := h
theorem ax4 (d : DcT) (b : Int) (y) (h : afV (d, b, ()) = some y) : (ahM d b).toO = some y := h
theorem av1 (d : DcT) (y) (h : aeU (d, ()) = some y) : (aiA d).toO = some y := h
abbrev aOg : Ty := .pair (.int .u8) (.pair (.sl (.int .u16)) (.pair (.sl (.pair (.int .u8) (.pair (.int .i16) (.pair (.int .i16) (.pair (.int .i16) (.pair (.int .u8) (.pair (.int .u8) .unit))))))) (.pair .bool (.pair .bool .unit))))
abbrev aOi : Ty := .pair (.sl (.int .u8)) (.pair (.int .u8) (.pair (.sl (.int .u16)) (.pair .bool .unit)))
abbrev aOh : Ty := .pair (.int .u8) (.pair (.int .u8) (.pair (.sl (.pair (.int .u8) (.pair (.int .i16) .unit))) .unit))
abbrev aNe : Ty := .pair (.int .u8) (.pair (.int .u8) (.pair (.arr 4 aOg) (.pair (.arr 4 (.arr 4 (.int .i16))) (.pair (.arr 4 (.int .i16)) (.pair aOi (.pair aOh .unit))))))
abbrev aNf : Ty := .pair (.int .u8) (.pair (.sl aNe) (.pair .bool .unit))
theorem aLN {x : DeT} (h : Wf aNe x) : wfE x := by
 obtain ⟨h1, h2, ⟨-, h3⟩, ⟨-, h4⟩, ⟨-, h5⟩, ⟨⟨g0, g1⟩, g2, ⟨g3, g4⟩, -⟩, ⟨p1, p2, ⟨p3, p4⟩, -⟩, -⟩ := h
 refine ⟨h1, h2, fun c hc => ?_, fun r hr => fun v hv => (h4 r hr).2 v hv, fun v hv => h5 v hv, ⟨⟨g0, g2, g3, fun v hv => g4 v hv⟩, fun v hv => g1 v hv⟩, p1, p2, p3, fun s hs => ⟨(p4 s hs).1, (p4 s hs).2.1⟩⟩
 obtain ⟨c1, ⟨-, c2⟩, ⟨-, c3⟩, -⟩ := h3 c hc
 refine ⟨ao4 c1, fun v hv => ao4 (c2 v hv), fun s hs => ?_⟩
 obtain ⟨a1, a2, a3, a4, a5, a6, -⟩ := c3 s hs
 exact ⟨ao4 a1, ao4 a2, ao4 a3, ao4 a4, ao4 a5, ao4 a6⟩
theorem aLO {x : DcT} (h : Wf aNf x) : wfC x := ⟨h.1, h.2.1.1, fun p hp => aLN (h.2.1.2 p hp)⟩
set_option maxRecDepth 100000
open Go Go.Vg Go.Proofs
noncomputable section
def aDp : LTab := [(25, 122, 21504, ⟨0, (Int) × (Int) × Unit, .dat (.s 5) xX <| .dat (.s 4) xX <| .nil, [1], [0], 0⟩)]
def alG (c : ChT) (i : (Int) × (Int) × Unit) : TT (wK ⊕ wE) :=
 .ite (decide (i.1 < len c.2.1))
 (.need (inb i.1 (len c.2.1)) <| .call (aj6 (gE c.2.1 i.1, ())) Dz0 fun y =>
 .ite (y.2.1 != 0)
 (.ok (.inr ((0, false, ()))))
 (.ite (y.1 != i.2.1)
 (.ok (.inr ((0, false, ()))))
 (.need (inb i.1 (len c.2.1)) <| .call (acT (gE c.2.1 i.1, ())) Dz0 fun y1 =>
 .tt <| .lt (w64 (i.1 + 1) : Int) fun z1 => .xD (xQ y1.1 z1 <| wc ∧ True) <| .xD (xC (xH 47 c.1 c.2.1) True) <| .ok (.inl ((z1, y1.1, ()))))))
 (.ok (.inr ((i.2.1, true, ()))))
def anI (c : ChT) : TT wE :=
 .ite (decide (c.1 < 1))
 (.ok ((0, false, ())))
 (.ite (decide (c.1 > 4))
 (.ok ((0, false, ())))
 (.ite (decide (len c.2.1 > 8))
 (.ok ((0, false, ())))
 (.loop 0 (.tt <| .lt (c.1 : Int) fun z => .xD (xQ z (0 : Int) <| wc ∧ True) <| .xD (xC (xH 47 z c.2.1) True) <| .ok ((0, z, ()))) (alG c))))
def aAS : LTab := []
def aqQ (c : ChT) : TT wk :=
 .call (aeQ ((c.1, c.2.1, ()), ())) Dz1 fun y =>
 .ok ((y.2.1, ()))
def aDs : LTab := []
def auB (c : ChT) : TT xY :=
 .call (aeQ ((c.1, c.2.1, ()), ())) Dz1 fun y =>
 .ite (!y.2.1)
 (.ok ((0, 140, ())))
 (.ok ((y.1, 0, ())))
def aDr : LTab := [(11, 58, 18432, ⟨0, (Int) × Unit, .dat (.s 5) xX <| .nil, [3, 2], [1, 0], 0⟩)]
def alH (a : ChT) (b : ChT) (i : (Int) × Unit) : TT wi :=
 .ite (decide (i.1 < len a.2.1))
 (.need (inb i.1 (len a.2.1)) <| .need (inb i.1 (len b.2.1)) <| .call (ah1 (gE a.2.1 i.1, gE b.2.1 i.1, ())) Dz2 fun y =>
 .ite (!y.1)
 (.ok (.inr ((false, ()))))
 (.tt <| .lt (w64 (i.1 + 1) : Int) fun z => .xD (xL z <| wb ∧ wc ∧ True) <| .xD (xC (xH 47 b.1 b.2.1) <| xC (xH 47 a.1 a.2.1) True) <| .ok (.inl ((z, ())))))
 (.ok (.inr ((true, ()))))
def anJ (a : ChT) (b : ChT) : TT wk :=
 .ite (a.1 != b.1)
 (.ok ((false, ())))
 (.ite (len a.2.1 != len b.2.1)
 (.ok ((false, ())))
 (.loop 0 (.tt <| .xD wC <| .xD (xC (xH 47 b.1 b.2.1) <| xC (xH 47 a.1 a.2.1) True) <| .ok ((0, ()))) (alH a b)))
def aDt : LTab := [(10, 126, 777777777, uS)]
def auC (a : ChT) (b : ChT) : TT (ChT × Int × Unit) :=
 .call (aeT ((a.1, a.2.1, ()), ())) Dz0 fun y =>
 .ite (y.2.1 != 0)
 (.ok (((0, [], ()), 140, ())))
 (.call (aeS ((b.1, b.2.1, ()), ())) Dz2 fun y1 =>
 .ite (!y1.1)
 (.ok (((0, [], ()), 140, ())))
 (.ite (y.1 != b.1)
 (.ok (((0, [], ()), 5, ())))
 (.ite (decide (w64 (len a.2.1 + len b.2.1) > 8))
 (.ok (((0, [], ()), 3, ())))
 (.triv (acU (AV.d xX (asT Int a.1)) (AV.d xX (asT Int a.1))) rfl <| .triv (acU (AV.d (Ty.sl tyE) (asT (List ElT) a.2.1)) (AV.d (Ty.sl tyE) (asT (List ElT) a.2.1))) rfl <| .triv (acU (AV.d (Ty.sl tyE) (asT (List ElT) b.2.1)) (AV.d (Ty.sl tyE) (asT (List ElT) b.2.1))) rfl <| .triv (acU (AV.d xX (asT Int a.1)) (AV.d xX (asT Int a.1))) rfl <| .triv (acU (AV.d (Ty.sl tyE) (asT (List ElT) a.2.1)) (AV.d (Ty.sl tyE) (asT (List ElT) a.2.1))) rfl <| .triv (acU (AV.d (Ty.sl tyE) (asT (List ElT) b.2.1)) (AV.d (Ty.sl tyE) (asT (List ElT) b.2.1))) rfl <| .need ((0 + List.length a.2.1) * 176 ≤ 140737488355328) <| .ite (List.isEmpty a.2.1)
 (.triv (acU (AV.d xX (asT Int a.1)) (AV.d xX (asT Int a.1))) rfl <| .triv (acU (AV.d (Ty.sl tyE) (asT (List ElT) b.2.1)) (AV.d (Ty.sl tyE) (asT (List ElT) b.2.1))) rfl <| .need ((0 + List.length b.2.1) * 176 ≤ 140737488355328) <| .ite (List.isEmpty b.2.1)
 (.triv (acU (AV.d xX (asT Int a.1)) (AV.d xX (asT Int a.1))) rfl <| .ok (((a.1, List.take 0 [], ()), 0, ())))
 (.triv (acU (AV.d xX (asT Int a.1)) (AV.d xX (asT Int a.1))) rfl <| .ok (((a.1, List.take (0 + List.length b.2.1) (List.take 0 [] ++ b.2.1), ()), 0, ()))))
 (.triv (acU (AV.d xX (asT Int a.1)) (AV.d xX (asT Int a.1))) rfl <| .triv (acU (AV.d (Ty.sl tyE) (asT (List ElT) b.2.1)) (AV.d (Ty.sl tyE) (asT (List ElT) b.2.1))) rfl <| .need ((0 + List.length a.2.1 + List.length b.2.1) * 176 ≤ 140737488355328) <| .triv (acU (AV.d xX (asT Int a.1)) (AV.d xX (asT Int a.1))) rfl <| .ok (((a.1, List.take (0 + List.length a.2.1 + List.length b.2.1) (List.take (0 + List.length a.2.1) (List.take 0 [] ++ a.2.1) ++ b.2.1), ()), 0, ())))))))
def aFj : LTab := []
def ax8 (c : ChT) (from0 : Int) (to0 : Int) : TT (ChT × Int × Unit) :=
 .call (aeS ((c.1, c.2.1, ()), ())) Dz2 fun y =>
 .ite (!y.1)
 (.ok (((0, [], ()), 140, ())))
 (.ite (decide (from0 < 0))
 (.ok (((0, [], ()), 2, ())))
 (.ite (decide (from0 > to0))
 (.ok (((0, [], ()), 2, ())))
 (.ite (decide (to0 > len c.2.1))
 (.ok (((0, [], ()), 2, ())))
 (.need (inc from0 (len c.2.1)) <| .call (aeQ ((c.1, List.take (Int.toNat from0) c.2.1, ()), ())) Dz1 fun y1 =>
 .need (inc to0 (len c.2.1)) <| .need (inc from0 (↑(Int.toNat to0) : Int)) <| .need ((0 + List.length (win c.2.1 from0 to0)) * 176 ≤ 140737488355328) <| .ite (List.isEmpty (win c.2.1 from0 to0))
 (.ok (((y1.1, List.take 0 [], ()), 0, ())))
 (.ok (((y1.1, List.take (0 + List.length (win c.2.1 from0 to0)) (List.take 0 [] ++ win c.2.1 from0 to0), ()), 0, ())))))))
end
theorem aNT {x : ElT} (h : shE x) : aj6 (x, ()) = some (if abM x then (aEb x, 0, ()) else (0, 130, ())) := if_pos h
theorem aMT {x : ElT} (h : shE x) : acT (x, ()) = some (if abM x then (aiG x, 0, ()) else (0, 130, ())) := if_pos h
theorem aKH {x y : ElT} (h : shE x) : ah1 (x, y, ()) = some (eqb x y, ()) := if_pos h
def aEZ (l : List ElT) (i : Int × Int × Unit) : Int × Bool × Unit := match adH i.2.1 (l.drop i.1.toNat) with | some n => (n, true, ()) | none => (0, false, ())
theorem ax3 (c : ChT) (y) (h : aeQ (c, ()) = some y) : (anI c).toO = some y := by
 unfold aeQ afA at h
 split at h
 case isFalse => cases h
 case isTrue hl =>
 obtain ⟨n, xs, u⟩ := c
 obtain ⟨hs, he⟩ := hl
 injection h with h
 subst h
 dsimp only at hs he ⊢
 unfold anI
 by_cases c1 : n < 1
 ·refine uT (zl c1) ?_
  rw [show acF (n, xs, u) = none from if_neg (fun h => by have := h.1.1; dsimp only at this; omega)]; rfl
 refine uF (zk c1) ?_
 by_cases c2 : n > 4
 ·refine uT (zl c2) ?_
  rw [show acF (n, xs, u) = none from if_neg (fun h => by have := h.1.2; dsimp only at this; omega)]; rfl
 refine uF (zk c2) ?_
 by_cases c3 : xs.length > 8
 ·refine uT (zl (by rw [aaB]; dsimp only; omega)) ?_
  rw [show acF (n, xs, u) = none from if_neg (fun h => by have := h.2; dsimp only at this; omega)]; rfl
 refine uF (zk (by rw [aaB]; dsimp only; omega)) (uO (0, n, ()) rfl ?_)
 rw [show acF (n, xs, u) = adH n xs from if_pos ⟨⟨by omega, by omega⟩, by dsimp only; omega⟩]
 refine abE (fun i : Int × Int × Unit => ∃ k : Nat, k ≤ xs.length ∧ i.1 = (k : Int)) (fun i => xs.length - i.1.toNat) (aEZ xs) (fun i hi => ?_) _ ⟨0, zA _, rfl⟩
 obtain ⟨k, hk, e1⟩ := hi
 obtain ⟨i, b, u⟩ := i
 dsimp only at e1
 subst e1
 by_cases c : k < xs.length
 ·have hx := he _ (aa9 c e0)
  have hd := aLi c e0
  have eI := aNT hx
  have eO := aMT hx
  simp only [alG, aCM, aEZ, zt, hd, adH]
  by_cases r : abM (xs.getD k e0)
  ·rw [if_pos r] at eI eO
   by_cases q : aEb (xs.getD k e0) = b
   ·refine Or.inl ⟨((k + 1 : Nat), aiG (xs.getD k e0), ()), ?_, ⟨k + 1, c, rfl⟩, by dsimp only; omega, ?_⟩
    ·refine uT (zl (by rw [aaB]; omega)) (uN sd (uC _ eI (uF rfl (uF (by dsimp only; rw [q]; simp) (uN sd (uC _ eO ?_))))))
     show some _ = some _
     rw [show w64 ((k : Int) + 1) = ((k + 1 : Nat) : Int) from (aaD ⟨by omega, by omega⟩).trans zc]
    ·rw [if_pos ⟨r, q⟩]; simp only [zt]
   ·refine Or.inr ?_
    rw [if_neg (fun h => q h.2)]
    exact uT (zl (by rw [aaB]; omega)) (uN sd (uC _ eI (uF rfl (uT (by dsimp only; simpa using q) rfl))))
  ·rw [if_neg r] at eI eO
   refine Or.inr ?_
   rw [if_neg (fun h => r h.1)]
   exact uT (zl (by rw [aaB]; omega)) (uN sd (uC _ eI (uT rfl rfl)))
 ·refine Or.inr ?_
  simp only [alG, aEZ, zt, yz (show xs.length ≤ k by omega), adH]
  exact uF (zk (by rw [aaB]; omega)) rfl
theorem aHJ {c : ChT} (h : as8 c) : aeQ (c, ()) = some (match acF c with | some n => (n, true, ()) | none => (0, false, ())) := if_pos h
theorem aHK {c : ChT} (h : as8 c) : aeS (c, ()) = some ((acF c).isSome, ()) := if_pos h
theorem aHL {c : ChT} (h : as8 c) : aeT (c, ()) = some (match acF c with | some n => (n, 0, ()) | none => (0, 140, ())) := if_pos h
theorem av0 (c : ChT) (y) (h : aeS (c, ()) = some y) : (aqQ c).toO = some y := by
 unfold aeS at h
 split at h
 case isFalse => cases h
 case isTrue hl =>
 injection h with h
 subst h
 refine uC _ (aHJ (c := c) hl) ?_
 cases acF c <;> rfl
theorem ax6 (c : ChT) (y) (h : aeT (c, ()) = some y) : (auB c).toO = some y := by
 unfold aeT afB at h
 split at h
 case isFalse => cases h
 case isTrue hl =>
 injection h with h
 subst h
 refine uC _ (aHJ (c := c) hl) ?_
 cases acF c <;> rfl
theorem ax5 (a b : ChT) (y) (h : aeR (a, b, ()) = some y) : (anJ a b).toO = some y := by
 unfold aeR aAp at h
 split at h
 case isFalse => cases h
 case isTrue hl =>
 obtain ⟨n, xs, u⟩ := a
 obtain ⟨m, ys, u'⟩ := b
 obtain ⟨hs, he⟩ := hl
 injection h with h
 subst h
 dsimp only at hs he ⊢
 have hs' : xs.length ≤ 1000000000000 := hs
 unfold anJ
 by_cases c1 : n = m
 ·subst c1
  refine uF ze ?_
  by_cases c2 : xs.length = ys.length
  ·refine uF (by rw [aaB, aaB, c2]; simp) (uO (0, ()) rfl ?_)
   refine (abK (n := xs.length) (bad := (false, ())) (good := (true, ())) (fun k => eqb (xs.getD k e0) (ys.getD k e0)) (fun k hk hp => ?_) (fun k hk hp => ?_) ?_).trans ?_
   ·simp only [alH, aCM]
    refine uT sd (uN sd (uN sd (uC _ (aKH (he _ (aa9 hk e0))) (uF (by dsimp only; rw [hp]; rfl) ?_))))
    show some _ = some _
    rw [apJ hk hs']
   ·simp only [alH, aCM]
    exact uT sd (uN sd (uN sd (uC _ (aKH (he _ (aa9 hk e0))) (uT (by dsimp only; rw [hp]; rfl) rfl))))
   ·exact uF sd rfl
   ·rw [ajX e0 c2]
    rw [show eqb (n, xs, u) (n, ys, u') = eqb xs ys from aBC ⟨fun h => by rw [eqb_iff.1 h], fun h => eqb_iff.2 (Prod.mk.inj (Prod.mk.inj h).2).1⟩]
    cases eqb xs ys <;> rfl
  ·refine uT (by rw [aaB, aaB]; simp; omega) ?_
   rw [aaQ (fun h => c2 (by rw [(Prod.mk.inj (Prod.mk.inj h).2).1]))]; rfl
 ·refine uT (by simpa using c1) ?_
  rw [aaQ (fun h => c1 (Prod.mk.inj h).1)]; rfl
theorem ax7 (a b : ChT) (y) (h : ahY (a, b, ()) = some y) : (auC a b).toO = some y := by
 unfold ahY agN at h
 split at h
 case isFalse => cases h
 case isTrue hl =>
 obtain ⟨ha, hb⟩ := hl
 dsimp only at ha hb
 injection h with h
 subst h
 refine uC _ (aHL (c := a) ha) ?_
 cases ea : acF a with
 | none => exact uT rfl rfl
 | some n =>
  refine uF rfl (uC _ (aHK (c := b) hb) ?_)
  cases eb : acF b with
  | none => exact uT rfl rfl
  | some m =>
   have la := (af8 ea).1
   have lb := (af8 eb).1
   refine uF rfl ?_
   by_cases e : b.1 = n
   ·refine uF (by dsimp only; rw [e]; simp) ?_
    have ew : w64 (len a.2.1 + len b.2.1) = (a.2.1.length : Int) + b.2.1.length := by
     rw [aaB, aaB]; exact aaD ⟨by omega, by omega⟩
    dsimp only
    rw [if_pos e]
    by_cases g : a.2.1.length + b.2.1.length > 8
    ·rw [if_pos g]
     exact uT (zl (by rw [ew]; omega)) rfl
    ·rw [if_neg g]
     refine uF (zk (by rw [ew]; omega)) ?_
     repeat (refine uV ?_)
     refine uN zc ?_
     cases ex : a.2.1 with
     | nil =>
      refine uT rfl ?_
      repeat (refine uV ?_)
      refine uN zc ?_
      cases ey : b.2.1 with
      | nil => exact uT rfl rfl
      | cons z l =>
       refine uF rfl (uV ?_)
       show some _ = some _
       simp
     | cons z l =>
      rw [← ex]
      refine uF (by rw [ex]; rfl) ?_
      repeat (refine uV ?_)
      refine uN zc (uV ?_)
      show some _ = some _
      simp
      exact zx (by rw [zq]; omega)
   ·dsimp only
    rw [if_neg e]
    exact uT (by simpa using fun h => e h.symm) rfl
theorem aAT (c : ChT) (a b : Int) (y) (h : ahZ (c, a, b, ()) = some y) : (ax8 c a b).toO = some y := by
 unfold ahZ ag8 at h
 split at h
 case isFalse => cases h
 case isTrue hs =>
 injection h with h
 subst h
 dsimp only at hs ⊢
 refine uC _ (aHK (c := c) hs) ?_
 cases ec : acF c with
 | none => exact uT rfl rfl
 | some m =>
  obtain ⟨l8, hr, hm⟩ := af8 ec
  refine uF rfl ?_
  by_cases c1 : a < 0
  ·rw [if_neg (fun h => by omega)]; exact uT (zl c1) rfl
  refine uF (zk c1) ?_
  by_cases c2 : a > b
  ·rw [if_neg (fun h => by omega)]; exact uT (zl c2) rfl
  refine uF (zk c2) ?_
  by_cases c3 : b > len c.2.1
  ·rw [if_neg (fun h => by rw [aaB] at c3; omega)]; exact uT (zl c3) rfl
  refine uF (zk c3) ?_
  rw [aaB] at c3
  rw [if_pos ⟨by omega, by omega, by omega⟩]
  obtain ⟨q, hq⟩ : ∃ q, adH c.1 (c.2.1.take a.toNat) = some q := by
   have h := hm
   rw [← yO a.toNat c.2.1, amH] at h
   cases hx : adH c.1 (c.2.1.take a.toNat) with
   | none => rw [hx] at h; cases h
   | some q => exact ⟨q, rfl⟩
  have hsh : as8 (c.1, c.2.1.take a.toNat, ()) := ⟨zF (List.length_take_le _ _) (show a.toNat ≤ 1000000000000 by omega), fun x hx => hs.2 x (zZ hx)⟩
  have ho : acF (c.1, c.2.1.take a.toNat, ()) = some q := by
   unfold acF
   rw [if_pos ⟨hr, by dsimp only; rw [zK]; omega⟩]; exact hq
  have h1 := aHJ hsh
  rw [ho] at h1
  rw [hq]
  have hwl : (win c.2.1 a b).length ≤ 8 := by unfold win; rw [zK, zS]; omega
  refine uN sd (uC _ h1 (uN sd (uN sd (uN zc ?_))))
  cases ew : win c.2.1 a b with
  | nil => exact uT rfl rfl
  | cons z l =>
   rw [← ew]
   refine uF (by rw [ew]; rfl) ?_
   show some _ = some _
   simp
end Go.Vs
