/-
  Contracts of the functions, out of their trees. Own work; no condition.
-/
import Derived.Test.YtffkcjooibmgfaaGreatDoorClL5
import Derived.KernelRfl
set_option linter.unusedVariables false
set_option linter.unusedSimpArgs false
set_option maxRecDepth 1000000
namespace Go.Vs
open Go Go.Vg Go.Proofs
noncomputable section
def aEm : OkC := ⟨4, _, aB7⟩
def apH := okT 122 tB (P1 .bool) aa5 ay8 [] Tryz.func122 (fun x => akH x.1 x.2.1) fun _ y _ h => at3 _ _ y h
def auI := okT 77 (P1 (.pair (.int .u8) (P4 (.sl (.int .u16)) (.sl (.pair (.int .u8) (.pair (.int .i16) (P4 (.int .i16) (.int .i16) (.int .u8) (.int .u8))))) .bool .bool))) (P1 tC) ad2 at2 [apH] Tryz.func77 (fun x => afB x.1) fun _ y _ h => aoZ _ y h
def azP := okT 78 (P1 (.pair (.int .u8) (P4 (.sl (.int .u16)) (.sl (.pair (.int .u8) (.pair (.int .i16) (P4 (.int .i16) (.int .i16) (.int .u8) (.int .u8))))) .bool .bool))) (P1 tC) af3 ay7 [] Tryz.func78 (fun x => ahK x.1) fun _ y _ h => at1 _ y h
def aB9 := okT 47 (P1 (.pair (.int .u8) (P4 (.sl (.int .u16)) (.sl (.pair (.int .u8) (.pair (.int .i16) (P4 (.int .i16) (.int .i16) (.int .u8) (.int .u8))))) .bool .bool))) (P1 tC) aaI aBU [auI, azP] Tryz.func47 (fun x => ajF x.1) fun _ y _ h => av5 _ y h
def anG := okT 123 (P1 tL) (P1 tI) ab4 awH [] Tryz.func123 (fun x => aiV x.1) fun _ y _ h => arZ _ y h
def azW := okT 124 (P2 tL tI) (P1 tL) aeO azJ [] Tryz.func124 (fun x => afP x.1 x.2.1) fun _ y _ h => auD _ _ y h
def aCd := okT 79 (P3 (P4 (.sl (.int .u8)) (.int .u8) (.sl (.int .u16)) .bool) tL tI) (P1 (P3 tL tI tL)) adP aB0 [anG, azW] Tryz.func79 (fun x => ag6 x.1 x.2.1 x.2.2.1) fun _ y _ h => awG _ _ _ y h
def aCe := okT 48 (P3 (P4 (.sl (.int .u8)) (.int .u8) (.sl (.int .u16)) .bool) (.sl (.int .u8)) tI) (P1 (P3 tL tI tL)) aaG aB1 [aCd] Tryz.func48 (fun x => ag7 x.1 x.2.1 x.2.2.1) fun _ y _ h => awI _ _ _ y h
def apI := okT 80 (P1 tI) (P1 tI) abX azC [] Tryz.func80 (fun x => akL x.1) fun _ y _ h => at8 _ y h
def aEn := okT 81 (P1 (P3 (.int .u8) (.int .u8) (.sl (P2 (.int .u8) (.int .i16))))) (P1 tI) ae2 aDz [] Tryz.func81 (fun x => awE x.1) fun _ y _ h => azF _ y h
def asR := okT 50 (P1 (P3 (.int .u8) (.int .u8) (.sl (P2 (.int .u8) (.int .i16))))) (P1 tI) aaS aBZ [] Tryz.func50 (fun x => asK x.1) fun _ y _ h => awD _ y h
def auK := okT 49 (P1 (P3 (.int .u8) (.int .u8) (.sl (P2 (.int .u8) (.int .i16))))) (P1 (.sl tB)) aaU auB [apI, aEn, asR] Tryz.func49 (fun x => adX x.1) fun _ y _ h => ao4 _ y h
end
set_option maxRecDepth 1000000
open Go Go.Vg Go.Proofs
noncomputable section
def auJ := okT 23 (P2 (.pair (.int .u8) (.pair (.int .u8) (.pair (.arr 4 (.pair (.int .u8) (.pair (.sl (.int .u16)) (.pair (.sl (.pair (.int .u8) (.pair (.int .i16) (.pair (.int .i16) (.pair (.int .i16) (.pair (.int .u8) (.pair (.int .u8) .unit))))))) (.pair .bool (.pair .bool .unit)))))) (P4 (.arr 4 (.arr 4 (.int .i16))) (.arr 4 (.int .i16)) (P4 (.sl (.int .u8)) (.int .u8) (.sl (.int .u16)) .bool) (P3 (.int .u8) (.int .u8) (.sl (P2 (.int .u8) (.int .i16)))))))) tI) (P1 (.pair tI (.pair (.sl tC) (.pair (.sl tL) (.pair tL (P4 (P3 tL tI tL) (.sl tB) tI tI)))))) ab3 at7 [aB9, aCe, auK, asR] Tryz.func23 (fun x => adW x.1 x.2.1) fun _ y _ h => ao3 _ _ y h
def aCb := okT 82 (P1 (P3 tL tI tL)) (P1 .bool) ahE aBX [] Tryz.func82 (fun x => al8 x.1) fun _ y _ h => awA _ y h
def apG := okT 197 (P3 tI tI tI) (P1 .bool) abW ay6 [] Tryz.func197 (fun x => akG x.1 x.2.1 x.2.2.1) fun _ y _ h => atZ _ _ _ y h
def awQ := okT 198 (P1 tS) (P1 .bool) agN av3 [apG, apH] Tryz.func198 (fun x => aiK x.1) fun _ y _ h => arO _ y h
def aB8 := okT 125 (P1 tC) (P1 .bool) afI aBT [apG, awQ] Tryz.func125 (fun x => al6 x.1) fun _ y _ h => av4 _ y h
def awR := okT 83 (P1 (.sl tC)) (P1 .bool) acH av9 [aB8] Tryz.func83 (fun x => aiP x.1) fun _ y _ h => arP _ y h
def azR := okT 126 (P1 tL) (P1 .bool) aeM azA [] Tryz.func126 (fun x => akJ x.1) fun _ y _ h => at5 _ y h
def aCa := okT 84 (P1 (.pair tI (.pair (.sl tC) (.pair (.sl tL) (.pair tL (P4 (P3 tL tI tL) (.sl tB) tI tI)))))) (P1 .bool) aeN aBW [azR] Tryz.func84 (fun x => al7 x.1) fun _ y _ h => av8 _ y h
def awT := okT 127 (P3 tI tI tI) (P1 .bool) adO awF [] Tryz.func127 (fun x => aiT x.1 x.2.1 x.2.2.1) fun _ y _ h => arY _ _ _ y h
def azV := okT 85 (P1 (P3 tL tI tL)) (P1 .bool) acW azH [awT, anG] Tryz.func85 (fun x => akO x.1) fun _ y _ h => auC _ y h
def awS := okT 199 (P3 tB tI tI) (P1 .bool) agO awC [] Tryz.func199 (fun x => aiQ x.1 x.2.1 x.2.2.1) fun _ y _ h => arR _ _ _ y h
def azT := okT 128 (P3 (.sl tB) tI tI) (P2 tI .bool) af5 azD [apI, awS] Tryz.func128 (fun x => akM x.1 x.2.1 x.2.2.1) fun _ y _ h => at9 _ _ _ y h
end
set_option maxRecDepth 1000000
open Go Go.Vg Go.Proofs
noncomputable section
def azU := okT 86 (P3 (.sl tB) tI tI) (P1 .bool) acV azE [azT] Tryz.func86 (fun x => akN x.1 x.2.1 x.2.2.1) fun _ y _ h => auA _ _ _ y h
def azS := okT 51 (P1 (.pair tI (.pair (.sl tC) (.pair (.sl tL) (.pair tL (P4 (P3 tL tI tL) (.sl tB) tI tI)))))) (P1 .bool) af4 azB [aCb, awR, aCa, azV, azU] Tryz.func51 (fun x => akK x.1) fun _ y _ h => at6 _ y h
def aCc := okT 24 (P1 (.pair tI (.pair (.sl tC) (.pair (.sl tL) (.pair tL (P4 (P3 tL tI tL) (.sl tB) tI tI)))))) tB adN aBY [azS] Tryz.func24 (fun x => al9 x.1) fun _ y _ h => awB _ y h
def asQ := okT 10 (P2 (P3 (.int .u8) (.sl (.pair (.int .u8) (.pair (.int .u8) (.pair (.arr 4 (.pair (.int .u8) (.pair (.sl (.int .u16)) (.pair (.sl (.pair (.int .u8) (.pair (.int .i16) (.pair (.int .i16) (.pair (.int .i16) (.pair (.int .u8) (.pair (.int .u8) .unit))))))) (.pair .bool (.pair .bool .unit)))))) (P4 (.arr 4 (.arr 4 (.int .i16))) (.arr 4 (.int .i16)) (P4 (.sl (.int .u8)) (.int .u8) (.sl (.int .u16)) .bool) (P3 (.int .u8) (.int .u8) (.sl (P2 (.int .u8) (.int .i16))))))))) .bool) tI) (P1 (P2 tI (.sl (.pair tI (.pair (.sl tC) (.pair (.sl tL) (.pair tL (P4 (P3 tL tI tL) (.sl tB) tI tI)))))))) adM aBV [auJ, aCc] Tryz.func10 (fun x => ag2 x.1 x.2.1) fun _ y _ h => av6 _ _ y h
def azQ := okT 5 (P1 (P3 (.int .u8) (.sl (.pair (.int .u8) (.pair (.int .u8) (.pair (.arr 4 (.pair (.int .u8) (.pair (.sl (.int .u16)) (.pair (.sl (.pair (.int .u8) (.pair (.int .i16) (.pair (.int .i16) (.pair (.int .i16) (.pair (.int .u8) (.pair (.int .u8) .unit))))))) (.pair .bool (.pair .bool .unit)))))) (P4 (.arr 4 (.arr 4 (.int .i16))) (.arr 4 (.int .i16)) (P4 (.sl (.int .u8)) (.int .u8) (.sl (.int .u16)) .bool) (P3 (.int .u8) (.int .u8) (.sl (P2 (.int .u8) (.int .i16))))))))) .bool)) (P1 (P2 tI (.sl (.pair tI (.pair (.sl tC) (.pair (.sl tL) (.pair tL (P4 (P3 tL tI tL) (.sl tB) tI tI)))))))) ah5 ay9 [asQ] Tryz.func5 (fun x => ahL x.1) fun _ y _ h => at4 _ y h
def asV := okT 253 (P3 tI tI tI) (P1 .bool) ac2 aCL [] Tryz.func253 (fun x => amY x.1 x.2.1 x.2.2.1) fun _ y _ h => ax9 _ _ _ y h
def ar0 := okT 207 (P1 tL) (P1 .bool) agX ar5 [asV] Tryz.func207 (fun x => agV x.1) fun _ y _ h => an3 _ y h
def aCi := okT 294 (P1 (P3 tS tI .bool)) (P1 .bool) aeQ aCC [asV] Tryz.func294 (fun x => amU x.1) fun _ y _ h => axV _ y h
def amE := okT 208 (P1 tC) (P1 .bool) aeS amZ [aCi] Tryz.func208 (fun x => aeL x.1) fun _ y _ h => ak1 _ y h
def aEt := okT 141 (P1 tC) (P1 tI) alW aFD [ar0, amE] Tryz.func141 (fun x => aqU x.1) fun _ y _ h => aAw _ y h
def apK := okT 118 (P1 (.sl tC)) (P1 .bool) acX aqC [aEt] Tryz.func118 (fun x => afZ x.1) fun _ y _ h => amQ _ y h
def aGQ := okT 193 (P1 tI) (P1 .bool) alT aHm [] Tryz.func193 (fun x => au0 x.1) fun _ y _ h => aCz _ y h
end
set_option maxRecDepth 1000000
open Go Go.Vg Go.Proofs
noncomputable section
def apJ := okT 119 (P2 (.sl tL) tL) (P1 .bool) acF aqB [aGQ] Tryz.func119 (fun x => afY x.1 x.2.1) fun _ y _ h => amP _ _ y h
def aCh := okT 194 (P3 tI tI tI) (P1 .bool) aeP aCr [] Tryz.func194 (fun x => amH x.1 x.2.1 x.2.2.1) fun _ y _ h => axC _ _ _ y h
def azY := okT 195 (P1 tL) (P1 tI) adC az6 [] Tryz.func195 (fun x => akW x.1) fun _ y _ h => auR _ y h
def aEo := okT 120 (P1 (P3 tL tI tL)) (P1 tI) ahG aEU [aCh, azY] Tryz.func120 (fun x => apX x.1) fun _ y _ h => az7 _ y h
def aCf := okT 290 (P1 tI) (P2 tI .bool) ahF aB3 [] Tryz.func290 (fun x => amA x.1) fun _ y _ h => awK _ y h
def auL := okT 291 (P3 tB tI tI) (P1 .bool) ad3 auF [] Tryz.func291 (fun x => ahO x.1 x.2.1 x.2.2.1) fun _ y _ h => ao9 _ _ _ y h
def azX := okT 196 (P3 (.sl tB) tI tI) tB af6 azK [aCf, auL] Tryz.func196 (fun x => akP x.1 x.2.1 x.2.2.1) fun _ y _ h => auE _ _ _ y h
def aCg := okT 121 (P3 (.sl tB) tI tI) (P1 tI) afJ aB4 [azX] Tryz.func121 (fun x => amB x.1 x.2.1 x.2.2.1) fun _ y _ h => awL _ _ _ y h
def asS := okT 75 (P1 (.pair tI (.pair (.sl tC) (.pair (.sl tL) (.pair tL (P4 (P3 tL tI tL) (.sl tB) tI tI)))))) (P1 tI) afK aCB [apK, apJ, aEo, aCg] Tryz.func75 (fun x => amR x.1) fun _ y _ h => axS _ y h
def aGR := okT 38 (P1 (.pair tI (.pair (.sl tC) (.pair (.sl tL) (.pair tL (P4 (P3 tL tI tL) (.sl tB) tI tI)))))) tB alU aHn [asS] Tryz.func38 (fun x => au1 x.1) fun _ y _ h => aCA _ y h
def aEq := okT 39 (P1 (.pair tI (.pair (.sl tC) (.pair (.sl tL) (.pair tL (P4 (P3 tL tI tL) (.sl tB) tI tI)))))) tB ae3 aFc [asS] Tryz.func39 (fun x => aqE x.1) fun _ y _ h => aAh _ y h
def awU := okT 19 (P1 (P1 (P2 tI (.sl (.pair tI (.pair (.sl tC) (.pair (.sl tL) (.pair tL (P4 (P3 tL tI tL) (.sl tB) tI tI))))))))) (P2 tI .bool) ahH aFw [aGR, aEq] Tryz.func19 (fun x => aqR x.1) fun _ y _ h => aAp _ y h
end
set_option maxRecDepth 1000000
open Go Go.Vg Go.Proofs
noncomputable section
def apM := okT 8 (P1 (P2 tI (.sl (.pair tI (.pair (.sl tC) (.pair (.sl tL) (.pair tL (P4 (P3 tL tI tL) (.sl tB) tI tI)))))))) tB ad4 aFy [awU] Tryz.func8 (fun x => ax4 x.1) fun _ y _ h => aAs _ y h
def asU := okT 18 (P1 (P2 tI (.sl (.pair tI (.pair (.sl tC) (.pair (.sl tL) (.pair tL (P4 (P3 tL tI tL) (.sl tB) tI tI)))))))) (P1 tI) afL aCF [apM] Tryz.func18 (fun x => atA x.1) fun _ y _ h => ax6 _ y h
def apL := okT 20 (P1 (.sl (.sl (.pair tI (.pair (.sl tC) (.pair (.sl tL) (.pair tL (P4 (P3 tL tI tL) (.sl tB) tI tI)))))))) (P1 (.sl (.pair tI (.pair (.sl tC) (.pair (.sl tL) (.pair tL (P4 (P3 tL tI tL) (.sl tB) tI tI))))))) aeR aAq [] Tryz.func20 (fun x => ak0 x.1) fun _ y _ h => avC _ y h
def aGS := okT 6 (P3 (P2 tI (.sl (.pair tI (.pair (.sl tC) (.pair (.sl tL) (.pair tL (P4 (P3 tL tI tL) (.sl tB) tI tI))))))) tI tI) (P2 (P2 tI (.sl (.pair tI (.pair (.sl tC) (.pair (.sl tL) (.pair tL (P4 (P3 tL tI tL) (.sl tB) tI tI))))))) tI) aeV aHv [asU, awU, apL] Tryz.func6 (fun x => aBv x.1 x.2.1 x.2.2.1) fun _ y _ h => aCE _ _ _ y h
def aEs := okT 7 (P2 (P2 tI (.sl (.pair tI (.pair (.sl tC) (.pair (.sl tL) (.pair tL (P4 (P3 tL tI tL) (.sl tB) tI tI))))))) (P2 tI (.sl (.pair tI (.pair (.sl tC) (.pair (.sl tL) (.pair tL (P4 (P3 tL tI tL) (.sl tB) tI tI)))))))) (P2 (P2 tI (.sl (.pair tI (.pair (.sl tC) (.pair (.sl tL) (.pair tL (P4 (P3 tL tI tL) (.sl tB) tI tI))))))) tI) abA aFz [apM, asU, apL] Tryz.func7 (fun x => ax5 x.1 x.2.1) fun _ y _ h => aAt _ _ y h
def azO := okT 44 (P2 tL tL) (P1 .bool) agW aIN [] Tryz.func44 (fun x => ayZ x.1 x.2.1) fun _ y _ h => aDh _ _ y h
def aGP := okT 45 (P2 (P3 tL tI tL) (P3 tL tI tL)) (P1 .bool) alS aHh [azO] Tryz.func45 (fun x => auS x.1 x.2.1) fun _ y _ h => aCs _ _ y h
def aIZ := okT 46 (P2 (.sl tB) (.sl tB)) (P1 .bool) aq7 aIM [] Tryz.func46 (fun x => ayY x.1 x.2.1) fun _ y _ h => aDg _ _ y h
def aIY := okT 76 (P2 (.sl tS) (.sl tS)) (P1 .bool) aq6 aIL [] Tryz.func76 (fun x => ayX x.1 x.2.1) fun _ y _ h => aDf _ _ y h
def aGT := okT 41 (P2 tC tC) (P1 .bool) alV aHy [azO, aIY] Tryz.func41 (fun x => avD x.1 x.2.1) fun _ y _ h => aCM _ _ y h
def aEp := okT 22 (P2 (.pair tI (.pair (.sl tC) (.pair (.sl tL) (.pair tL (P4 (P3 tL tI tL) (.sl tB) tI tI))))) (.pair tI (.pair (.sl tC) (.pair (.sl tL) (.pair tL (P4 (P3 tL tI tL) (.sl tB) tI tI)))))) (P1 .bool) ajA aFb [azO, aGP, aIZ, aGT] Tryz.func22 (fun x => aqD x.1 x.2.1) fun _ y _ h => aAg _ _ y h
def aEr := okT 9 (P2 (P2 tI (.sl (.pair tI (.pair (.sl tC) (.pair (.sl tL) (.pair tL (P4 (P3 tL tI tL) (.sl tB) tI tI))))))) (P2 tI (.sl (.pair tI (.pair (.sl tC) (.pair (.sl tL) (.pair tL (P4 (P3 tL tI tL) (.sl tB) tI tI)))))))) (P1 .bool) acY aFx [aEp] Tryz.func9 (fun x => aqS x.1 x.2.1) fun _ y _ h => aAr _ _ y h
end
set_option maxRecDepth 1000000
open Go Go.Vg Go.Proofs
noncomputable section
def o_ChainCuts := okT 3 (P4 (P3 (.int .u8) (.sl (.pair (.int .u8) (.pair (.int .u8) (.pair (.arr 4 (.pair (.int .u8) (.pair (.sl (.int .u16)) (.pair (.sl (.pair (.int .u8) (.pair (.int .i16) (.pair (.int .i16) (.pair (.int .i16) (.pair (.int .u8) (.pair (.int .u8) .unit))))))) (.pair .bool (.pair .bool .unit)))))) (P4 (.arr 4 (.arr 4 (.int .i16))) (.arr 4 (.int .i16)) (P4 (.sl (.int .u8)) (.int .u8) (.sl (.int .u16)) .bool) (P3 (.int .u8) (.int .u8) (.sl (P2 (.int .u8) (.int .i16))))))))) .bool) (P3 (.int .u8) (.sl (.pair (.int .u8) (.pair (.int .u8) (.pair (.arr 4 (.pair (.int .u8) (.pair (.sl (.int .u16)) (.pair (.sl (.pair (.int .u8) (.pair (.int .i16) (.pair (.int .i16) (.pair (.int .i16) (.pair (.int .u8) (.pair (.int .u8) .unit))))))) (.pair .bool (.pair .bool .unit)))))) (P4 (.arr 4 (.arr 4 (.int .i16))) (.arr 4 (.int .i16)) (P4 (.sl (.int .u8)) (.int .u8) (.sl (.int .u16)) .bool) (P3 (.int .u8) (.int .u8) (.sl (P2 (.int .u8) (.int .i16))))))))) .bool) (P3 (.int .u8) (.sl (.pair (.int .u8) (.pair (.int .u8) (.pair (.arr 4 (.pair (.int .u8) (.pair (.sl (.int .u16)) (.pair (.sl (.pair (.int .u8) (.pair (.int .i16) (.pair (.int .i16) (.pair (.int .i16) (.pair (.int .u8) (.pair (.int .u8) .unit))))))) (.pair .bool (.pair .bool .unit)))))) (P4 (.arr 4 (.arr 4 (.int .i16))) (.arr 4 (.int .i16)) (P4 (.sl (.int .u8)) (.int .u8) (.sl (.int .u16)) .bool) (P3 (.int .u8) (.int .u8) (.sl (P2 (.int .u8) (.int .i16))))))))) .bool) (.int .u8)) (P1 .bool) ak3 aAH [aEm, azQ, aGS, aEs, apM, aEr, asQ] Tryz.func3 (fun x => ah7 x.1 x.2.1 x.2.2.1 x.2.2.2.1) fun _ y hw h => avL _ _ _ _ (aIG hw) y h
end
end Go.Vs
