/-
  Trees of what the functions compute, and their laws. Own work; no condition.
-/
import Derived.Test.YtgibnaibdcbmmaaGreatDoorClL6
import Derived.KernelRfl
set_option linter.unusedVariables false
set_option linter.unusedSimpArgs false
set_option maxRecDepth 1000000
namespace Go.Vs
open Go Go.Vg Go.Proofs
noncomputable section
def azI := okT 163 (P1 tS) (P1 .bool) ag9 ayN [arN, arO] Tryz.func163 (fun x => ajK x.1) fun _ y _ h => atX _ y h
def au4 := okT 112 (P1 tC) (P1 .bool) aeR aDP [arN, azI] Tryz.func112 (fun x => anU x.1) fun _ y _ h => ayO _ y h
def azJ := okT 108 (P1 (.sl tC)) (P1 .bool) acM ayX [au4] Tryz.func108 (fun x => ajQ x.1) fun _ y _ h => atY _ y h
def aBG := okT 158 (P1 tL) (P1 .bool) aeT aBl [] Tryz.func158 (fun x => alW x.1) fun _ y _ h => awO _ y h
def aEh := okT 109 (P1 (.pair tI (.pair (.sl tC) (.pair (.sl tL) (.pair tL (P4 (P3 tL tI tL) (.sl tB) tI tI)))))) (P1 .bool) aeU aDW [aBG] Tryz.func109 (fun x => anZ x.1) fun _ y _ h => ayW _ y h
def azL := okT 159 (P3 tI tI tI) (P1 .bool) adT ay5 [] Tryz.func159 (fun x => ajV x.1 x.2.1 x.2.2.1) fun _ y _ h => at6 _ _ _ y h
def apI := okT 160 (P1 tL) (P1 tI) ab7 ay8 [] Tryz.func160 (fun x => ajX x.1) fun _ y _ h => at7 _ y h
def aBK := okT 110 (P1 (P3 tL tI tL)) (P1 .bool) acZ aBv [azL, apI] Tryz.func110 (fun x => al4 x.1) fun _ y _ h => awW _ y h
def arQ := okT 227 (P1 tI) (P1 tI) ab1 aBp [] Tryz.func227 (fun x => al0 x.1) fun _ y _ h => awS _ y h
def azK := okT 236 (P3 tB tI tI) (P1 .bool) ahA ay1 [] Tryz.func236 (fun x => ajS x.1 x.2.1 x.2.2.1) fun _ y _ h => atZ _ _ _ y h
def aBI := okT 161 (P3 (.sl tB) tI tI) (P2 tI .bool) agL aBq [arQ, azK] Tryz.func161 (fun x => al1 x.1 x.2.1 x.2.2.1) fun _ y _ h => awT _ _ _ y h
def aBJ := okT 111 (P3 (.sl tB) tI tI) (P1 .bool) acY aBr [aBI] Tryz.func111 (fun x => al3 x.1 x.2.1 x.2.2.1) fun _ y _ h => awU _ _ _ y h
end
set_option maxRecDepth 1000000
open Go Go.Vg Go.Proofs
noncomputable section
def al7 := okT 60 (P1 (.pair tI (.pair (.sl tC) (.pair (.sl tL) (.pair tL (P4 (P3 tL tI tL) (.sl tB) tI tI)))))) (P1 .bool) adH aBm [aEi, azJ, aEh, aBK, aBJ] Tryz.func60 (fun x => alY x.1) fun _ y _ h => awP _ y h
def aGS := okT 53 (P1 (.pair tI (.pair (.sl tC) (.pair (.sl tL) (.pair tL (P4 (P3 tL tI tL) (.sl tB) tI tI)))))) tB akE aFU [al7] Tryz.func53 (fun x => aq9 x.1) fun _ y _ h => aBn _ y h
def au6 := okT 54 (P1 (.pair tI (.pair (.sl tC) (.pair (.sl tL) (.pair tL (P4 (P3 tL tI tL) (.sl tB) tI tI)))))) tB acV aDZ [al7] Tryz.func54 (fun x => an2 x.1) fun _ y _ h => ay0 _ y h
def au5 := okT 26 (P1 (P2 tI (.sl (.pair tI (.pair (.sl tC) (.pair (.sl tL) (.pair tL (P4 (P3 tL tI tL) (.sl tB) tI tI)))))))) (P2 tI .bool) afT aDS [aGS, au6] Tryz.func26 (fun x => anW x.1) fun _ y _ h => ayR _ y h
def aEg := okT 8 (P1 (P2 tI (.sl (.pair tI (.pair (.sl tC) (.pair (.sl tL) (.pair tL (P4 (P3 tL tI tL) (.sl tB) tI tI)))))))) tB ah2 aDV [au5] Tryz.func8 (fun x => auX x.1) fun _ y _ h => ayU _ y h
def au9 := okT 9 (P1 (P2 tI (.sl (.pair tI (.pair (.sl tC) (.pair (.sl tL) (.pair tL (P4 (P3 tL tI tL) (.sl tB) tI tI)))))))) (P1 tI) ac4 aEV [azM] Tryz.func9 (fun x => avR x.1) fun _ y _ h => aAD _ y h
def arP := okT 27 (P1 (P2 tI (.sl (.pair tI (.pair (.sl tC) (.pair (.sl tL) (.pair tL (P4 (P3 tL tI tL) (.sl tB) tI tI)))))))) (P1 .bool) aeS aBh [au5] Tryz.func27 (fun x => aq7 x.1) fun _ y _ h => awK _ y h
def aBE := okT 10 (P1 (P2 tI (.sl (.pair tI (.pair (.sl tC) (.pair (.sl tL) (.pair tL (P4 (P3 tL tI tL) (.sl tB) tI tI)))))))) (P1 tI) agJ aBj [arP] Tryz.func10 (fun x => aq8 x.1) fun _ y _ h => awM _ y h
def aGZ := okT 59 (P1 tC) (P1 .bool) akF aH8 [azN] Tryz.func59 (fun x => as3 x.1) fun _ y _ h => aCq _ y h
def aEs := okT 30 (P1 (.pair tI (.pair (.sl tC) (.pair (.sl tL) (.pair tL (P4 (P3 tL tI tL) (.sl tB) tI tI)))))) (P1 .bool) aeX aEQ [aGZ, aoA] Tryz.func30 (fun x => aoP x.1) fun _ y _ h => aAo _ y h
def aEu := okT 11 (P1 (P2 tI (.sl (.pair tI (.pair (.sl tC) (.pair (.sl tL) (.pair tL (P4 (P3 tL tI tL) (.sl tB) tI tI)))))))) (P1 .bool) ae0 aEU [aEs, au9] Tryz.func11 (fun x => aoX x.1) fun _ y _ h => aAC _ y h
def aEc := okT 61 (P1 tC) (P1 .bool) ah0 aDQ [au4] Tryz.func61 (fun x => anV x.1) fun _ y _ h => ayP _ y h
end
set_option maxRecDepth 1000000
open Go Go.Vg Go.Proofs
noncomputable section
def aBH := okT 31 (P1 (.pair tI (.pair (.sl tC) (.pair (.sl tL) (.pair tL (P4 (P3 tL tI tL) (.sl tB) tI tI)))))) (P1 .bool) agK aBo [aEc, al7] Tryz.func31 (fun x => alZ x.1) fun _ y _ h => awQ _ y h
def aBD := okT 12 (P1 (P2 tI (.sl (.pair tI (.pair (.sl tC) (.pair (.sl tL) (.pair tL (P4 (P3 tL tI tL) (.sl tB) tI tI)))))))) (P1 .bool) agI aBi [aBH, arP] Tryz.func12 (fun x => alV x.1) fun _ y _ h => awL _ y h
def aw2 := okT 224 (P1 (.pair (.int .u8) (P4 (.sl (.int .u16)) (.sl (.pair (.int .u8) (.pair (.int .i16) (P4 (.int .i16) (.int .i16) (.int .u8) (.int .u8))))) .bool .bool))) (P1 tC) ad8 awI [arO] Tryz.func224 (fun x => afG x.1) fun _ y _ h => aq1 _ y h
def aBC := okT 225 (P1 (.pair (.int .u8) (P4 (.sl (.int .u16)) (.sl (.pair (.int .u8) (.pair (.int .i16) (P4 (.int .i16) (.int .i16) (.int .u8) (.int .u8))))) .bool .bool))) (P1 tC) agH aBd [] Tryz.func225 (fun x => aiC x.1) fun _ y _ h => awH _ y h
def aEd := okT 145 (P1 (.pair (.int .u8) (P4 (.sl (.int .u16)) (.sl (.pair (.int .u8) (.pair (.int .i16) (P4 (.int .i16) (.int .i16) (.int .u8) (.int .u8))))) .bool .bool))) (P1 tC) aaK aDR [aw2, aBC] Tryz.func145 (fun x => akL x.1) fun _ y _ h => ayQ _ y h
def aBL := okT 320 (P2 tL tI) (P1 tL) aeV aBx [] Tryz.func320 (fun x => af0 x.1 x.2.1) fun _ y _ h => awX _ _ y h
def aEl := okT 226 (P3 (P4 (.sl (.int .u8)) (.int .u8) (.sl (.int .u16)) .bool) tL tI) (P1 (P3 tL tI tL)) adU aD2 [apI, aBL] Tryz.func226 (fun x => ahS x.1 x.2.1 x.2.2.1) fun _ y _ h => ay6 _ _ _ y h
def aEn := okT 146 (P3 (P4 (.sl (.int .u8)) (.int .u8) (.sl (.int .u16)) .bool) (.sl (.int .u8)) tI) (P1 (P3 tL tI tL)) aaG aD4 [aEl] Tryz.func146 (fun x => ahT x.1 x.2.1 x.2.2.1) fun _ y _ h => ay9 _ _ _ y h
def aGT := okT 228 (P1 (P3 (.int .u8) (.int .u8) (.sl (P2 (.int .u8) (.int .i16))))) (P1 tI) ae8 aFV [] Tryz.func228 (fun x => ay4 x.1) fun _ y _ h => aBt _ y h
def au7 := okT 148 (P1 (P3 (.int .u8) (.int .u8) (.sl (P2 (.int .u8) (.int .i16))))) (P1 tI) aaV aD1 [] Tryz.func148 (fun x => auY x.1) fun _ y _ h => ay3 _ y h
def aw3 := okT 147 (P1 (P3 (.int .u8) (.int .u8) (.sl (P2 (.int .u8) (.int .i16))))) (P1 (.sl tB)) aaZ awV [arQ, aGT, au7] Tryz.func147 (fun x => ad3 x.1) fun _ y _ h => arB _ y h
def am2 := okT 98 (P2 (.pair (.int .u8) (.pair (.int .u8) (.pair (.arr 4 (.pair (.int .u8) (.pair (.sl (.int .u16)) (.pair (.sl (.pair (.int .u8) (.pair (.int .i16) (.pair (.int .i16) (.pair (.int .i16) (.pair (.int .u8) (.pair (.int .u8) .unit))))))) (.pair .bool (.pair .bool .unit)))))) (P4 (.arr 4 (.arr 4 (.int .i16))) (.arr 4 (.int .i16)) (P4 (.sl (.int .u8)) (.int .u8) (.sl (.int .u16)) .bool) (P3 (.int .u8) (.int .u8) (.sl (P2 (.int .u8) (.int .i16)))))))) tI) (P1 (.pair tI (.pair (.sl tC) (.pair (.sl tL) (.pair tL (P4 (P3 tL tI tL) (.sl tB) tI tI)))))) aa5 awR [aEd, aEn, aw3, au7] Tryz.func98 (fun x => ad2 x.1 x.2.1) fun _ y _ h => arA _ _ y h
end
set_option maxRecDepth 1000000
open Go Go.Vg Go.Proofs
noncomputable section
def aEe := okT 96 (P2 (P3 (.int .u8) (.sl (.pair (.int .u8) (.pair (.int .u8) (.pair (.arr 4 (.pair (.int .u8) (.pair (.sl (.int .u16)) (.pair (.sl (.pair (.int .u8) (.pair (.int .i16) (.pair (.int .i16) (.pair (.int .i16) (.pair (.int .u8) (.pair (.int .u8) .unit))))))) (.pair .bool (.pair .bool .unit)))))) (P4 (.arr 4 (.arr 4 (.int .i16))) (.arr 4 (.int .i16)) (P4 (.sl (.int .u8)) (.int .u8) (.sl (.int .u16)) .bool) (P3 (.int .u8) (.int .u8) (.sl (P2 (.int .u8) (.int .i16))))))))) .bool) tI) (P1 (P2 tI (.sl (.pair tI (.pair (.sl tC) (.pair (.sl tL) (.pair tL (P4 (P3 tL tI tL) (.sl tB) tI tI)))))))) ak2 aDT [am2, au6] Tryz.func96 (fun x => ahO x.1 x.2.1) fun _ y _ h => ayS _ _ y h
def aBF := okT 48 (P1 (P3 (.int .u8) (.sl (.pair (.int .u8) (.pair (.int .u8) (.pair (.arr 4 (.pair (.int .u8) (.pair (.sl (.int .u16)) (.pair (.sl (.pair (.int .u8) (.pair (.int .i16) (.pair (.int .i16) (.pair (.int .i16) (.pair (.int .u8) (.pair (.int .u8) .unit))))))) (.pair .bool (.pair .bool .unit)))))) (P4 (.arr 4 (.arr 4 (.int .i16))) (.arr 4 (.int .i16)) (P4 (.sl (.int .u8)) (.int .u8) (.sl (.int .u16)) .bool) (P3 (.int .u8) (.int .u8) (.sl (P2 (.int .u8) (.int .i16))))))))) .bool)) (P1 (P2 tI (.sl (.pair tI (.pair (.sl tC) (.pair (.sl tL) (.pair tL (P4 (P3 tL tI tL) (.sl tB) tI tI)))))))) ai0 aBk [aEe] Tryz.func48 (fun x => aiD x.1) fun _ y _ h => awN _ y h
def aEq := okT 49 (P2 (P4 (.int .u8) (.int .u8) tI (.pair (.int .u8) (.pair (.int .u8) (.pair (.arr 4 (.pair (.int .u8) (.pair (.sl (.int .u16)) (.pair (.sl (.pair (.int .u8) (.pair (.int .i16) (.pair (.int .i16) (.pair (.int .i16) (.pair (.int .u8) (.pair (.int .u8) .unit))))))) (.pair .bool (.pair .bool .unit)))))) (P4 (.arr 4 (.arr 4 (.int .i16))) (.arr 4 (.int .i16)) (P4 (.sl (.int .u8)) (.int .u8) (.sl (.int .u16)) .bool) (P3 (.int .u8) (.int .u8) (.sl (P2 (.int .u8) (.int .i16))))))))) (P2 tI (.sl (.pair tI (.pair (.sl tC) (.pair (.sl tL) (.pair tL (P4 (P3 tL tI tL) (.sl tB) tI tI)))))))) (P1 (P2 tI (.sl (.pair tI (.pair (.sl tC) (.pair (.sl tL) (.pair tL (P4 (P3 tL tI tL) (.sl tB) tI tI)))))))) afV aED [am2] Tryz.func49 (fun x => afS x.1 x.2.1) fun _ y _ h => azW _ _ y h
def aBN := okT 24 (P2 (P3 (.int .u8) (.sl (.pair (.int .u8) (.pair (.int .u8) (.pair (.arr 4 (.pair (.int .u8) (.pair (.sl (.int .u16)) (.pair (.sl (.pair (.int .u8) (.pair (.int .i16) (.pair (.int .i16) (.pair (.int .i16) (.pair (.int .u8) (.pair (.int .u8) .unit))))))) (.pair .bool (.pair .bool .unit)))))) (P4 (.arr 4 (.arr 4 (.int .i16))) (.arr 4 (.int .i16)) (P4 (.sl (.int .u8)) (.int .u8) (.sl (.int .u16)) .bool) (P3 (.int .u8) (.int .u8) (.sl (P2 (.int .u8) (.int .i16))))))))) .bool) (.arr 2 (.pair (.int .u8) (.pair (.int .u8) (.pair (.int .i64) (.pair (.pair (.int .u8) (.pair (.int .u8) (.pair (.arr 4 (.pair (.int .u8) (.pair (.sl (.int .u16)) (.pair (.sl (.pair (.int .u8) (.pair (.int .i16) (.pair (.int .i16) (.pair (.int .i16) (.pair (.int .u8) (.pair (.int .u8) .unit))))))) (.pair .bool (.pair .bool .unit)))))) (.pair (.arr 4 (.arr 4 (.int .i16))) (.pair (.arr 4 (.int .i16)) (.pair (.pair (.sl (.int .u8)) (.pair (.int .u8) (.pair (.sl (.int .u16)) (.pair .bool .unit)))) (.pair (.pair (.int .u8) (.pair (.int .u8) (.pair (.sl (.pair (.int .u8) (.pair (.int .i16) .unit))) .unit))) .unit))))))) .unit)))))) (P1 (.arr 3 (.pair (.int .i64) (.pair (.sl (.pair (.int .i64) (.pair (.sl (.pair (.int .i64) (.pair (.sl (.int .i64)) (.pair (.sl (.pair (.int .i64) (.pair (.int .i64) (.pair (.int .i64) (.pair (.int .i64) (.pair (.int .i64) (.pair (.int .i64) .unit))))))) .unit)))) (.pair (.sl (.sl (.int .i64))) (.pair (.sl (.int .i64)) (.pair (.pair (.sl (.int .i64)) (.pair (.int .i64) (.pair (.sl (.int .i64)) .unit))) (.pair (.sl (.pair (.int .i64) (.pair (.int .i64) .unit))) (.pair (.int .i64) (.pair (.int .i64) .unit))))))))) .unit)))) ai1 aBV [aBF, aEq] Tryz.func24 (fun x => af9 x.1 x.2.1) fun _ y _ h => aw7 _ _ y h
def o_ChainChecks := okT 3 (P3 (P3 (.int .u8) (.sl (.pair (.int .u8) (.pair (.int .u8) (.pair (.arr 4 (.pair (.int .u8) (.pair (.sl (.int .u16)) (.pair (.sl (.pair (.int .u8) (.pair (.int .i16) (.pair (.int .i16) (.pair (.int .i16) (.pair (.int .u8) (.pair (.int .u8) .unit))))))) (.pair .bool (.pair .bool .unit)))))) (P4 (.arr 4 (.arr 4 (.int .i16))) (.arr 4 (.int .i16)) (P4 (.sl (.int .u8)) (.int .u8) (.sl (.int .u16)) .bool) (P3 (.int .u8) (.int .u8) (.sl (P2 (.int .u8) (.int .i16))))))))) .bool) (.arr 2 (.pair (.int .u8) (.pair (.int .u8) (.pair (.int .i64) (.pair (.pair (.int .u8) (.pair (.int .u8) (.pair (.arr 4 (.pair (.int .u8) (.pair (.sl (.int .u16)) (.pair (.sl (.pair (.int .u8) (.pair (.int .i16) (.pair (.int .i16) (.pair (.int .i16) (.pair (.int .u8) (.pair (.int .u8) .unit))))))) (.pair .bool (.pair .bool .unit)))))) (.pair (.arr 4 (.arr 4 (.int .i16))) (.pair (.arr 4 (.int .i16)) (.pair (.pair (.sl (.int .u8)) (.pair (.int .u8) (.pair (.sl (.int .u16)) (.pair .bool .unit)))) (.pair (.pair (.int .u8) (.pair (.int .u8) (.pair (.sl (.pair (.int .u8) (.pair (.int .i16) .unit))) .unit))) .unit))))))) .unit))))) tI) (P1 .bool) ai4 ax3 [aGY, aEf, azM, aEg, au9, aBE, aEu, aBD, aGQ, aBN] Tryz.func3 (fun x => afQ x.1 x.2.1 x.2.2.1) fun _ y hw h => atL _ _ _ (aNS hw) y h
end
end Go.Vs
