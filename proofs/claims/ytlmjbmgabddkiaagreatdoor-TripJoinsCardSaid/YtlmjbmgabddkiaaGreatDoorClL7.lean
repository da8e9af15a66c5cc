/-
  Trees of what the functions compute, and their laws. Own work; no condition.
-/
import Derived.Test.YtlmjbmgabddkiaaGreatDoorClL6
import Derived.KernelRfl
set_option linter.unusedVariables false
set_option linter.unusedSimpArgs false
set_option maxRecDepth 1000000
namespace Go.Vs
open Go Go.Vg Go.Proofs
noncomputable section
def aKo := okT 138 (P1 .str) (P1 (P2 .bool tL)) anC aQc [aiN] Tryz.func138 (fun x => aEe x.1) fun _ y _ h => aJw _ y h
def aq3 := okT 188 (P2 tL tL) (P1 tL) ab5 aBO [anU] Tryz.func188 (fun x => ae5 x.1 x.2.1) fun _ y _ h => awP _ _ y h
def axY := okT 191 (P2 tL tL) (P1 tI) afV aHg [] Tryz.func191 (fun x => apL x.1 x.2.1) fun _ y _ h => aBQ _ _ y h
def akH := okT 192 (P2 tL tL) (P1 tL) abJ atL [anU] Tryz.func192 (fun x => akG x.1 x.2.1) fun _ y _ h => apN _ _ y h
def aKm := okT 190 (P2 tL tI) (P2 tL tI) aoN aJq [anU] Tryz.func190 (fun x => atJ x.1 x.2.1) fun _ y _ h => aD6 _ _ y h
def axX := okT 146 (P2 tL tL) (P2 tL tL) aiY aHf [aq3, anU, axY, akH, aKm] Tryz.func146 (fun x => apK x.1 x.2.1) fun _ y _ h => aBP _ _ y h
def aq4 := okT 139 (P2 (P2 .bool tL) (P2 .bool tL)) (P1 (P2 .bool tL)) afE aB1 [axX] Tryz.func139 (fun x => aq1 x.1 x.2.1) fun _ y _ h => awR _ _ y h
def aKn := okT 149 (P1 tI) (P1 .str) aoO aJs [] Tryz.func149 (fun x => atK x.1) fun _ y _ h => aD8 _ y h
def at1 := okT 86 (P1 (P2 .bool tL)) (P1 .str) ai0 aJu [aKn] Tryz.func86 (fun x => atM x.1) fun _ y _ h => aEa _ y h
def afR := okT 77 (P1 tF) (P1 .bool) abR aG4 [aHB, aKo, aq4, at1] Tryz.func77 (fun x => apJ x.1) fun _ y _ h => aBG _ y h
def aHA := okT 90 (P1 tF) (P1 tI) ag5 aHb [afR] Tryz.func90 (fun x => axL x.1) fun _ y _ h => aBN _ y h
def aEm := okT 41 (P1 (.sl tF)) (P1 tI) ae3 aD5 [aHA] Tryz.func41 (fun x => amI x.1) fun _ y _ h => azZ _ y h
end
set_option maxRecDepth 1000000
open Go Go.Vg Go.Proofs
noncomputable section
def apW := okT 80 (P1 tF) (P1 (P2 (P2 .bool tL) (P2 .bool tL))) afU aQb [aKo] Tryz.func80 (fun x => aJm x.1) fun _ y _ h => aJn _ y h
def agD := okT 83 (P1 tI) (P1 (P2 .bool tL)) abU aB0 [aiN] Tryz.func83 (fun x => aq0 x.1) fun _ y _ h => awQ _ y h
def aCe := okT 143 (P1 (P2 .bool tL)) (P1 (P2 .bool tL)) aiZ aJt [aiN] Tryz.func143 (fun x => aBU x.1) fun _ y _ h => aD9 _ y h
def aNM := okT 193 (P2 tL tL) (P1 tL) asL aNc [] Tryz.func193 (fun x => aFO x.1 x.2.1) fun _ y _ h => aHe _ _ y h
def at2 := okT 147 (P2 (P2 .bool tL) (P2 .bool tL)) (P1 (P2 .bool tL)) agN aJv [aNM, aiN, axY, akH] Tryz.func147 (fun x => atQ x.1 x.2.1) fun _ y _ h => aEd _ _ y h
def axZ := okT 148 (P2 (P2 .bool tL) (P2 .bool tL)) (P1 (P2 .bool tL)) ai1 aHn [aCe, at2] Tryz.func148 (fun x => axP x.1 x.2.1) fun _ y _ h => aBZ _ _ y h
def apX := okT 84 (P2 (P2 .bool tL) (P2 .bool tL)) (P2 (P2 .bool tL) (P2 .bool tL)) aeN aHk [axX, aiN, at2, agD, axZ] Tryz.func84 (fun x => apQ x.1 x.2.1) fun _ y _ h => aBX _ _ y h
def ahB := okT 81 (P2 (P2 .bool tL) (P2 .bool tL)) (P1 (P2 (P2 .bool tL) (P2 .bool tL))) aeB aD1 [aCe, aq4, apX] Tryz.func81 (fun x => amG x.1 x.2.1) fun _ y _ h => azX _ _ y h
def apV := okT 118 tB (P1 (P2 (P2 .bool tL) (P2 .bool tL))) ag4 aG5 [agD, ahB] Tryz.func118 (fun x => axJ x.1 x.2.1) fun _ y _ h => aBH _ _ y h
def aiO := okT 142 (P2 (P2 .bool tL) (P2 .bool tL)) (P1 (P2 .bool tL)) acN aHi [aq3, aiN] Tryz.func142 (fun x => axM x.1 x.2.1) fun _ y _ h => aBV _ _ y h
def aHC := okT 194 (P2 (P2 .bool tL) (P2 .bool tL)) (P1 tI) alQ aHm [axZ] Tryz.func194 (fun x => axO x.1 x.2.1) fun _ y _ h => aBY _ _ y h
def axW := okT 151 (P2 (P2 (P2 .bool tL) (P2 .bool tL)) (P2 (P2 .bool tL) (P2 .bool tL))) (P1 tI) aiX aG7 [aiO, aHC] Tryz.func151 (fun x => axK x.1 x.2.1) fun _ y _ h => aBK _ _ y h
end
set_option maxRecDepth 1000000
open Go Go.Vg Go.Proofs
noncomputable section
def aKi := okT 91 (P1 tF) tB agL aJi [afR, apW, apV, axW] Tryz.func91 (fun x => atE x.1) fun _ y _ h => aDX _ y h
def aNK := okT 92 (P2 tF tF) tB aoM aM9 [afR, apW, axW] Tryz.func92 (fun x => aFL x.1 x.2.1) fun _ y _ h => aHa _ _ y h
def at0 := okT 43 (P2 tF tF) (P1 tI) aeA aDU [aNK] Tryz.func43 (fun x => amE x.1 x.2.1) fun _ y _ h => azV _ _ y h
def amK := okT 13 (P1 (.pair tI (P4 tI tF tF (.sl tF)))) (P1 tI) acA aDV [aEm, aKi, at0] Tryz.func13 (fun x => amF x.1) fun _ y _ h => azW _ y h
def aFY := okT 85 (P1 (P2 .bool tL)) (P2 .str tI) aj1 aNf [at1] Tryz.func85 (fun x => aFQ x.1) fun _ y _ h => aHl _ y h
def ar7 := okT 117 (P1 (P2 (P2 .bool tL) (P2 .bool tL))) (P2 tF tI) ajZ aM6 [aFY] Tryz.func117 (fun x => aFI x.1) fun _ y _ h => aG6 _ y h
def aQi := okT 67 tB (P2 tF tI) av2 aQa [apV, ar7] Tryz.func67 (fun x => aD0 x.1 x.2.1) fun _ y _ h => aJl _ _ y h
def az7 := okT 27 tB (P1 tF) aa2 aNb [aQi] Tryz.func27 (fun x => aFN x.1 x.2.1) fun _ y _ h => aHd _ _ y h
def axV := okT 79 (P2 (P2 (P2 .bool tL) (P2 .bool tL)) (P2 (P2 .bool tL) (P2 .bool tL))) (P1 (P2 (P2 .bool tL) (P2 .bool tL))) aiW aG2 [aiO, ahB] Tryz.func79 (fun x => axG x.1 x.2.1) fun _ y _ h => aBF _ _ y h
def aFX := okT 68 (P2 tF tF) (P2 tF tI) abW aM7 [afR, apW, axV, ar7] Tryz.func68 (fun x => aFJ x.1 x.2.1) fun _ y _ h => aG8 _ _ y h
def aCc := okT 141 (P2 (P2 (P2 .bool tL) (P2 .bool tL)) (P2 (P2 .bool tL) (P2 .bool tL))) (P1 (P2 (P2 .bool tL) (P2 .bool tL))) ak0 aJj [aiO, at2, ahB] Tryz.func141 (fun x => aBI x.1 x.2.1) fun _ y _ h => aDY _ _ y h
def aNL := okT 100 (P2 tF tF) (P2 tF tI) adC aNa [afR, apW, aCc, ar7] Tryz.func100 (fun x => aFM x.1 x.2.1) fun _ y _ h => aHc _ _ y h
end
set_option maxRecDepth 1000000
open Go Go.Vg Go.Proofs
noncomputable section
def aKj := okT 155 (P2 (P2 (P2 .bool tL) (P2 .bool tL)) (P2 (P2 .bool tL) (P2 .bool tL))) (P1 (P2 (P2 .bool tL) (P2 .bool tL))) aoK aJk [aiO, ahB] Tryz.func155 (fun x => aBJ x.1 x.2.1) fun _ y _ h => aDZ _ _ y h
def aNJ := okT 101 (P2 tF tF) (P2 tF tI) adB aM8 [afR, apW, aKj, ar7] Tryz.func101 (fun x => aFK x.1 x.2.1) fun _ y _ h => aG9 _ _ y h
def aHy := okT 15 (P2 (.pair tI (P4 tI tF tF (.sl tF))) (.pair tI (P4 tI tF tF (.sl tF)))) (P2 (.pair tI (P4 tI tF tF (.sl tF))) tI) afD aG0 [amK, at0, az7, aFX, aNL, aNJ] Tryz.func15 (fun x => apG x.1 x.2.1) fun _ y _ h => aBD _ _ y h
def aHx := okT 16 (P2 (.pair tI (P4 tI tF tF (.sl tF))) (.pair tI (P4 tI tF tF (.sl tF)))) (P1 .bool) aeM aGZ [] Tryz.func16 (fun x => apF x.1 x.2.1) fun _ y _ h => aBC _ _ y h
def aEl := okT 29 (P1 (P2 (.int .i16) (.int .u8))) (P1 tF) ae2 aD3 [az7] Tryz.func29 (fun x => amH x.1) fun _ y _ h => azY _ y h
def aHv := okT 8 (P1 (.pair (.int .u16) (P4 (.int .u16) (.int .u16) (P2 (.int .i16) (.int .u8)) (.sl (P2 (.int .i16) (.int .u8)))))) (P1 (.pair tI (P4 tI tF tF (.sl tF)))) abC aGX [aEl, az7, aFX] Tryz.func8 (fun x => apD x.1) fun _ y _ h => aBA _ y h
def aKl := okT 30 (P1 tF) (P1 tF) agM aJp [] Tryz.func30 (fun x => atF x.1) fun _ y _ h => aD4 _ y h
def aHz := okT 9 (P2 (P3 (.int .u8) tI tF) (.pair tI (P4 tI tF tF (.sl tF)))) (P1 (.pair tI (P4 tI tF tF (.sl tF)))) abQ aG1 [aKl] Tryz.func9 (fun x => apH x.1 x.2.1) fun _ y _ h => aBE _ _ y h
def aHH := okT 131 (P2 (P2 tM .bool) tM) (P1 (P2 tM .bool)) alU aH1 [ahD, ahC, aCg, adT] Tryz.func131 (fun x => aqB x.1 x.2.1) fun _ y _ h => aCM _ _ y h
def aKp := okT 73 (P2 (P2 (P2 tM .bool) tM) tM) (P1 (P2 tM .bool)) aoP aKV [aiP, amM, adT, az8, aHH] Tryz.func73 (fun x => auJ x.1 x.2.1) fun _ y _ h => aED _ _ y h
def aNO := okT 36 (P2 tF tI) (P2 .str tI) aiA aOk [ajF, aR3, ax1, aKp, amL] Tryz.func36 (fun x => aAv x.1 x.2.1) fun _ y _ h => aH6 _ _ y h
def aHu := okT 35 (P2 .str tI) (P1 .str) ag3 aGM [] Tryz.func35 (fun x => ao3 x.1 x.2.1) fun _ y _ h => aBh _ _ y h
end
set_option maxRecDepth 1000000
open Go Go.Vg Go.Proofs
noncomputable section
def aKe := okT 33 (P1 (.sl .str)) (P1 .str) ad8 aIR [aR4] Tryz.func33 (fun x => asU x.1) fun _ y _ h => aDC _ y h
def aKf := okT 10 (P1 (.pair tI (P4 tI tF tF (.sl tF)))) (P2 .str tI) aeW aIS [aNO, aHu, aKe, apU, aFZ] Tryz.func10 (fun x => asV x.1) fun _ y _ h => aDE _ y h
def aEn := okT 144 (P2 (P2 .bool tL) tI) (P1 (P2 .bool tL)) aj0 aEc [aiO, agD] Tryz.func144 (fun x => atP x.1 x.2.1) fun _ y _ h => az1 _ _ y h
def aNI := okT 82 (P1 tI) (P1 (P2 .bool tL)) aoJ aM5 [agD, aEn] Tryz.func82 (fun x => aFH x.1) fun _ y _ h => aG3 _ y h
def aKk := okT 140 (P1 (P2 (P2 .bool tL) (P2 .bool tL))) (P1 (P2 .bool tL)) aoL aJo [apX] Tryz.func140 (fun x => aBM x.1) fun _ y _ h => aD2 _ y h
def aCd := okT 78 (P1 (P2 (P2 .bool tL) (P2 .bool tL))) (P1 (P2 .bool tL)) ah8 aBL [apV, aCc, aKk] Tryz.func78 (fun x => aqX x.1) fun _ y _ h => awO _ y h
def aKh := okT 37 (P2 tF tI) (P2 .str tI) afN aJh [aNI, apX, aFY, at1, apW, agD, ahB, axV, aCd, afR] Tryz.func37 (fun x => atC x.1 x.2.1) fun _ y _ h => aDW _ _ y h
def aHw := okT 11 (P1 (.pair tI (P4 tI tF tF (.sl tF)))) (P2 .str tI) afC aGY [aKh, amK, aFZ] Tryz.func11 (fun x => apE x.1) fun _ y _ h => aBB _ y h
def o_TripJoins := okT 3 (P4 (.pair (.int .u16) (P4 (.int .u16) (.int .u16) (P2 (.int .i16) (.int .u8)) (.sl (P2 (.int .i16) (.int .u8))))) (.pair (.int .u16) (P4 (.int .u16) (.int .u16) (P2 (.int .i16) (.int .u8)) (.sl (P2 (.int .i16) (.int .u8))))) (P3 (.int .u8) tI tF) (P3 (.int .u8) tI tF)) (P1 .bool) anE aFi [aKg, aHy, aHx, aHv, aHz, aKf, aHw, apU, amK, aKc] Tryz.func3 (fun x => anB x.1 x.2.1 x.2.2.1 x.2.2.2.1) fun _ y hw h => aAX _ _ _ _ (aMD hw) y h
end
end Go.Vs
