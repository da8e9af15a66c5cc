/-
  Contracts of the functions, out of their trees. Own work; no condition.
-/
import Derived.Test.YtlmjbmgabddkiaaGreatDoorClL5
import Derived.KernelRfl
set_option linter.unusedVariables false
set_option linter.unusedSimpArgs false
set_option maxRecDepth 1000000
namespace Go.Vs
open Go Go.Vg Go.Proofs
noncomputable section
def aJH : OkC := ⟨25, _, aGl⟩
def aGn : OkC := ⟨7, _, aDC⟩
def aNF : OkC := ⟨75, _, aLY⟩
def aAV : OkC := ⟨76, _, ayI⟩
def aNG : OkC := ⟨70, _, aLZ⟩
def aNH : OkC := ⟨34, _, aL0⟩
def aL1 : OkC := ⟨23, _, aJm⟩
def aOV := okT 24 tF (P1 .bool) aBL aOS [] Tryz.func24 (fun x => aLU x.1 x.2.1) fun _ y _ h => aLV _ _ y h
def alE := okT 189 (P1 tL) (P1 tL) acE aI8 [] Tryz.func189 (fun x => aCe x.1) fun _ y _ h => aDt _ y h
def agU := okT 145 (P2 .bool tL) (P1 (P2 .bool tL)) aa7 aFB [alE] Tryz.func145 (fun x => ax4 x.1 x.2.1) fun _ y _ h => aAI _ _ y h
def anU := okT 83 (P1 tI) (P1 (P2 .bool tL)) ab8 ayB [agU] Tryz.func83 (fun x => anR x.1) fun _ y _ h => asL _ y h
def ayJ := okT 143 (P1 (P2 .bool tL)) (P1 (P2 .bool tL)) ag6 aFD [agU] Tryz.func143 (fun x => ax6 x.1) fun _ y _ h => aAK _ y h
def anT := okT 188 (P2 tL tL) (P1 tL) abH ax1 [alE] Tryz.func188 (fun x => adW x.1 x.2.1) fun _ y _ h => asK _ _ y h
def atW := okT 191 (P2 tL tL) (P1 tI) aeI aDs [] Tryz.func191 (fun x => amG x.1 x.2.1) fun _ y _ h => ax3 _ _ y h
def ah9 := okT 192 (P2 tL tL) (P1 tL) aa3 apT [alE] Tryz.func192 (fun x => ah8 x.1 x.2.1) fun _ y _ h => amI _ _ y h
def aGs := okT 190 (P2 tL tI) (P2 tL tI) alX aFA [alE] Tryz.func190 (fun x => apR x.1 x.2.1) fun _ y _ h => aAH _ _ y h
def atV := okT 146 (P2 tL tL) (P2 tL tL) ag5 aDr [anT, alE, atW, ah9, aGs] Tryz.func146 (fun x => amF x.1 x.2.1) fun _ y _ h => ax2 _ _ y h
def anV := okT 139 (P2 (P2 .bool tL) (P2 .bool tL)) (P1 (P2 .bool tL)) ad3 ayC [atV] Tryz.func139 (fun x => anS x.1 x.2.1) fun _ y _ h => asM _ _ y h
def aJE := okT 193 (P2 tL tL) (P1 tL) ao1 aI7 [] Tryz.func193 (fun x => aCd x.1 x.2.1) fun _ y _ h => aDq _ _ y h
end
set_option maxRecDepth 1000000
open Go Go.Vg Go.Proofs
noncomputable section
def ayL := okT 147 (P2 (P2 .bool tL) (P2 .bool tL)) (P1 (P2 .bool tL)) ae2 aFF [aJE, agU, atW, ah9] Tryz.func147 (fun x => apX x.1 x.2.1) fun _ y _ h => aAN _ _ y h
def aDO := okT 148 (P2 (P2 .bool tL) (P2 .bool tL)) (P1 (P2 .bool tL)) ajH aDy [ayJ, ayL] Tryz.func148 (fun x => atL x.1 x.2.1) fun _ y _ h => ayA _ _ y h
def aDN := okT 84 (P2 (P2 .bool tL) (P2 .bool tL)) (P2 (P2 .bool tL) (P2 .bool tL)) aeK aDw [atV, agU, ayL, anU, aDO] Tryz.func84 (fun x => amL x.1 x.2.1) fun _ y _ h => ax9 _ _ y h
def ap6 := okT 81 (P2 (P2 .bool tL) (P2 .bool tL)) (P1 (P2 (P2 .bool tL) (P2 .bool tL))) aeH aAF [ayJ, anV, aDN] Tryz.func81 (fun x => aj4 x.1 x.2.1) fun _ y _ h => avP _ _ y h
def aDK := okT 118 tB (P1 (P2 (P2 .bool tL) (P2 .bool tL))) ajE aDm [anU, ap6] Tryz.func118 (fun x => atI x.1 x.2.1) fun _ y _ h => ax0 _ _ y h
def aGt := okT 149 (P1 tI) (P1 .str) alY aFC [] Tryz.func149 (fun x => apS x.1) fun _ y _ h => aAJ _ y h
def ayK := okT 86 (P1 (P2 .bool tL)) (P1 .str) aiP aFE [aGt] Tryz.func86 (fun x => apU x.1) fun _ y _ h => aAL _ y h
def aJF := okT 85 (P1 (P2 .bool tL)) (P2 .str tI) alZ aI9 [ayK] Tryz.func85 (fun x => aCf x.1) fun _ y _ h => aDx _ y h
def aCn := okT 117 (P1 (P2 (P2 .bool tL) (P2 .bool tL))) (P2 tF tI) ajF aI3 [aJF] Tryz.func117 (fun x => aCa x.1) fun _ y _ h => aDn _ y h
def aL2 := okT 67 tB (P2 tF tI) ar4 aLQ [aDK, aCn] Tryz.func67 (fun x => aAE x.1 x.2.1) fun _ y _ h => aFx _ _ y h
def aCo := okT 27 tB (P1 tF) aeR aI6 [aL2] Tryz.func27 (fun x => aCc x.1 x.2.1) fun _ y _ h => aDp _ _ y h
def aAU := okT 29 (P1 (P2 (.int .i16) (.int .u8))) (P1 tF) adV aAG [aCo] Tryz.func29 (fun x => aj5 x.1) fun _ y _ h => avQ _ y h
end
set_option maxRecDepth 1000000
open Go Go.Vg Go.Proofs
noncomputable section
def aDM := okT 137 (P1 .str) (P1 .bool) aeJ aDv [] Tryz.func137 (fun x => amK x.1) fun _ y _ h => ax8 _ y h
def aGu := okT 138 (P1 .str) (P1 (P2 .bool tL)) akV aLS [agU] Tryz.func138 (fun x => aAO x.1) fun _ y _ h => aFG _ y h
def aDJ := okT 77 (P1 tF) (P1 .bool) adB aDl [aDM, aGu, anV, ayK] Tryz.func77 (fun x => amE x.1) fun _ y _ h => axZ _ y h
def aL3 := okT 80 (P1 tF) (P1 (P2 (P2 .bool tL) (P2 .bool tL))) akU aLR [aGu] Tryz.func80 (fun x => aFy x.1) fun _ y _ h => aFz _ y h
def aDL := okT 142 (P2 (P2 .bool tL) (P2 .bool tL)) (P1 (P2 .bool tL)) ad2 aDu [anT, agU] Tryz.func142 (fun x => atJ x.1 x.2.1) fun _ y _ h => ax7 _ _ y h
def aDI := okT 79 (P2 (P2 (P2 .bool tL) (P2 .bool tL)) (P2 (P2 .bool tL) (P2 .bool tL))) (P1 (P2 (P2 .bool tL) (P2 .bool tL))) ajD aDk [aDL, ap6] Tryz.func79 (fun x => atH x.1 x.2.1) fun _ y _ h => axY _ _ y h
def aJD := okT 68 (P2 tF tF) (P2 tF tI) ajG aI4 [aDJ, aL3, aDI, aCn] Tryz.func68 (fun x => aCb x.1 x.2.1) fun _ y _ h => aDo _ _ y h
def aDH := okT 8 (P1 (.pair (.int .u16) (P4 (.int .u16) (.int .u16) (P2 (.int .i16) (.int .u8)) (.sl (P2 (.int .i16) (.int .u8)))))) (P1 (.pair tI (P4 tI tF tF (.sl tF)))) afI aDj [aAU, aCo, aJD] Tryz.func8 (fun x => amD x.1) fun _ y _ h => axX _ y h
def aGo := okT 239 (P1 tM) (P1 tM) aIg aEY [] Tryz.func239 (fun x => aqR x.1) fun _ y _ h => aqS _ y h
def aDE := okT 222 (P1 .str) (P1 tM) ag2 aC4 [aGo] Tryz.func222 (fun x => am3 x.1) fun _ y _ h => an5 _ y h
def aqA := okT 179 tF (P2 .str .bool) abN aBv [] Tryz.func179 (fun x => akM x.1 x.2.1) fun _ y hw h => awL _ _ (zw hw.1 ze) y h
def aJC := okT 178 (P1 .str) (P2 (P2 tM .bool) .bool) ahW aIF [aDE, aqA] Tryz.func178 (fun x => au6 x.1) fun _ y _ h => aC3 _ y h
end
set_option maxRecDepth 1000000
open Go Go.Vg Go.Proofs
noncomputable section
def aGp := okT 123 (P1 .str) (P1 tI) ag3 aE1 [aJC] Tryz.func123 (fun x => ao5 x.1) fun _ y _ h => aAp _ y h
def aiA := okT 132 (P1 tM) (P1 tM) ab9 aG8 [] Tryz.func132 (fun x => aqR x.1) fun _ y _ h => aqS _ y h
def atX := okT 74 (P1 .str) (P1 tM) aeM aEf [aiA] Tryz.func74 (fun x => am3 x.1) fun _ y _ h => an5 _ y h
def aDU := okT 124 (P1 .str) (P1 (P2 tM .bool)) ahA aEe [aqA, atX] Tryz.func124 (fun x => auG x.1) fun _ y _ h => azJ _ y h
def alF := okT 96 (P1 tM) (P1 .bool) adQ aG7 [] Tryz.func96 (fun x => aqQ x.1) fun _ y _ h => aBa _ y h
def ap8 := okT 87 (P1 (P2 tM .bool)) (P1 tI) ag9 aHh [alF] Tryz.func87 (fun x => aq4 x.1) fun _ y _ h => aBh _ y h
def alG := okT 181 (P1 (.int .u64)) (P1 tM) acM awA [] Tryz.func181 (fun x => alQ x.1) fun _ y _ h => aq7 _ y h
def aDQ := okT 180 (P1 tM) (P1 (.int .u64)) ajJ aD6 [] Tryz.func180 (fun x => auA x.1) fun _ y _ h => ay9 _ y h
def aDR := okT 195 (P2 tM (.int .u32)) (P2 tM (.int .u32)) ag7 aD7 [aiA] Tryz.func195 (fun x => amY x.1 x.2.1) fun _ y _ h => azA _ _ y h
def aiB := okT 126 (P2 tM tM) (P1 tI) ac5 azE [] Tryz.func126 (fun x => aiG x.1 x.2.1) fun _ y _ h => asQ _ _ y h
def amP := okT 128 (P2 tM tM) (P1 tM) adC aD5 [aiA] Tryz.func128 (fun x => amX x.1 x.2.1) fun _ y _ h => ay8 _ _ y h
def ap7 := okT 152 (P2 tM tM) (P2 tM tM) af2 aBc [aiA, aDR, aiB, alG, amP] Tryz.func152 (fun x => akG x.1 x.2.1) fun _ y _ h => av4 _ _ y h
end
set_option maxRecDepth 1000000
open Go Go.Vg Go.Proofs
noncomputable section
def aJG := okT 125 (P2 tM tM) (P1 tM) ao2 aJ5 [alG, aDQ, ap7, alF] Tryz.func125 (fun x => av3 x.1 x.2.1) fun _ y _ h => aD9 _ _ y h
def aoQ := okT 72 (P1 tF) (P2 (P2 (P2 tM .bool) tM) .bool) acU aKa [aGp, aDU, ap8, aJG, aiB] Tryz.func72 (fun x => av9 x.1) fun _ y _ h => aEd _ y h
def agV := okT 130 (P2 tM .bool) (P1 (P2 tM .bool)) abW aEc [alF] Tryz.func130 (fun x => auF x.1 x.2.1) fun _ y _ h => azI _ _ y h
def ap9 := okT 127 (P2 (P2 tM .bool) tM) (P1 (P2 tM .bool)) aeL aBi [amP, agV] Tryz.func127 (fun x => akH x.1 x.2.1) fun _ y _ h => av7 _ _ y h
def ayM := okT 184 (P2 tM tM) (P1 tM) aiQ aG9 [] Tryz.func184 (fun x => aqV x.1 x.2.1) fun _ y _ h => aBb _ _ y h
def aDS := okT 185 (P2 tM tM) (P1 tM) ag8 aD8 [aiA] Tryz.func185 (fun x => am0 x.1 x.2.1) fun _ y _ h => azB _ _ y h
def aCp := okT 129 (P2 (P2 tM .bool) (P2 tM .bool)) (P1 (P2 tM .bool)) al2 aJ9 [ayM, agV, aiB, aDS] Tryz.func129 (fun x => av6 x.1 x.2.1) fun _ y _ h => aEa _ _ y h
def aDT := okT 131 (P2 (P2 tM .bool) tM) (P1 (P2 tM .bool)) ajK aEb [ap7, alF, ayM, agV] Tryz.func131 (fun x => am2 x.1 x.2.1) fun _ y _ h => azH _ _ y h
def aGv := okT 73 (P2 (P2 (P2 tM .bool) tM) tM) (P1 (P2 tM .bool)) al0 aG2 [amP, ap9, agV, aCp, aDT] Tryz.func73 (fun x => aqP x.1 x.2.1) fun _ y _ h => aA9 _ _ y h
def aJI := okT 36 (P2 tF tI) (P2 .str tI) agH aKb [aoQ, aNF, atX, aGv, aAV] Tryz.func36 (fun x => awB x.1 x.2.1) fun _ y _ h => aEg _ _ y h
def aDF := okT 35 (P2 .str tI) (P1 .str) afH aC7 [] Tryz.func35 (fun x => al7 x.1 x.2.1) fun _ y _ h => axH _ _ y h
def aGq := okT 33 (P1 (.sl .str)) (P1 .str) ac4 aE5 [aNG] Tryz.func33 (fun x => ao9 x.1) fun _ y _ h => aAs _ y h
end
set_option maxRecDepth 1000000
open Go Go.Vg Go.Proofs
noncomputable section
def aGw := okT 40 (P1 tF) (P1 tI) ae3 aHk [aoQ] Tryz.func40 (fun x => aq8 x.1) fun _ y _ h => aBk _ y h
def aJJ := okT 38 (P1 tF) tB afC aKc [aoQ, ap8] Tryz.func38 (fun x => awC x.1) fun _ y _ h => aEh _ y h
def avW := okT 150 (P1 (P2 tM .bool)) (P1 (P2 tM .bool)) afB av8 [agV] Tryz.func150 (fun x => alP x.1) fun _ y _ h => aq5 _ y h
def aDP := okT 89 (P2 (P2 (P2 tM .bool) tM) (P2 (P2 tM .bool) tM)) (P1 tI) ajI aD4 [ap9, avW, aCp, ap8] Tryz.func89 (fun x => amW x.1 x.2.1) fun _ y _ h => ay6 _ _ y h
def aL4 := okT 39 (P2 tF tF) tB anI aMi [aoQ, aDP] Tryz.func39 (fun x => aBj x.1 x.2.1) fun _ y _ h => aHj _ _ y h
def aDG := okT 12 (P1 (.pair tI (P4 tI tF tF (.sl tF)))) (P1 tI) ad1 aC8 [aGw, aJJ, aL4] Tryz.func12 (fun x => al8 x.1) fun _ y _ h => axI _ y h
def aGr := okT 10 (P1 (.pair tI (P4 tI tF tF (.sl tF)))) (P2 .str tI) ag4 aE6 [aJI, aDF, aGq, aDG, aNH] Tryz.func10 (fun x => apA x.1) fun _ y _ h => aAt _ y h
def o_TripTexts := okT 6 (P1 (.pair (.int .u16) (P4 (.int .u16) (.int .u16) (P2 (.int .i16) (.int .u8)) (.sl (P2 (.int .i16) (.int .u8)))))) (P1 .bool) ahX aBK [aOV, aJH, aGn, aDH, aGr, aL1] Tryz.func6 (fun x => ahV x.1) fun _ y hw h => as0 _ (aIE hw) y h
end
end Go.Vs
