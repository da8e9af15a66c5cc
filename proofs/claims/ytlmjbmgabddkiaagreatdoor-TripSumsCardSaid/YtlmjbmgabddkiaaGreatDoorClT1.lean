/-
  Contracts of the functions, out of their trees. Own work; no condition.
-/
import Derived.Test.YtlmjbmgabddkiaaGreatDoorClL5
import Derived.KernelRfl
set_option linter.unusedVariables false
set_option linter.unusedSimpArgs false
set_option maxRecDepth 1000000
namespace Go.Vs
open Go Go.Vg Go.Proofs
noncomputable section
def aGD : OkC := ⟨7, _, aDR⟩
def aLo : OkC := ⟨34, _, aL8⟩
def aqL : OkC := ⟨76, _, ayS⟩
def alS := okT 189 (P1 tL) (P1 tL) acL aJh [] Tryz.func189 (fun x => aCu x.1) fun _ y _ h => aDI _ y h
def ag8 := okT 145 (P2 .bool tL) (P1 (P2 .bool tL)) abG aFS [alS] Tryz.func145 (fun x => ayF x.1 x.2.1) fun _ y _ h => aAV _ _ y h
def aoD := okT 83 (P1 tI) (P1 (P2 .bool tL)) acC ayM [ag8] Tryz.func83 (fun x => aoA x.1) fun _ y _ h => as3 _ y h
def ayV := okT 143 (P1 (P2 .bool tL)) (P1 (P2 .bool tL)) ahH aFU [ag8] Tryz.func143 (fun x => ayH x.1) fun _ y _ h => aAX _ y h
def aoC := okT 188 (P2 tL tL) (P1 tL) abO ayC [alS] Tryz.func188 (fun x => ad8 x.1 x.2.1) fun _ y _ h => as2 _ _ y h
def auC := okT 191 (P2 tL tL) (P1 tI) aeW aDH [] Tryz.func191 (fun x => amX x.1 x.2.1) fun _ y _ h => ayE _ _ y h
def aiJ := okT 192 (P2 tL tL) (P1 tL) abB ap8 [alS] Tryz.func192 (fun x => aiI x.1 x.2.1) fun _ y _ h => amZ _ _ y h
def aGG := okT 190 (P2 tL tI) (P2 tL tI) amA aFR [alS] Tryz.func190 (fun x => ap6 x.1 x.2.1) fun _ y _ h => aAU _ _ y h
def auB := okT 146 (P2 tL tL) (P2 tL tL) ahG aDG [aoC, alS, auC, aiJ, aGG] Tryz.func146 (fun x => amW x.1 x.2.1) fun _ y _ h => ayD _ _ y h
def aoE := okT 139 (P2 (P2 .bool tL) (P2 .bool tL)) (P1 (P2 .bool tL)) aeG ayN [auB] Tryz.func139 (fun x => aoB x.1 x.2.1) fun _ y _ h => as4 _ _ y h
def aJK := okT 193 (P2 tL tL) (P1 tL) apK aJg [] Tryz.func193 (fun x => aCt x.1 x.2.1) fun _ y _ h => aDF _ _ y h
def ayX := okT 147 (P2 (P2 .bool tL) (P2 .bool tL)) (P1 (P2 .bool tL)) afK aFW [aJK, ag8, auC, aiJ] Tryz.func147 (fun x => aqC x.1 x.2.1) fun _ y _ h => aA0 _ _ y h
end
set_option maxRecDepth 1000000
open Go Go.Vg Go.Proofs
noncomputable section
def aD2 := okT 148 (P2 (P2 .bool tL) (P2 .bool tL)) (P1 (P2 .bool tL)) ajS aDN [ayV, ayX] Tryz.func148 (fun x => at3 x.1 x.2.1) fun _ y _ h => ayL _ _ y h
def aD1 := okT 84 (P2 (P2 .bool tL) (P2 .bool tL)) (P2 (P2 .bool tL) (P2 .bool tL)) aeY aDL [auB, ag8, ayX, aoD, aD2] Tryz.func84 (fun x => am2 x.1 x.2.1) fun _ y _ h => ayK _ _ y h
def aqK := okT 81 (P2 (P2 .bool tL) (P2 .bool tL)) (P1 (P2 (P2 .bool tL) (P2 .bool tL))) aeV aAS [ayV, aoE, aD1] Tryz.func81 (fun x => akG x.1 x.2.1) fun _ y _ h => avY _ _ y h
def aDY := okT 118 tB (P1 (P2 (P2 .bool tL) (P2 .bool tL))) ajP aDA [aoD, aqK] Tryz.func118 (fun x => at0 x.1 x.2.1) fun _ y _ h => ayB _ _ y h
def aGH := okT 149 (P1 tI) (P1 .str) amB aFT [] Tryz.func149 (fun x => ap7 x.1) fun _ y _ h => aAW _ y h
def ayW := okT 86 (P1 (P2 .bool tL)) (P1 .str) aiZ aFV [aGH] Tryz.func86 (fun x => ap9 x.1) fun _ y _ h => aAY _ y h
def aJL := okT 85 (P1 (P2 .bool tL)) (P2 .str tI) amC aJi [ayW] Tryz.func85 (fun x => aCv x.1) fun _ y _ h => aDM _ y h
def aCC := okT 117 (P1 (P2 (P2 .bool tL) (P2 .bool tL))) (P2 tF tI) ajQ aJc [aJL] Tryz.func117 (fun x => aCq x.1) fun _ y _ h => aDB _ y h
def aMa := okT 67 tB (P2 tF tI) asK aL2 [aDY, aCC] Tryz.func67 (fun x => aAR x.1 x.2.1) fun _ y _ h => aFO _ _ y h
def aCD := okT 27 tB (P1 tF) ad3 aJf [aMa] Tryz.func27 (fun x => aCs x.1 x.2.1) fun _ y _ h => aDE _ _ y h
def aA8 := okT 29 (P1 (P2 (.int .i16) (.int .u8))) (P1 tF) ad5 aAT [aCD] Tryz.func29 (fun x => akH x.1) fun _ y _ h => avZ _ y h
def aD0 := okT 137 (P1 .str) (P1 .bool) aeX aDK [] Tryz.func137 (fun x => am1 x.1) fun _ y _ h => ayJ _ y h
end
set_option maxRecDepth 1000000
open Go Go.Vg Go.Proofs
noncomputable section
def aGI := okT 138 (P1 .str) (P1 (P2 .bool tL)) ak9 aL4 [ag8] Tryz.func138 (fun x => aA1 x.1) fun _ y _ h => aFX _ y h
def aDX := okT 77 (P1 tF) (P1 .bool) adM aDz [aD0, aGI, aoE, ayW] Tryz.func77 (fun x => amV x.1) fun _ y _ h => ayA _ y h
def aMb := okT 80 (P1 tF) (P1 (P2 (P2 .bool tL) (P2 .bool tL))) ak8 aL3 [aGI] Tryz.func80 (fun x => aFP x.1) fun _ y _ h => aFQ _ y h
def aDZ := okT 142 (P2 (P2 .bool tL) (P2 .bool tL)) (P1 (P2 .bool tL)) aeF aDJ [aoC, ag8] Tryz.func142 (fun x => at1 x.1 x.2.1) fun _ y _ h => ayI _ _ y h
def aDW := okT 79 (P2 (P2 (P2 .bool tL) (P2 .bool tL)) (P2 (P2 .bool tL) (P2 .bool tL))) (P1 (P2 (P2 .bool tL) (P2 .bool tL))) ajO aDy [aDZ, aqK] Tryz.func79 (fun x => atZ x.1 x.2.1) fun _ y _ h => ax9 _ _ y h
def aJJ := okT 68 (P2 tF tF) (P2 tF tI) ajR aJd [aDX, aMb, aDW, aCC] Tryz.func68 (fun x => aCr x.1 x.2.1) fun _ y _ h => aDC _ _ y h
def aDV := okT 8 (P1 (.pair (.int .u16) (P4 (.int .u16) (.int .u16) (P2 (.int .i16) (.int .u8)) (.sl (P2 (.int .i16) (.int .u8)))))) (P1 (.pair tI (P4 tI tF tF (.sl tF)))) aeU aDx [aA8, aCD, aJJ] Tryz.func8 (fun x => amU x.1) fun _ y _ h => ax8 _ y h
def aNM := okT 103 (P1 tI) (P1 .str) asH aM6 [aLo] Tryz.func103 (fun x => aKH x.1) fun _ y _ h => aIP _ y h
def aGE := okT 239 (P1 tM) (P1 tM) aIn aFg [] Tryz.func239 (fun x => aq6 x.1) fun _ y _ h => aq7 _ y h
def aDT := okT 222 (P1 .str) (P1 tM) ahF aDn [aGE] Tryz.func222 (fun x => anL x.1) fun _ y _ h => aoN _ y h
def aqO := okT 179 tF (P2 .str .bool) abW aBP [] Tryz.func179 (fun x => ak0 x.1 x.2.1) fun _ y hw h => awZ _ _ (zu hw.1 zf) y h
def aJI := okT 178 (P1 .str) (P2 (P2 tM .bool) .bool) ah4 aIO [aDT, aqO] Tryz.func178 (fun x => avK x.1) fun _ y _ h => aDm _ y h
end
set_option maxRecDepth 1000000
open Go Go.Vg Go.Proofs
noncomputable section
def ayT := okT 123 (P1 .str) (P1 tI) afJ aFj [aJI] Tryz.func123 (fun x => apM x.1) fun _ y _ h => aAC _ y h
def aiK := okT 132 (P1 tM) (P1 tM) acD aHi [] Tryz.func132 (fun x => aq6 x.1) fun _ y _ h => aq7 _ y h
def aD8 := okT 74 (P1 .str) (P1 tM) af0 aEz [aiK] Tryz.func74 (fun x => anL x.1) fun _ y _ h => aoN _ y h
def auD := okT 124 (P1 .str) (P1 (P2 tM .bool)) ae0 aEy [aqO, aD8] Tryz.func124 (fun x => auT x.1) fun _ y _ h => az0 _ y h
def ag9 := okT 96 (P1 tM) (P1 .bool) adF aHh [] Tryz.func96 (fun x => aq5 x.1) fun _ y _ h => aBr _ y h
def aeA := okT 130 (P2 tM .bool) (P1 (P2 tM .bool)) abR aEw [ag9] Tryz.func130 (fun x => auS x.1 x.2.1) fun _ y _ h => azZ _ _ y h
def alT := okT 181 (P1 (.int .u64)) (P1 tM) acV awO [] Tryz.func181 (fun x => al1 x.1) fun _ y _ h => arL _ y h
def aD5 := okT 180 (P1 tM) (P1 (.int .u64)) ajV aEr [] Tryz.func180 (fun x => auO x.1) fun _ y _ h => azS _ y h
def aD6 := okT 195 (P2 tM (.int .u32)) (P2 tM (.int .u32)) ahI aEs [aiK] Tryz.func195 (fun x => anH x.1 x.2.1) fun _ y _ h => azT _ _ y h
def aiL := okT 126 (P2 tM tM) (P1 tI) adG azX [] Tryz.func126 (fun x => aiQ x.1 x.2.1) fun _ y _ h => atB _ _ y h
def ajA := okT 128 (P2 tM tM) (P1 tM) acZ aEq [aiK] Tryz.func128 (fun x => anG x.1 x.2.1) fun _ y _ h => azR _ _ y h
def ahR := okT 152 (P2 tM tM) (P2 tM tM) abH aBv [aiK, aD6, aiL, alT, ajA] Tryz.func152 (fun x => akT x.1 x.2.1) fun _ y _ h => awH _ _ y h
end
set_option maxRecDepth 1000000
open Go Go.Vg Go.Proofs
noncomputable section
def ao8 := okT 125 (P2 tM tM) (P1 tM) afU aKg [alT, aD5, ahR, ag9] Tryz.func125 (fun x => awG x.1 x.2.1) fun _ y _ h => aEu _ _ y h
def aBa := okT 156 (P2 (P2 tM .bool) tM) (P1 (P2 (P2 tM .bool) tM)) ah5 aBB [ao8, ahR, aeA] Tryz.func156 (fun x => akV x.1 x.2.1) fun _ y _ h => awM _ _ y h
def aA9 := okT 153 (P1 tM) (P1 tI) agH aBu [ag9, aLo] Tryz.func153 (fun x => akS x.1) fun _ y _ h => awF _ y h
def aGK := okT 154 (P1 (P2 tM .bool)) (P1 .str) amG aHq [aqL] Tryz.func154 (fun x => arH x.1) fun _ y _ h => aBy _ y h
def ai9 := okT 98 (P1 (P2 (P2 tM .bool) tM)) (P2 tF tI) aeZ aEm [aA9, aGK, aqL] Tryz.func98 (fun x => anE x.1) fun _ y _ h => azN _ y h
def aJP := okT 102 tF (P2 tF tI) amI aKm [ayT, auD, ag9, aeA, aBa, ai9] Tryz.func102 (fun x => awQ x.1 x.2.1) fun _ y _ h => aEB _ _ y h
def aLp := okT 53 tB (P2 tF tI) akE aN0 [aNM, aJP] Tryz.func53 (fun x => aLx x.1 x.2.1) fun _ y _ h => aKl _ _ y h
def aJM := okT 17 tB (P1 tF) ajT aJ2 [aLp] Tryz.func17 (fun x => aCM x.1 x.2.1) fun _ y _ h => aEh _ _ y h
def aqM := okT 87 (P1 (P2 tM .bool)) (P1 tI) ahK aHr [ag9] Tryz.func87 (fun x => arI x.1) fun _ y _ h => aBz _ y h
def ajB := okT 72 (P1 tF) (P2 (P2 (P2 tM .bool) tM) .bool) acE aKj [ayT, auD, aqM, ao8, aiL] Tryz.func72 (fun x => awN x.1) fun _ y _ h => aEx _ y h
def aGL := okT 40 (P1 tF) (P1 tI) afL aHw [ajB] Tryz.func40 (fun x => arM x.1) fun _ y _ h => aBF _ y h
def aJO := okT 38 (P1 tF) tB afW aKk [ajB, aqM] Tryz.func38 (fun x => awP x.1) fun _ y _ h => aEA _ y h
end
set_option maxRecDepth 1000000
open Go Go.Vg Go.Proofs
noncomputable section
def aqN := okT 127 (P2 (P2 tM .bool) tM) (P1 (P2 tM .bool)) ad6 aBA [ajA, aeA] Tryz.func127 (fun x => akU x.1 x.2.1) fun _ y _ h => awK _ _ y h
def av5 := okT 150 (P1 (P2 tM .bool)) (P1 (P2 tM .bool)) afV awL [aeA] Tryz.func150 (fun x => al0 x.1) fun _ y _ h => arJ _ y h
def aGJ := okT 184 (P2 tM tM) (P1 tM) amF aHj [] Tryz.func184 (fun x => arA x.1 x.2.1) fun _ y _ h => aBt _ _ y h
def aD7 := okT 185 (P2 tM tM) (P1 tM) ahJ aEt [aiK] Tryz.func185 (fun x => anJ x.1 x.2.1) fun _ y _ h => azU _ _ y h
def aCF := okT 129 (P2 (P2 tM .bool) (P2 tM .bool)) (P1 (P2 tM .bool)) amH aKi [aGJ, aeA, aiL, aD7] Tryz.func129 (fun x => awJ x.1 x.2.1) fun _ y _ h => aEv _ _ y h
def aD4 := okT 89 (P2 (P2 (P2 tM .bool) tM) (P2 (P2 tM .bool) tM)) (P1 tI) ajU aEn [aqN, av5, aCF, aqM] Tryz.func89 (fun x => anF x.1 x.2.1) fun _ y _ h => azO _ _ y h
def aBb := okT 39 (P2 tF tF) tB ad7 aMt [ajB, aD4] Tryz.func39 (fun x => aBE x.1 x.2.1) fun _ y _ h => aHv _ _ y h
def auA := okT 12 (P1 (.pair tI (P4 tI tF tF (.sl tF)))) (P1 tI) aeE aDq [aGL, aJO, aBb] Tryz.func12 (fun x => amO x.1) fun _ y _ h => axS _ y h
def ayU := okT 47 (P2 tF tI) (P1 tF) abN aFl [] Tryz.func47 (fun x => axR x.1 x.2.1) fun _ y _ h => aAE _ _ y h
def aDU := okT 45 (P1 tI) (P1 tF) abL aDp [aLp, ayU] Tryz.func45 (fun x => atP x.1) fun _ y _ h => axQ _ y h
def aCE := okT 95 (P2 (P2 (P2 tM .bool) tM) (P2 (P2 tM .bool) tM)) (P1 (P2 (P2 tM .bool) tM)) amD aKe [ao8, ahR, ajA, aeA] Tryz.func95 (fun x => awD x.1 x.2.1) fun _ y _ h => aEo _ _ y h
def aMc := okT 48 (P2 tF tF) (P2 tF tI) ae1 aMr [ajB, aCE, ai9] Tryz.func48 (fun x => aBC x.1 x.2.1) fun _ y _ h => aHt _ _ y h
end
set_option maxRecDepth 1000000
open Go Go.Vg Go.Proofs
noncomputable section
def aJN := okT 99 (P2 (P2 (P2 tM .bool) tM) (P2 (P2 tM .bool) tM)) (P1 (P2 (P2 tM .bool) tM)) amE aKf [ao8, ahR, aqN, aCF, aeA, ajA] Tryz.func99 (fun x => awE x.1 x.2.1) fun _ y _ h => aEp _ _ y h
def aMe := okT 50 (P2 tF tF) (P2 tF tI) ag3 aMu [ajB, aJN, ai9] Tryz.func50 (fun x => aBG x.1 x.2.1) fun _ y _ h => aHx _ _ y h
def ayZ := okT 97 (P1 (P2 (P2 tM .bool) tM)) (P1 (P2 (P2 tM .bool) tM)) agV azP [aeA] Tryz.func97 (fun x => aoJ x.1) fun _ y _ h => as9 _ y h
def aMd := okT 49 (P2 tF tF) (P2 tF tI) ai0 aMs [ajB, ag9, ayZ, aCE, ai9] Tryz.func49 (fun x => aBD x.1 x.2.1) fun _ y _ h => aHu _ _ y h
def aGF := okT 14 (P2 (.pair tI (P4 tI tF tF (.sl tF))) (.pair tI (P4 tI tF tF (.sl tF)))) (P2 (.pair tI (P4 tI tF tF (.sl tF))) tI) adY aFm [auA, aDU, aMc, ayU, aMe, aMd, aBb] Tryz.func14 (fun x => apQ x.1 x.2.1) fun _ y _ h => aAF _ _ y h
def aL9 := okT 54 (P2 (.sl tF) (.sl tF)) (P1 .bool) asI aLS [] Tryz.func54 (fun x => aAM x.1 x.2.1) fun _ y _ h => aFs _ _ y h
def aD3 := okT 18 (P2 (.pair tI (P4 tI tF tF (.sl tF))) (.pair tI (P4 tI tF tF (.sl tF)))) (P1 .bool) aeH aEg [aL9] Tryz.func18 (fun x => anA x.1 x.2.1) fun _ y _ h => azA _ _ y h
def ayY := okT 19 (P2 tF tF) (P1 .bool) adE azB [aBb] Tryz.func19 (fun x => aiN x.1 x.2.1) fun _ y _ h => as8 _ _ y h
def o_TripSums := okT 4 (P3 (.pair (.int .u16) (P4 (.int .u16) (.int .u16) (P2 (.int .i16) (.int .u8)) (.sl (P2 (.int .i16) (.int .u8))))) (.pair (.int .u16) (P4 (.int .u16) (.int .u16) (P2 (.int .i16) (.int .u8)) (.sl (P2 (.int .i16) (.int .u8))))) (.pair (.int .u16) (P4 (.int .u16) (.int .u16) (P2 (.int .i16) (.int .u8)) (.sl (P2 (.int .i16) (.int .u8)))))) (P1 .bool) an1 aE2 [aGD, aDV, aJM, aGF, aD3, ayY, auA] Tryz.func4 (fun x => an0 x.1 x.2.1 x.2.2.1) fun _ y hw h => aAq _ _ _ (aLK hw) y h
end
end Go.Vs
