/-
  Contracts of the functions, out of their trees. Own work; no condition.
-/
import Derived.Test.YtakjojajnblpoaaGreatDoorClL9
import Derived.KernelRfl
set_option linter.unusedVariables false
set_option linter.unusedSimpArgs false
set_option maxRecDepth 1000000
namespace Go.Vs
open Go Go.Vg Go.Proofs
noncomputable section
def aL4 : OkC := ⟨212, _, aQH⟩
def awJ : OkC := ⟨182, _, aDQ⟩
def aRN : OkC := ⟨93, _, aQI⟩
def aRL : OkC := ⟨239, _, aQG⟩
def aF4 : OkC := ⟨256, _, aDP⟩
def aRK : OkC := ⟨244, _, aQF⟩
def aL2 := okT 34 .unit (P1 tC) aq2 aMu [] Tryz.func34 (fun x => l9_root_t) fun _ y _ h => aGp y h
def apQ := okT 130 (P1 tL) (P1 tL) acO aOM [] Tryz.func130 (fun x => aHH x.1) fun _ y _ h => aI3 _ y h
def ajD := okT 80 (P2 .bool tL) (P1 (P2 .bool tL)) abH aLB [apQ] Tryz.func80 (fun x => aDz x.1 x.2.1) fun _ y _ h => aFP _ _ y h
def atQ := okT 40 (P1 tI) (P1 (P2 .bool tL)) acF aDI [ajD] Tryz.func40 (fun x => atL x.1) fun _ y _ h => azG _ y h
def aDV := okT 85 (P1 (P2 .bool tL)) (P1 (P2 .bool tL)) ajV aLD [ajD] Tryz.func85 (fun x => aDB x.1) fun _ y _ h => aFR _ y h
def atP := okT 134 (P2 tL tL) (P1 tL) abT aDw [apQ] Tryz.func134 (fun x => aeT x.1 x.2.1) fun _ y _ h => azF _ _ y h
def aAn := okT 132 (P2 tL tL) (P1 tI) af1 aI2 [] Tryz.func132 (fun x => arV x.1 x.2.1) fun _ y _ h => aDy _ _ y h
def alW := okT 133 (P2 tL tL) (P1 tL) abA av5 [apQ] Tryz.func133 (fun x => alU x.1 x.2.1) fun _ y _ h => arX _ _ y h
def aLX := okT 171 (P2 tL tI) (P2 tL tI) aqX aLA [apQ] Tryz.func171 (fun x => av3 x.1 x.2.1) fun _ y _ h => aFO _ _ y h
def aAm := okT 135 (P2 tL tL) (P2 tL tL) ajU aI1 [atP, apQ, aAn, alW, aLX] Tryz.func135 (fun x => arU x.1 x.2.1) fun _ y _ h => aDx _ _ y h
def atS := okT 86 (P2 (P2 .bool tL) (P2 .bool tL)) (P1 (P2 .bool tL)) aeY aDJ [aAm] Tryz.func86 (fun x => atM x.1 x.2.1) fun _ y _ h => azH _ _ y h
def aO6 := okT 131 (P2 tL tL) (P1 tL) avB aOL [] Tryz.func131 (fun x => aHG x.1 x.2.1) fun _ y _ h => aI0 _ _ y h
def aDX := okT 81 (P2 (P2 .bool tL) (P2 .bool tL)) (P1 (P2 .bool tL)) agS aLF [aO6, ajD, aAn, alW] Tryz.func81 (fun x => av9 x.1 x.2.1) fun _ y _ h => aFU _ _ y h
def aAo := okT 136 (P2 (P2 .bool tL) (P2 .bool tL)) (P1 (P2 .bool tL)) ajW aI9 [aDV, aDX] Tryz.func136 (fun x => aAg x.1 x.2.1) fun _ y _ h => aDH _ _ y h
def aJp := okT 87 (P2 (P2 .bool tL) (P2 .bool tL)) (P2 (P2 .bool tL) (P2 .bool tL)) af3 aI6 [aAm, ajD, aDX, atQ, aAo] Tryz.func87 (fun x => ar0 x.1 x.2.1) fun _ y _ h => aDF _ _ y h
def aF8 := okT 42 (P2 (P2 .bool tL) (P2 .bool tL)) (P1 (P2 (P2 .bool tL) (P2 .bool tL))) ah0 aFN [aDV, atS, aJp] Tryz.func42 (fun x => aoD x.1 x.2.1) fun _ y _ h => aBI _ _ y h
def aAl := okT 88 tB (P1 (P2 (P2 .bool tL) (P2 .bool tL))) ajS aIX [atQ, aF8] Tryz.func88 (fun x => aAb x.1 x.2.1) fun _ y _ h => aDu _ _ y h
def aLY := okT 170 (P1 tI) (P1 .str) aqY aLC [] Tryz.func170 (fun x => av4 x.1) fun _ y _ h => aFQ _ y h
def aDW := okT 125 (P1 (P2 .bool tL)) (P1 .str) amG aLE [aLY] Tryz.func125 (fun x => av6 x.1) fun _ y _ h => aFS _ y h
def aO7 := okT 84 (P1 (P2 .bool tL)) (P2 .str tI) aqZ aON [aDW] Tryz.func84 (fun x => aHI x.1) fun _ y _ h => aI7 _ y h
end
set_option maxRecDepth 1000000
open Go Go.Vg Go.Proofs
noncomputable section
def aO5 := okT 41 (P1 (P2 (P2 .bool tL) (P2 .bool tL))) (P2 tF tI) aqW aOJ [aO7] Tryz.func41 (fun x => aHF x.1) fun _ y _ h => aIY _ y h
def aQN := okT 43 tB (P2 tF tI) ayP aQB [aAl, aO5] Tryz.func43 (fun x => aFM x.1 x.2.1) fun _ y _ h => aLx _ _ y h
def aL3 := okT 13 tB (P1 tF) acY aQY [aQN] Tryz.func13 (fun x => aMv x.1 x.2.1) fun _ y _ h => aMw _ _ y h
def ar6 := okT 117 (P3 tI tI tI) (P1 .bool) acZ aKc [] Tryz.func117 (fun x => asX x.1 x.2.1 x.2.2.1) fun _ y _ h => aEV _ _ _ y h
def azJ := okT 76 (P1 tL) (P1 .bool) ai4 azR [ar6] Tryz.func76 (fun x => ai3 x.1) fun _ y _ h => auT _ y h
def aJA := okT 129 (P1 (P3 tS tI .bool)) (P1 .bool) af6 aJ6 [ar6] Tryz.func129 (fun x => asQ x.1) fun _ y _ h => aEN _ y h
def ar7 := okT 77 (P1 tC) (P1 .bool) af9 asY [aJA] Tryz.func77 (fun x => afX x.1) fun _ y _ h => ao0 _ y h
def alZ := okT 29 (P1 tC) (P1 tI) afM aNB [azJ, ar7] Tryz.func29 (fun x => ax5 x.1) fun _ y _ h => aG6 _ y h
def alV := okT 233 (P1 tM) (P1 tM) aN1 aKO [] Tryz.func233 (fun x => awY x.1) fun _ y _ h => awZ _ y h
def aJh := okT 205 (P1 .str) (P1 tM) ajQ aII [alV] Tryz.func205 (fun x => asM x.1) fun _ y _ h => at8 _ y h
def awM := okT 173 tF (P2 .str .bool) abY aGV [] Tryz.func173 (fun x => aoV x.1 x.2.1) fun _ y hw h => aCw _ _ (zC hw.1 zf) y h
def au1 := okT 172 (P1 .str) (P2 (P2 tM .bool) .bool) afG aOi [aJh, awM] Tryz.func172 (fun x => aBl x.1) fun _ y _ h => aIG _ y h
def awI := okT 137 (P1 .str) (P1 tI) afI aKY [au1] Tryz.func137 (fun x => avG x.1) fun _ y _ h => aFx _ y h
def alX := okT 207 (P1 tM) (P1 tM) acG aMI [] Tryz.func207 (fun x => awY x.1) fun _ y _ h => awZ _ y h
def aJz := okT 174 (P1 .str) (P1 tM) ahA aJX [alX] Tryz.func174 (fun x => asM x.1) fun _ y _ h => at8 _ y h
def aAq := okT 138 (P1 .str) (P1 (P2 tM .bool)) af4 aJW [awM, aJz] Tryz.func138 (fun x => aAJ x.1) fun _ y _ h => aED _ y h
def ahH := okT 152 (P1 tM) (P1 .bool) ac9 aMH [] Tryz.func152 (fun x => ap2 x.1) fun _ y _ h => awX _ y h
def awL := okT 139 (P1 (P2 tM .bool)) (P1 tI) aj1 aMP [ahH] Tryz.func139 (fun x => aw9 x.1) fun _ y _ h => aGE _ y h
def akG := okT 176 (P1 (.int .u64)) (P1 tM) abO aCj [] Tryz.func176 (fun x => akO x.1) fun _ y _ h => al2 _ y h
def aJw := okT 175 (P1 tM) (P1 (.int .u64)) anK aJM [] Tryz.func175 (fun x => aAF x.1) fun _ y _ h => aEu _ y h
end
set_option maxRecDepth 1000000
open Go Go.Vg Go.Proofs
noncomputable section
def aJx := okT 208 (P2 tM (.int .u32)) (P2 tM (.int .u32)) ajY aJN [alX] Tryz.func208 (fun x => am5 x.1 x.2.1) fun _ y _ h => at4 _ _ y h
def alY := okT 141 (P2 tM tM) (P1 tI) adS aEx [] Tryz.func141 (fun x => aiG x.1 x.2.1) fun _ y _ h => an0 _ _ y h
def ajF := okT 180 (P2 tM tM) (P1 tM) acD aJL [alX] Tryz.func180 (fun x => am4 x.1 x.2.1) fun _ y _ h => at3 _ _ y h
def ahI := okT 177 (P2 tM tM) (P2 tM tM) abC aGz [alX, aJx, alY, akG, ajF] Tryz.func177 (fun x => akK x.1 x.2.1) fun _ y _ h => ap5 _ _ y h
def au2 := okT 140 (P2 tM tM) (P1 tM) ag4 aPB [akG, aJw, ahI, ahH] Tryz.func140 (fun x => aCc x.1 x.2.1) fun _ y _ h => aJP _ _ y h
def ag0 := okT 89 (P1 tF) (P2 (P2 (P2 tM .bool) tM) .bool) abN aPD [awI, aAq, awL, au2, alY] Tryz.func89 (fun x => aCi x.1) fun _ y _ h => aJV _ y h
def aL8 := okT 44 (P1 tF) (P1 tI) aq8 aMV [ag0] Tryz.func44 (fun x => axD x.1) fun _ y _ h => aGM _ y h
def aQf := okT 194 (P1 tI) (P1 .str) auG aRA [aL4] Tryz.func194 (fun x => aP6 x.1) fun _ y _ h => aOm _ y h
def adB := okT 179 (P2 tM .bool) (P1 (P2 tM .bool)) aa9 aJU [ahH] Tryz.func179 (fun x => aAI x.1 x.2.1) fun _ y _ h => aEC _ _ y h
def aGc := okT 220 (P2 (P2 tM .bool) tM) (P1 (P2 (P2 tM .bool) tM)) ak3 aGG [au2, ahI, adB] Tryz.func220 (fun x => aoS x.1 x.2.1) fun _ y _ h => aCh _ _ y h
def aGb := okT 191 (P1 tM) (P1 tI) ah2 aGy [ahH, aL4] Tryz.func191 (fun x => akJ x.1) fun _ y _ h => ap4 _ y h
def awK := okT 146 (P1 (P2 tM .bool)) (P1 .str) aj0 aMO [awJ] Tryz.func146 (fun x => aw8 x.1) fun _ y _ h => aGD _ y h
def ajE := okT 154 (P1 (P2 (P2 tM .bool) tM)) (P2 tF tI) aeZ aJG [aGb, awK, awJ] Tryz.func154 (fun x => asG x.1) fun _ y _ h => aEn _ y h
def aPd := okT 193 tF (P2 tF tI) aq7 aPH [awI, aAq, ahH, adB, aGc, ajE] Tryz.func193 (fun x => aCm x.1 x.2.1) fun _ y _ h => aJ0 _ _ y h
def aQg := okT 157 tB (P2 tF tI) amI aR2 [aQf, aPd] Tryz.func157 (fun x => aQj x.1 x.2.1) fun _ y _ h => aPF _ _ y h
def au3 := okT 100 tB (P1 tF) ab0 aPS [aQg] Tryz.func100 (fun x => aIg x.1 x.2.1) fun _ y _ h => aKd _ _ y h
def akH := okT 91 (P1 tI) (P1 tF) aaF aG3 [au3] Tryz.func91 (fun x => axZ x.1) fun _ y _ h => aCE _ y h
def aoH := okT 189 (P2 (P2 tM .bool) tM) (P1 (P2 tM .bool)) adT aGF [ajF, adB] Tryz.func189 (fun x => aoR x.1 x.2.1) fun _ y _ h => aCf _ _ y h
def apR := okT 192 (P1 (P2 tM .bool)) (P1 (P2 tM .bool)) afK aCg [adB] Tryz.func192 (fun x => ap9 x.1) fun _ y _ h => axA _ y h
def aD0 := okT 181 (P2 tM tM) (P1 tM) amH aMJ [] Tryz.func181 (fun x => ap3 x.1 x.2.1) fun _ y _ h => aw2 _ _ y h
end
set_option maxRecDepth 1000000
open Go Go.Vg Go.Proofs
noncomputable section
def aJy := okT 219 (P2 tM tM) (P1 tM) ajZ aJO [alX] Tryz.func219 (fun x => am6 x.1 x.2.1) fun _ y _ h => at5 _ _ y h
def aBY := okT 190 (P2 (P2 tM .bool) (P2 tM .bool)) (P1 (P2 tM .bool)) anL aPC [aD0, adB, alY, aJy] Tryz.func190 (fun x => aCe x.1 x.2.1) fun _ y _ h => aJS _ _ y h
def aJv := okT 156 (P2 (P2 (P2 tM .bool) tM) (P2 (P2 tM .bool) tM)) (P1 tI) anJ aJI [aoH, apR, aBY, awL] Tryz.func156 (fun x => asH x.1 x.2.1) fun _ y _ h => aEo _ _ y h
def aGe := okT 99 (P2 tF tF) tB ah4 aRb [ag0, aJv] Tryz.func99 (fun x => aGL x.1 x.2.1) fun _ y _ h => aMU _ _ y h
def apS := okT 48 (P1 tF) (P1 tF) ac1 aCG [akH, aGe] Tryz.func48 (fun x => akV x.1) fun _ y _ h => ax0 _ y h
def aHT := okT 144 (P2 (P2 (P2 tM .bool) tM) (P2 (P2 tM .bool) tM)) (P1 (P2 (P2 tM .bool) tM)) aq4 aPz [au2, ahI, ajF, adB] Tryz.func144 (fun x => aCa x.1 x.2.1) fun _ y _ h => aJJ _ _ y h
def aGd := okT 90 (P2 tF tF) (P2 tF tI) aeD aQ9 [ag0, aHT, ajE] Tryz.func90 (fun x => aGI x.1 x.2.1) fun _ y _ h => aMR _ _ y h
def aHU := okT 151 (P2 (P2 (P2 tM .bool) tM) (P2 (P2 tM .bool) tM)) (P1 (P2 (P2 tM .bool) tM)) aq5 aPA [au2, ahI, aoH, aBY, adB, ajF] Tryz.func151 (fun x => aCb x.1 x.2.1) fun _ y _ h => aJK _ _ y h
def aGf := okT 97 (P2 tF tF) (P2 tF tI) adU aRc [ag0, aHU, ajE] Tryz.func97 (fun x => aGN x.1 x.2.1) fun _ y _ h => aMW _ _ y h
def aDZ := okT 153 (P1 (P2 (P2 tM .bool) tM)) (P1 (P2 (P2 tM .bool) tM)) aiO aEq [adB] Tryz.func153 (fun x => at1 x.1) fun _ y _ h => azL _ y h
def aL7 := okT 98 (P2 tF tF) (P2 tF tI) afL aRa [ag0, ahH, aDZ, aHT, ajE] Tryz.func98 (fun x => aGK x.1 x.2.1) fun _ y _ h => aMT _ _ y h
def aD1 := okT 101 (P2 (P3 tS tI .bool) tF) (P2 tF tI) aj4 aNj [akH, aGd, aGf, aL7] Tryz.func101 (fun x => axM x.1 x.2.1) fun _ y _ h => aGY _ _ y h
def aPb := okT 102 (P1 tF) tB aq6 aPE [ag0, awL] Tryz.func102 (fun x => aCk x.1) fun _ y _ h => aJY _ y h
def aD2 := okT 47 (P2 (P1 tC) tF) (P2 tF tI) aiP aEU [au3, aGe, aGd, aGf, apS, aD1, aPb, akH] Tryz.func47 (fun x => al7 x.1 x.2.1) fun _ y _ h => azQ _ _ y h
def aAp := okT 145 (P2 (P2 tM .bool) tM) (P1 (P2 tM .bool)) aj2 aJT [ahI, ahH, aD0, adB] Tryz.func145 (fun x => asL x.1 x.2.1) fun _ y _ h => aEA _ _ y h
def aL6 := okT 92 (P1 tF) (P2 .str tI) aj3 aMS [ag0, aAp, awK] Tryz.func92 (fun x => axC x.1) fun _ y _ h => aGJ _ y h
def aDY := okT 188 (P1 (P2 (P2 tM .bool) tM)) (P1 (P2 (P2 tM .bool) tM)) aiN aEp [apR] Tryz.func188 (fun x => atZ x.1) fun _ y _ h => azK _ y h
def aPa := okT 150 (P2 (P2 (P2 tM .bool) tM) (P2 (P2 tM .bool) tM)) (P1 (P2 (P2 tM .bool) tM)) avC aPy [aDY, aHU] Tryz.func150 (fun x => aH4 x.1 x.2.1) fun _ y _ h => aJH _ _ y h
def aQP := okT 96 (P2 tF tF) (P2 tF tI) af5 aQ8 [ag0, aPa, ajE] Tryz.func96 (fun x => aGH x.1 x.2.1) fun _ y _ h => aMQ _ _ y h
def aAr := okT 46 (P2 (P1 tC) tF) (P2 tF tI) af7 aJ9 [akH, aGd, aL6, aRN, aQP, aGf, aL7] Tryz.func46 (fun x => asU x.1 x.2.1) fun _ y _ h => aET _ _ y h
end
set_option maxRecDepth 1000000
open Go Go.Vg Go.Proofs
noncomputable section
def aBZ := okT 45 (P2 (P1 tC) tF) (P2 tF tI) ag5 aCD [] Tryz.func45 (fun x => aqJ x.1 x.2.1) fun _ y _ h => axY _ _ y h
def aB0 := okT 14 (P2 tC tF) (P2 tF tI) acA aPU [alZ, aL8, apS, aD2, aAr, aBZ] Tryz.func14 (fun x => aCH x.1 x.2.1) fun _ y _ h => aKg _ _ y h
def ahJ := okT 115 tB (P1 .bool) adW aNM [] Tryz.func115 (fun x => ayC x.1 x.2.1) fun _ y _ h => aHa _ _ y h
def aB1 := okT 116 tB (P2 tB tI) aiR aPV [ahJ] Tryz.func116 (fun x => aCK x.1 x.2.1) fun _ y _ h => aKr _ _ y h
def aD5 := okT 55 (P3 tB tI tI) (P2 tB tI) aj5 aNP [ahJ, aB1] Tryz.func55 (fun x => ayD x.1 x.2.1 x.2.2.1) fun _ y _ h => aHc _ _ _ y h
def aL5 := okT 222 (P2 (P2 (P2 tM .bool) tM) tM) (P1 (P2 tM .bool)) aq3 aME [ajF, aoH, adB, aBY, aAp] Tryz.func222 (fun x => awU x.1 x.2.1) fun _ y _ h => aGx _ _ y h
def aLW := okT 221 (P1 .str) tB ak2 aQq [awI, aRL] Tryz.func221 (fun x => aFv x.1) fun _ y _ h => aKW _ y h
def aPc := okT 196 (P2 tF tI) tB ak4 aPG [ag0, akG, aL5, awK, aLW] Tryz.func196 (fun x => aCl x.1 x.2.1) fun _ y _ h => aJZ _ _ y h
def aAt := okT 160 (P1 tF) (P2 tB tI) agA aKt [aPc, aQg, aGe, ahJ, aB1] Tryz.func160 (fun x => as0 x.1) fun _ y _ h => aE4 _ y h
def aQL := okT 251 (P1 tL) (P1 tI) ayM aQu [] Tryz.func251 (fun x => aFF x.1) fun _ y _ h => aLa _ y h
def aMb := okT 231 (P1 tL) (P1 tI) ayR aNN [aQL] Tryz.func231 (fun x => aE2 x.1) fun _ y _ h => aHb _ y h
def aQM := okT 252 (P1 tL) (P1 tI) ayN aQv [] Tryz.func252 (fun x => aFG x.1) fun _ y _ h => aLb _ y h
def aD4 := okT 232 (P1 tL) (P1 tI) amK aE3 [aQM] Tryz.func232 (fun x => auE x.1) fun _ y _ h => azT _ y h
def aPe := okT 163 (P2 tB tB) (P2 tB tI) arA aPX [ahJ, aMb, aD4] Tryz.func163 (fun x => aCL x.1 x.2.1) fun _ y _ h => aKs _ _ y h
def aHV := okT 120 (P1 (.sl tB)) (P2 tB tI) aiQ aPT [aPe] Tryz.func120 (fun x => aCF x.1) fun _ y _ h => aKe _ y h
def aAs := okT 118 (P1 (.sl tF)) (P2 tB tI) ae0 aKf [aAt, aHV] Tryz.func118 (fun x => asZ x.1) fun _ y _ h => aEX _ y h
def aMc := okT 197 (P1 tB) (P1 tI) arB aNQ [ahJ] Tryz.func197 (fun x => ayE x.1) fun _ y _ h => aHd _ y h
def aJr := okT 198 (P1 tB) (P1 .bool) as8 aJc [] Tryz.func198 (fun x => ar2 x.1) fun _ y _ h => aDN _ y h
def amX := okT 257 (P2 tM tM) (P1 tM) ajO aIC [alV] Tryz.func257 (fun x => am4 x.1 x.2.1) fun _ y _ h => at3 _ _ y h
def aAk := okT 242 (P2 tM tI) (P1 tM) ajP aIE [amX] Tryz.func242 (fun x => azY x.1 x.2.1) fun _ y _ h => aC5 _ _ y h
end
set_option maxRecDepth 1000000
open Go Go.Vg Go.Proofs
noncomputable section
def apN := okT 246 (P1 tM) (P1 .bool) ahY aKN [] Tryz.func246 (fun x => ap2 x.1) fun _ y _ h => awX _ y h
def aHS := okT 241 (P2 tM .bool) (P1 (P2 tM .bool)) aiM aRz [apN] Tryz.func241 (fun x => aP5 x.1 x.2.1) fun _ y _ h => aOk _ _ y h
def awG := okT 255 (P1 tM) (P1 tI) akY aFp [apN, aL4] Tryz.func255 (fun x => akJ x.1) fun _ y _ h => ap4 _ y h
def apO := okT 240 (P1 (P2 tM .bool)) (P2 .str tI) acX aKS [awG, aF4] Tryz.func240 (fun x => avF x.1) fun _ y _ h => aFr _ y h
def aLV := okT 224 (P2 .str tI) (P2 .str tI) amF aQo [au1, aAk, aHS, apO] Tryz.func224 (fun x => aFt x.1 x.2.1) fun _ y _ h => aKU _ _ y h
def aF9 := okT 226 (P1 tI) (P1 .str) ah1 aF1 [aRK] Tryz.func226 (fun x => aoF x.1) fun _ y _ h => aBR _ y h
def aHR := okT 245 tF (P3 (P2 tM .bool) (P2 tM .bool) tI) afH aOj [au1] Tryz.func245 (fun x => aBm x.1 x.2.1) fun _ y _ h => aIH _ _ y h
def aDT := okT 260 (P2 (P2 tM .bool) (P2 tM .bool)) (P1 (P2 tM .bool)) aiL aC3 [amX, aHS] Tryz.func260 (fun x => alH x.1 x.2.1) fun _ y _ h => azB _ _ y h
def aQJ := okT 225 tF (P2 .str tI) as5 aQp [aHR, aDT, apO] Tryz.func225 (fun x => aFu x.1 x.2.1) fun _ y _ h => aKV _ _ y h
def aAj := okT 267 (P2 tM (.int .u32)) (P2 tM (.int .u32)) as3 aID [alV] Tryz.func267 (fun x => am5 x.1 x.2.1) fun _ y _ h => at4 _ _ y h
def atO := okT 266 (P2 tM tM) (P1 tI) amE aC6 [] Tryz.func266 (fun x => aiG x.1 x.2.1) fun _ y _ h => an0 _ _ y h
def apP := okT 268 (P1 (.int .u64)) (P1 tM) ag3 aBn [] Tryz.func268 (fun x => akO x.1) fun _ y _ h => al2 _ y h
def awH := okT 247 (P2 tM tM) (P2 tM tM) akZ aFq [alV, aAj, atO, apP, amX] Tryz.func247 (fun x => akK x.1 x.2.1) fun _ y _ h => ap5 _ _ y h
def aDU := okT 248 (P2 tM tM) (P1 tM) aqU aKQ [] Tryz.func248 (fun x => ap3 x.1 x.2.1) fun _ y _ h => aw2 _ _ y h
def aF5 := okT 281 (P1 tI) (P1 tM) ak1 aFs [] Tryz.func281 (fun x => an6 x.1) fun _ y _ h => aBk _ y h
def aLU := okT 270 (P2 tM tI) (P1 tM) aqT aKP [aAk, awH, apP, amX, aDU, aAj, atO, apN, awG, aF5] Tryz.func270 (fun x => aC4 x.1 x.2.1) fun _ y _ h => aFo _ _ y h
def aO3 := okT 250 (P2 .str tI) (P2 .str tI) aqV aOl [au1, aLU, aHS, apO] Tryz.func250 (fun x => aBo x.1 x.2.1) fun _ y _ h => aIJ _ _ y h
def aO9 := okT 228 (P2 .str tI) (P3 .str .bool tI) aq1 aOZ [aO3, aLV] Tryz.func228 (fun x => aBT x.1 x.2.1) fun _ y _ h => aJe _ _ y h
def aGa := okT 229 (P2 .str .bool) tB acL aF2 [aLW] Tryz.func229 (fun x => aoG x.1 x.2.1) fun _ y _ h => aBU _ _ y h
def aJg := okT 249 (P2 tM tM) (P1 tM) as4 aIF [alV] Tryz.func249 (fun x => am6 x.1 x.2.1) fun _ y _ h => at5 _ _ y h
end
set_option maxRecDepth 1000000
open Go Go.Vg Go.Proofs
noncomputable section
def aQK := okT 227 tF (P3 .str .str tI) as6 aQr [aHR, apN, awH, aDU, aJg, aHS, apO] Tryz.func227 (fun x => aFw x.1 x.2.1) fun _ y _ h => aKX _ _ y h
def aO8 := okT 200 (P3 (P1 tB) tI .bool) tB aq0 aOQ [aQf, aLV, aF9, aQJ, aO9, aGa, aQK] Tryz.func200 (fun x => aBM x.1 x.2.1 x.2.2.1) fun _ y _ h => aJb _ _ _ y h
def aRM := okT 223 tB (P2 tB tI) aIn aR8 [ahJ] Tryz.func223 (fun x => aNO x.1 x.2.1) fun _ y _ h => aPW _ _ y h
def aL0 := okT 161 (P3 tB tI tI) (P2 tB tI) ayQ aLM [aMc, aJr, aO8, aRM] Tryz.func161 (fun x => awE x.1 x.2.1 x.2.2.1) fun _ y _ h => aF3 _ _ _ y h
def aQQ := okT 162 (P2 tB tB) (P2 tB tI) aHi aRr [ahJ, aB1] Tryz.func162 (fun x => aHe x.1 x.2.1) fun _ y _ h => aNR _ _ y h
def aGg := okT 119 (P3 (P3 tS tI .bool) tI tI) (P2 tB tI) adV aGW [au3, aD1, aAs, aL0, aAt, aQQ, aD5] Tryz.func119 (fun x => aoW x.1 x.2.1 x.2.2.1) fun _ y _ h => aCx _ _ _ y h
def auN := okT 58 (P2 (P1 tC) tB) (P2 tB tI) adA auS [aGg, aHV] Tryz.func58 (fun x => agU x.1 x.2.1) fun _ y _ h => aqN _ _ y h
def azI := okT 57 (P2 (P1 tC) tB) (P2 tB tI) aeJ azP [ar6, au3, aAs, aAr] Tryz.func57 (fun x => ai2 x.1 x.2.1) fun _ y _ h => auR _ _ y h
def ar5 := okT 56 (P2 (P1 tC) tB) (P2 tB tI) af8 asV [] Tryz.func56 (fun x => ajK x.1 x.2.1) fun _ y _ h => aoZ _ _ y h
def aD3 := okT 16 (P2 tC tB) (P2 tB tI) acH aNC [alZ, aD5, auN, azI, ar5] Tryz.func16 (fun x => ax6 x.1 x.2.1) fun _ y _ h => aG7 _ _ y h
def aL1 := okT 35 .unit (P1 tC) ajX aMt [] Tryz.func35 (fun x => l9_tent_t) fun _ y _ h => aGo y h
def aL9 := okT 25 (P1 tC) tB amJ aNz [alZ] Tryz.func25 (fun x => ax3 x.1) fun _ y _ h => aG4 _ y h
def aJt := okT 20 (P3 tC tF tF) (P1 .bool) ad4 aJE [aB0] Tryz.func20 (fun x => asD x.1 x.2.1 x.2.2.1) fun _ y _ h => aEf _ _ _ y h
def aJu := okT 36 .unit (P1 tC) anI aJF [] Tryz.func36 (fun x => l9_steps_t) fun _ y _ h => aEg y h
def aJs := okT 10 .unit (P1 .bool) as9 aJD [aL2, aL3, aB0, aD3, aL1, aL9, aJt, aJu, alZ] Tryz.func10 (fun x => l9_wakes_t) fun _ y _ h => aEe y h
def aF7 := okT 126 tB (P1 .bool) abM aFL [] Tryz.func126 (fun x => aoC x.1 x.2.1) fun _ y _ h => aBH _ _ y h
def aBX := okT 69 (P1 (.pair (.int .u8) (P4 (.sl (.int .u16)) (.sl (.pair (.int .u8) (.pair (.int .i16) (P4 (.int .i16) (.int .i16) (.int .u8) (.int .u8))))) .bool .bool))) (P1 tC) afJ aBG [aF7] Tryz.func69 (fun x => agZ x.1) fun _ y _ h => avZ _ y h
def aF6 := okT 70 (P1 (.pair (.int .u8) (P4 (.sl (.int .u16)) (.sl (.pair (.int .u8) (.pair (.int .i16) (P4 (.int .i16) (.int .i16) (.int .u8) (.int .u8))))) .bool .bool))) (P1 tC) ahZ aFK [] Tryz.func70 (fun x => akB x.1) fun _ y _ h => aBF _ y h
def aJi := okT 21 (P1 (.pair (.int .u8) (P4 (.sl (.int .u16)) (.sl (.pair (.int .u8) (.pair (.int .i16) (P4 (.int .i16) (.int .i16) (.int .u8) (.int .u8))))) .bool .bool))) (P1 tC) ajR aIS [aBX, aF6] Tryz.func21 (fun x => amU x.1) fun _ y _ h => aDq _ y h
def aMa := okT 24 (P1 tC) (P1 .bool) aq9 aNA [alZ] Tryz.func24 (fun x => ax4 x.1) fun _ y _ h => aG5 _ y h
end
set_option maxRecDepth 1000000
open Go Go.Vg Go.Proofs
noncomputable section
def aJk := okT 72 (P1 tB) (P1 .bool) anF aIU [] Tryz.func72 (fun x => arS x.1) fun _ y _ h => aDs _ y h
def aJo := okT 124 (P1 .str) (P1 .bool) af2 aI5 [] Tryz.func124 (fun x => arZ x.1) fun _ y _ h => aDE _ y h
def aLZ := okT 38 (P1 .str) (P1 (P2 .bool tL)) ao4 aQD [ajD] Tryz.func38 (fun x => aFV x.1) fun _ y _ h => aLG _ y h
def aJl := okT 65 (P1 tF) (P1 .bool) aeW aIW [aJo, aLZ, atS, aDW] Tryz.func65 (fun x => arT x.1) fun _ y _ h => aDt _ y h
def aQO := okT 67 (P1 tF) (P1 (P2 (P2 .bool tL) (P2 .bool tL))) as7 aQC [aLZ] Tryz.func67 (fun x => aLy x.1) fun _ y _ h => aLz _ y h
def aJj := okT 74 (P1 tI) (P1 (P2 (P2 .bool tL) (P2 .bool tL))) af0 aIT [aAl] Tryz.func74 (fun x => aAa x.1) fun _ y _ h => aDr _ y h
def aJn := okT 82 (P2 (P2 .bool tL) (P2 .bool tL)) (P1 (P2 .bool tL)) aeX aI4 [atP, ajD] Tryz.func82 (fun x => aAd x.1 x.2.1) fun _ y _ h => aDC _ _ y h
def aJq := okT 127 (P2 (P2 .bool tL) (P2 .bool tL)) (P1 tI) anH aI8 [aAo] Tryz.func127 (fun x => aAf x.1 x.2.1) fun _ y _ h => aDG _ _ y h
def aJm := okT 73 (P2 (P2 (P2 .bool tL) (P2 .bool tL)) (P2 (P2 .bool tL) (P2 .bool tL))) (P1 tI) ajT aIZ [aJn, aJq] Tryz.func73 (fun x => aAc x.1 x.2.1) fun _ y _ h => aDv _ _ y h
def aO4 := okT 23 (P2 tB tF) (P2 .bool tI) anG aOI [aJk, aJl, aQO, aJj, aJm] Tryz.func23 (fun x => aHE x.1 x.2.1) fun _ y _ h => aIV _ _ y h
def o_CurveWithin := okT 7 (P2 (.pair (.int .u8) (P4 (.sl (.int .u16)) (.sl (.pair (.int .u8) (.pair (.int .i16) (P4 (.int .i16) (.int .i16) (.int .u8) (.int .u8))))) .bool .bool)) (.arr 3 (.int .i16))) (P1 .bool) ak5 aCY [aJs, aJi, aD3, aL3, aB0, aMa, aO4] Tryz.func7 (fun x => ak6 x.1 x.2.1) fun _ y hw h => ay6 _ _ (aKR hw) y h
end
end Go.Vs
