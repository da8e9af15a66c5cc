/-
  Contracts of the functions, out of their trees. Own work; no condition.
-/
import Derived.Test.YtakjojajnblpoaaGreatDoorClL8
import Derived.KernelRfl
set_option linter.unusedVariables false
set_option linter.unusedSimpArgs false
set_option maxRecDepth 1000000
namespace Go.Vs
open Go Go.Vg Go.Proofs
noncomputable section
def aK5 : OkC := ⟨212, _, aPJ⟩
def avQ : OkC := ⟨182, _, aC4⟩
def aQV : OkC := ⟨93, _, aPK⟩
def aQT : OkC := ⟨239, _, aPI⟩
def aFi : OkC := ⟨256, _, aC3⟩
def aQS : OkC := ⟨244, _, aPH⟩
def aPQ := okT 78 (P2 tL tL) (P1 .bool) axL aPy [] Tryz.func78 (fun x => aET x.1 x.2.1) fun _ y _ h => aKi _ _ y h
def aPP := okT 79 (P2 (.sl tS) (.sl tS)) (P1 .bool) axK aPx [] Tryz.func79 (fun x => aES x.1 x.2.1) fun _ y _ h => aKh _ _ y h
def aOc := okT 32 (P2 tC tC) (P1 .bool) aqH aOR [aPQ, aPP] Tryz.func32 (fun x => aB1 x.1 x.2.1) fun _ y _ h => aJn _ _ y h
def aKX := okT 33 (P2 tC tC) (P1 .bool) al3 aKz [] Tryz.func33 (fun x => au2 x.1 x.2.1) fun _ y _ h => aE2 _ _ y h
def arF := okT 117 (P3 tI tI tI) (P1 .bool) acA aJj [] Tryz.func117 (fun x => ar5 x.1 x.2.1 x.2.2.1) fun _ y _ h => aD7 _ _ _ y h
def ayK := okT 76 (P1 tL) (P1 .bool) aiO ayU [arF] Tryz.func76 (fun x => aiM x.1) fun _ y _ h => atZ _ y h
def aIF := okT 129 (P1 (P3 tS tI .bool)) (P1 .bool) afU aJc [arF] Tryz.func129 (fun x => arZ x.1) fun _ y _ h => aD0 _ y h
def arG := okT 77 (P1 tC) (P1 .bool) afX ar6 [aIF] Tryz.func77 (fun x => afN x.1) fun _ y _ h => aoJ _ y h
def aiZ := okT 29 (P1 tC) (P1 tI) ac8 aMD [ayK, arG] Tryz.func29 (fun x => aw3 x.1) fun _ y _ h => aGj _ y h
def aDj := okT 25 (P1 tC) tB agJ aMB [aiZ] Tryz.func25 (fun x => aw1 x.1) fun _ y _ h => aGh _ y h
def avO := okT 106 (P3 tI tI tI) (P1 .bool) ab0 aEZ [] Tryz.func106 (fun x => anS x.1 x.2.1 x.2.2.1) fun _ y _ h => aA0 _ _ _ y h
def avP := okT 126 tB (P1 .bool) abB aE1 [] Tryz.func126 (fun x => anT x.1 x.2.1) fun _ y _ h => aA3 _ _ y h
def aC8 := okT 107 (P1 tS) (P1 .bool) ah4 aCH [avO, avP] Tryz.func107 (fun x => ak7 x.1) fun _ y _ h => ayF _ y h
def arD := okT 49 (P1 tC) (P1 .bool) aeP aH3 [avO, aC8] Tryz.func49 (fun x => aqZ x.1) fun _ y _ h => aCJ _ y h
def aIo := okT 28 (P1 tC) tB ai9 aH2 [arD] Tryz.func28 (fun x => aqY x.1) fun _ y _ h => aCI _ y h
def aIr := okT 30 (P1 tC) (P1 tI) ajC aH6 [arD] Tryz.func30 (fun x => aq1 x.1) fun _ y _ h => aCM _ y h
def aLa := okT 24 (P1 tC) (P1 .bool) al7 aMC [aiZ] Tryz.func24 (fun x => aw2 x.1) fun _ y _ h => aGi _ y h
def aIp := okT 31 (P1 tC) (P1 .bool) ajA aH4 [arD] Tryz.func31 (fun x => aq0 x.1) fun _ y _ h => aCK _ y h
def aK3 := okT 34 .unit (P1 tC) aqA aLv [] Tryz.func34 (fun x => l9_root_t) fun _ y _ h => aFA y h
def ao4 := okT 130 (P1 tL) (P1 tL) acJ aNL [] Tryz.func130 (fun x => aGT x.1) fun _ y _ h => aIc _ y h
end
set_option maxRecDepth 1000000
open Go Go.Vg Go.Proofs
noncomputable section
def ao3 := okT 80 (P2 .bool tL) (P1 (P2 .bool tL)) ab1 aKC [ao4] Tryz.func80 (fun x => aCR x.1 x.2.1) fun _ y _ h => aE6 _ _ y h
def asY := okT 40 (P1 tI) (P1 (P2 .bool tL)) acC aCW [ao3] Tryz.func40 (fun x => asV x.1) fun _ y _ h => ayH _ y h
def aDa := okT 85 (P1 (P2 .bool tL)) (P1 (P2 .bool tL)) ajE aKE [ao3] Tryz.func85 (fun x => aCT x.1) fun _ y _ h => aE8 _ y h
def aC9 := okT 134 (P2 tL tL) (P1 tL) acB aCO [ao4] Tryz.func134 (fun x => aeL x.1 x.2.1) fun _ y _ h => ayG _ _ y h
def azR := okT 132 (P2 tL tL) (P1 tI) afQ aIb [] Tryz.func132 (fun x => aq3 x.1 x.2.1) fun _ y _ h => aCQ _ _ y h
def alE := okT 133 (P2 tL tL) (P1 tL) aa9 avB [ao4] Tryz.func133 (fun x => alC x.1 x.2.1) fun _ y _ h => aq5 _ _ y h
def aKY := okT 171 (P2 tL tI) (P2 tL tI) ap4 aKB [ao4] Tryz.func171 (fun x => au9 x.1 x.2.1) fun _ y _ h => aE5 _ _ y h
def azQ := okT 135 (P2 tL tL) (P2 tL tL) ajD aIa [aC9, ao4, azR, alE, aKY] Tryz.func135 (fun x => aq2 x.1 x.2.1) fun _ y _ h => aCP _ _ y h
def aDc := okT 86 (P2 (P2 .bool tL) (P2 .bool tL)) (P1 (P2 .bool tL)) agI aCX [azQ] Tryz.func86 (fun x => asW x.1 x.2.1) fun _ y _ h => ayI _ _ y h
def aN4 := okT 131 (P2 tL tL) (P1 tL) auH aNK [] Tryz.func131 (fun x => aGS x.1 x.2.1) fun _ y _ h => aH9 _ _ y h
def aDb := okT 81 (P2 (P2 .bool tL) (P2 .bool tL)) (P1 (P2 .bool tL)) ahH aKG [aN4, ao3, azR, alE] Tryz.func81 (fun x => avD x.1 x.2.1) fun _ y _ h => aFa _ _ y h
def aIu := okT 136 (P2 (P2 .bool tL) (P2 .bool tL)) (P1 (P2 .bool tL)) amX aIf [aDa, aDb] Tryz.func136 (fun x => azL x.1 x.2.1) fun _ y _ h => aCV _ _ y h
def aIt := okT 87 (P2 (P2 .bool tL) (P2 .bool tL)) (P2 (P2 .bool tL) (P2 .bool tL)) afR aId [azQ, ao3, aDb, asY, aIu] Tryz.func87 (fun x => aq7 x.1 x.2.1) fun _ y _ h => aCU _ _ y h
def aFl := okT 42 (P2 (P2 .bool tL) (P2 .bool tL)) (P1 (P2 (P2 .bool tL) (P2 .bool tL))) akL aE4 [aDa, aDc, aIt] Tryz.func42 (fun x => anU x.1 x.2.1) fun _ y _ h => aA4 _ _ y h
def aIs := okT 88 tB (P1 (P2 (P2 .bool tL) (P2 .bool tL))) amW aH7 [asY, aFl] Tryz.func88 (fun x => azJ x.1 x.2.1) fun _ y _ h => aCN _ _ y h
def aKZ := okT 170 (P1 tI) (P1 .str) ap5 aKD [] Tryz.func170 (fun x => avA x.1) fun _ y _ h => aE7 _ y h
def aK0 := okT 125 (P1 (P2 .bool tL)) (P1 .str) ap6 aKF [aKZ] Tryz.func125 (fun x => avC x.1) fun _ y _ h => aE9 _ y h
def aN5 := okT 84 (P1 (P2 .bool tL)) (P2 .str tI) ap7 aNM [aK0] Tryz.func84 (fun x => aGU x.1) fun _ y _ h => aIe _ y h
def aN3 := okT 41 (P1 (P2 (P2 .bool tL) (P2 .bool tL))) (P2 tF tI) auG aNJ [aN5] Tryz.func41 (fun x => aGR x.1) fun _ y _ h => aH8 _ y h
def aPR := okT 43 tB (P2 tF tI) axM aPE [aIs, aN3] Tryz.func43 (fun x => aE3 x.1 x.2.1) fun _ y _ h => aKA _ _ y h
end
set_option maxRecDepth 1000000
open Go Go.Vg Go.Proofs
noncomputable section
def aPS := okT 13 tB (P1 tF) adA aP5 [aPR] Tryz.func13 (fun x => aLw x.1 x.2.1) fun _ y _ h => aLx _ _ y h
def alD := okT 233 (P1 tM) (P1 tM) aM2 aJV [] Tryz.func233 (fun x => av1 x.1) fun _ y _ h => av2 _ y h
def aIn := okT 205 (P1 .str) (P1 tM) ai8 aHR [alD] Tryz.func205 (fun x => arW x.1) fun _ y _ h => atC _ y h
def avT := okT 173 tF (P2 .str .bool) acX aF8 [] Tryz.func173 (fun x => aoE x.1 x.2.1) fun _ y hw h => aBP _ _ (zz hw.1 zf) y h
def at6 := okT 172 (P1 .str) (P2 (P2 tM .bool) .bool) ae7 aNg [aIn, avT] Tryz.func172 (fun x => aAG x.1) fun _ y _ h => aHP _ y h
def avN := okT 137 (P1 .str) (P1 tI) ae9 aJ5 [at6] Tryz.func137 (fun x => auM x.1) fun _ y _ h => aEI _ y h
def alF := okT 207 (P1 tM) (P1 tM) acD aLM [] Tryz.func207 (fun x => av1 x.1) fun _ y _ h => av2 _ y h
def aIE := okT 174 (P1 .str) (P1 tM) agX aI4 [alF] Tryz.func174 (fun x => arW x.1) fun _ y _ h => atC _ y h
def azT := okT 138 (P1 .str) (P1 (P2 tM .bool)) afS aI3 [avT, aIE] Tryz.func138 (fun x => aAd x.1) fun _ y _ h => aDP _ y h
def ag4 := okT 152 (P1 tM) (P1 .bool) ac6 aLK [] Tryz.func152 (fun x => apE x.1) fun _ y _ h => av0 _ y h
def avS := okT 139 (P1 (P2 tM .bool)) (P1 tI) ajJ aLT [ag4] Tryz.func139 (fun x => awB x.1) fun _ y _ h => aFR _ y h
def ajW := okT 176 (P1 (.int .u64)) (P1 tM) abM aBB [] Tryz.func176 (fun x => aj6 x.1) fun _ y _ h => alO _ y h
def aIB := okT 175 (P1 tM) (P1 (.int .u64)) am1 aIU [] Tryz.func175 (fun x => az9 x.1) fun _ y _ h => aDI _ y h
def aIC := okT 208 (P2 tM (.int .u32)) (P2 tM (.int .u32)) ajG aIV [alF] Tryz.func208 (fun x => amM x.1 x.2.1) fun _ y _ h => as7 _ _ y h
def alG := okT 141 (P2 tM tM) (P1 tI) adN aDL [] Tryz.func141 (fun x => ahX x.1 x.2.1) fun _ y _ h => anE _ _ y h
def aiY := okT 180 (P2 tM tM) (P1 tM) ab9 aIT [alF] Tryz.func180 (fun x => amL x.1 x.2.1) fun _ y _ h => as6 _ _ y h
def ag5 := okT 177 (P2 tM tM) (P2 tM tM) abC aFM [alF, aIC, alG, ajW, aiY] Tryz.func177 (fun x => aj2 x.1 x.2.1) fun _ y _ h => apH _ _ y h
def at7 := okT 140 (P2 tM tM) (P1 tM) agT aOz [ajW, aIB, ag5, ag4] Tryz.func140 (fun x => aBu x.1 x.2.1) fun _ y _ h => aIX _ _ y h
def agP := okT 89 (P1 tF) (P2 (P2 (P2 tM .bool) tM) .bool) abL aOB [avN, azT, avS, at7, alG] Tryz.func89 (fun x => aBA x.1) fun _ y _ h => aI2 _ y h
def aK9 := okT 44 (P1 tF) (P1 tI) aqG aL0 [agP] Tryz.func44 (fun x => awE x.1) fun _ y _ h => aFZ _ y h
end
set_option maxRecDepth 1000000
open Go Go.Vg Go.Proofs
noncomputable section
def aPd := okT 194 (P1 tI) (P1 .str) atL aQE [aK5] Tryz.func194 (fun x => aO5 x.1) fun _ y _ h => aNk _ y h
def ac9 := okT 179 (P2 tM .bool) (P1 (P2 tM .bool)) aa8 aI1 [ag4] Tryz.func179 (fun x => aAc x.1 x.2.1) fun _ y _ h => aDO _ _ y h
def aFq := okT 220 (P2 (P2 tM .bool) tM) (P1 (P2 (P2 tM .bool) tM)) akN aFT [at7, ag5, ac9] Tryz.func220 (fun x => aoB x.1 x.2.1) fun _ y _ h => aBz _ _ y h
def aFp := okT 191 (P1 tM) (P1 tI) ahJ aFL [ag4, aK5] Tryz.func191 (fun x => aj1 x.1) fun _ y _ h => apG _ y h
def avR := okT 146 (P1 (P2 tM .bool)) (P1 .str) ajI aLS [avQ] Tryz.func146 (fun x => awA x.1) fun _ y _ h => aFQ _ y h
def aiX := okT 154 (P1 (P2 (P2 tM .bool) tM)) (P2 tF tI) aeQ aIN [aFp, avR, avQ] Tryz.func154 (fun x => arQ x.1) fun _ y _ h => aDC _ y h
def aOb := okT 193 tF (P2 tF tI) aqF aOF [avN, azT, ag4, ac9, aFq, aiX] Tryz.func193 (fun x => aBE x.1 x.2.1) fun _ y _ h => aI7 _ _ y h
def aPe := okT 157 tB (P2 tF tI) al6 aQ9 [aPd, aOb] Tryz.func157 (fun x => aPh x.1 x.2.1) fun _ y _ h => aOD _ _ y h
def at8 := okT 100 tB (P1 tF) abW aOP [aPe] Tryz.func100 (fun x => aHr x.1 x.2.1) fun _ y _ h => aJk _ _ y h
def ajX := okT 91 (P1 tI) (P1 tF) aaF aGg [at8] Tryz.func91 (fun x => awX x.1) fun _ y _ h => aBY _ y h
def anZ := okT 189 (P2 (P2 tM .bool) tM) (P1 (P2 tM .bool)) adO aFS [aiY, ac9] Tryz.func189 (fun x => an9 x.1 x.2.1) fun _ y _ h => aBx _ _ y h
def ao5 := okT 192 (P1 (P2 tM .bool)) (P1 (P2 tM .bool)) afB aBy [ac9] Tryz.func192 (fun x => apK x.1) fun _ y _ h => awC _ y h
def aDg := okT 181 (P2 tM tM) (P1 tM) al5 aLN [] Tryz.func181 (fun x => apF x.1 x.2.1) fun _ y _ h => av5 _ _ y h
def aID := okT 219 (P2 tM tM) (P1 tM) ajH aIW [alF] Tryz.func219 (fun x => amN x.1 x.2.1) fun _ y _ h => as8 _ _ y h
def aBe := okT 190 (P2 (P2 tM .bool) (P2 tM .bool)) (P1 (P2 tM .bool)) am2 aOA [aDg, ac9, alG, aID] Tryz.func190 (fun x => aBw x.1 x.2.1) fun _ y _ h => aIZ _ _ y h
def aIA := okT 156 (P2 (P2 (P2 tM .bool) tM) (P2 (P2 tM .bool) tM)) (P1 tI) am0 aIP [anZ, ao5, aBe, avS] Tryz.func156 (fun x => arR x.1 x.2.1) fun _ y _ h => aDE _ _ y h
def aFs := okT 99 (P2 tF tF) tB ahL aQi [agP, aIA] Tryz.func99 (fun x => aFY x.1 x.2.1) fun _ y _ h => aLZ _ _ y h
def ao6 := okT 48 (P1 tF) (P1 tF) acY aB0 [ajX, aFs] Tryz.func48 (fun x => akC x.1) fun _ y _ h => awY _ y h
def aG5 := okT 144 (P2 (P2 (P2 tM .bool) tM) (P2 (P2 tM .bool) tM)) (P1 (P2 (P2 tM .bool) tM)) aqC aOx [at7, ag5, aiY, ac9] Tryz.func144 (fun x => aBr x.1 x.2.1) fun _ y _ h => aIQ _ _ y h
def aFr := okT 90 (P2 tF tF) (P2 tF tI) ad4 aQg [agP, aG5, aiX] Tryz.func90 (fun x => aFV x.1 x.2.1) fun _ y _ h => aLW _ _ y h
end
set_option maxRecDepth 1000000
open Go Go.Vg Go.Proofs
noncomputable section
def aG6 := okT 151 (P2 (P2 (P2 tM .bool) tM) (P2 (P2 tM .bool) tM)) (P1 (P2 (P2 tM .bool) tM)) aqD aOy [at7, ag5, anZ, aBe, ac9, aiY] Tryz.func151 (fun x => aBt x.1 x.2.1) fun _ y _ h => aIR _ _ y h
def aFt := okT 97 (P2 tF tF) (P2 tF tI) aeH aQj [agP, aG6, aiX] Tryz.func97 (fun x => aF0 x.1 x.2.1) fun _ y _ h => aL1 _ _ y h
def aDf := okT 153 (P1 (P2 (P2 tM .bool) tM)) (P1 (P2 (P2 tM .bool) tM)) ah6 aDG [ac9] Tryz.func153 (fun x => as4 x.1) fun _ y _ h => ayN _ y h
def aK8 := okT 98 (P2 tF tF) (P2 tF tI) afC aQh [agP, ag4, aDf, aG5, aiX] Tryz.func98 (fun x => aFX x.1 x.2.1) fun _ y _ h => aLY _ _ y h
def aDh := okT 101 (P2 (P3 tS tI .bool) tF) (P2 tF tI) ajM aMn [ajX, aFr, aFt, aK8] Tryz.func101 (fun x => awL x.1 x.2.1) fun _ y _ h => aGb _ _ y h
def aN9 := okT 102 (P1 tF) tB aqE aOC [agP, avS] Tryz.func102 (fun x => aBC x.1) fun _ y _ h => aI5 _ y h
def aDi := okT 47 (P2 (P1 tC) tF) (P2 tF tI) ah7 aD6 [at8, aFs, aFr, aFt, ao6, aDh, aN9, ajX] Tryz.func47 (fun x => alU x.1 x.2.1) fun _ y _ h => ayT _ _ y h
def azS := okT 145 (P2 (P2 tM .bool) tM) (P1 (P2 tM .bool)) ajK aI0 [ag5, ag4, aDg, ac9] Tryz.func145 (fun x => arV x.1 x.2.1) fun _ y _ h => aDN _ _ y h
def aK7 := okT 92 (P1 tF) (P2 .str tI) ajL aLX [agP, azS, avR] Tryz.func92 (fun x => awD x.1) fun _ y _ h => aFW _ y h
def aDe := okT 188 (P1 (P2 (P2 tM .bool) tM)) (P1 (P2 (P2 tM .bool) tM)) ah5 aDF [ao5] Tryz.func188 (fun x => as3 x.1) fun _ y _ h => ayM _ y h
def aN8 := okT 150 (P2 (P2 (P2 tM .bool) tM) (P2 (P2 tM .bool) tM)) (P1 (P2 (P2 tM .bool) tM)) auI aOw [aDe, aG6] Tryz.func150 (fun x => aHg x.1 x.2.1) fun _ y _ h => aIO _ _ y h
def aPT := okT 96 (P2 tF tF) (P2 tF tI) afT aQf [agP, aN8, aiX] Tryz.func96 (fun x => aFU x.1 x.2.1) fun _ y _ h => aLV _ _ y h
def azU := okT 46 (P2 (P1 tC) tF) (P2 tF tI) afV aJg [ajX, aFr, aK7, aQV, aPT, aFt, aK8] Tryz.func46 (fun x => ar2 x.1 x.2.1) fun _ y _ h => aD5 _ _ y h
def aBf := okT 45 (P2 (P1 tC) tF) (P2 tF tI) agU aBX [] Tryz.func45 (fun x => apR x.1 x.2.1) fun _ y _ h => awW _ _ y h
def aG8 := okT 14 (P2 tC tF) (P2 tF tI) acZ aOS [aiZ, aK9, ao6, aDi, azU, aBf] Tryz.func14 (fun x => aB2 x.1 x.2.1) fun _ y _ h => aJo _ _ y h
def ag6 := okT 115 tB (P1 .bool) adQ aMN [] Tryz.func115 (fun x => aw8 x.1 x.2.1) fun _ y _ h => aGm _ _ y h
def aBg := okT 116 tB (P2 tB tI) ah9 aOT [ag6] Tryz.func116 (fun x => aB5 x.1 x.2.1) fun _ y _ h => aJx _ _ y h
def aDl := okT 55 (P3 tB tI tI) (P2 tB tI) ajN aMQ [ag6, aBg] Tryz.func55 (fun x => aw9 x.1 x.2.1 x.2.2.1) fun _ y _ h => aGo _ _ _ y h
def aK6 := okT 222 (P2 (P2 (P2 tM .bool) tM) tM) (P1 (P2 tM .bool)) aqB aLH [aiY, anZ, ac9, aBe, azS] Tryz.func222 (fun x => avZ x.1 x.2.1) fun _ y _ h => aFK _ _ y h
def aKW := okT 221 (P1 .str) tB akK aPo [avN, aQT] Tryz.func221 (fun x => aEG x.1) fun _ y _ h => aJ3 _ y h
end
set_option maxRecDepth 1000000
open Go Go.Vg Go.Proofs
noncomputable section
def aOa := okT 196 (P2 tF tI) tB akO aOE [agP, ajW, aK6, avR, aKW] Tryz.func196 (fun x => aBD x.1 x.2.1) fun _ y _ h => aI6 _ _ y h
def azW := okT 160 (P1 tF) (P2 tB tI) afY aJz [aOa, aPe, aFs, ag6, aBg] Tryz.func160 (fun x => asA x.1) fun _ y _ h => aEh _ y h
def aPN := okT 251 (P1 tL) (P1 tI) axI aPv [] Tryz.func251 (fun x => aEQ x.1) fun _ y _ h => aKf _ y h
def aLc := okT 231 (P1 tL) (P1 tI) axO aMO [aPN] Tryz.func231 (fun x => aEf x.1) fun _ y _ h => aGn _ y h
def aPO := okT 252 (P1 tL) (P1 tI) axJ aPw [] Tryz.func252 (fun x => aER x.1) fun _ y _ h => aKg _ y h
def aDk := okT 232 (P1 tL) (P1 tI) al8 aEg [aPO] Tryz.func232 (fun x => atJ x.1) fun _ y _ h => ayW _ y h
def aOd := okT 163 (P2 tB tB) (P2 tB tI) aqI aOV [ag6, aLc, aDk] Tryz.func163 (fun x => aB6 x.1 x.2.1) fun _ y _ h => aJy _ _ y h
def aG7 := okT 120 (P1 (.sl tB)) (P2 tB tI) ah8 aOQ [aOd] Tryz.func120 (fun x => aBZ x.1) fun _ y _ h => aJl _ y h
def azV := okT 118 (P1 (.sl tF)) (P2 tB tI) aeR aJm [azW, aG7] Tryz.func118 (fun x => ar7 x.1) fun _ y _ h => aD9 _ y h
def aLd := okT 197 (P1 tB) (P1 tI) aqJ aMR [ag6] Tryz.func197 (fun x => axA x.1) fun _ y _ h => aGp _ y h
def aIv := okT 198 (P1 tB) (P1 .bool) asG aIi [] Tryz.func198 (fun x => aq9 x.1) fun _ y _ h => aC1 _ y h
def amG := okT 257 (P2 tM tM) (P1 tM) ai6 aHL [alD] Tryz.func257 (fun x => amL x.1 x.2.1) fun _ y _ h => as6 _ _ y h
def azP := okT 242 (P2 tM tI) (P1 tM) ai7 aHN [amG] Tryz.func242 (fun x => ay1 x.1 x.2.1) fun _ y _ h => aCr _ _ y h
def ao0 := okT 246 (P1 tM) (P1 .bool) ahF aJU [] Tryz.func246 (fun x => apE x.1) fun _ y _ h => av0 _ y h
def aG4 := okT 241 (P2 tM .bool) (P1 (P2 tM .bool)) ah3 aQD [ao0] Tryz.func241 (fun x => aO4 x.1 x.2.1) fun _ y _ h => aNi _ _ y h
def avL := okT 255 (P1 tM) (P1 tI) akG aEA [ao0, aK5] Tryz.func255 (fun x => aj1 x.1) fun _ y _ h => apG _ y h
def ao1 := okT 240 (P1 (P2 tM .bool)) (P2 .str tI) acU aJZ [avL, aFi] Tryz.func240 (fun x => auL x.1) fun _ y _ h => aEC _ y h
def aKV := okT 224 (P2 .str tI) (P2 .str tI) al2 aPm [at6, azP, aG4, ao1] Tryz.func224 (fun x => aEE x.1 x.2.1) fun _ y _ h => aJ1 _ _ y h
def aFm := okT 226 (P1 tI) (P1 .str) ahI aFf [aQS] Tryz.func226 (fun x => anW x.1) fun _ y _ h => aA9 _ y h
def aG3 := okT 245 tF (P3 (P2 tM .bool) (P2 tM .bool) tI) ae8 aNh [at6] Tryz.func245 (fun x => aAH x.1 x.2.1) fun _ y _ h => aHQ _ _ y h
end
set_option maxRecDepth 1000000
open Go Go.Vg Go.Proofs
noncomputable section
def aC6 := okT 260 (P2 (P2 tM .bool) (P2 tM .bool)) (P1 (P2 tM .bool)) ah2 aCp [amG, aG4] Tryz.func260 (fun x => akX x.1 x.2.1) fun _ y _ h => ax9 _ _ y h
def aPL := okT 225 tF (P2 .str tI) asE aPn [aG3, aC6, ao1] Tryz.func225 (fun x => aEF x.1 x.2.1) fun _ y _ h => aJ2 _ _ y h
def azO := okT 267 (P2 tM (.int .u32)) (P2 tM (.int .u32)) asC aHM [alD] Tryz.func267 (fun x => amM x.1 x.2.1) fun _ y _ h => as7 _ _ y h
def asX := okT 266 (P2 tM tM) (P1 tI) al1 aCs [] Tryz.func266 (fun x => ahX x.1 x.2.1) fun _ y _ h => anE _ _ y h
def ao2 := okT 268 (P1 (.int .u64)) (P1 tM) agS aAI [] Tryz.func268 (fun x => aj6 x.1) fun _ y _ h => alO _ y h
def avM := okT 247 (P2 tM tM) (P2 tM tM) akH aEB [alD, azO, asX, ao2, amG] Tryz.func247 (fun x => aj2 x.1 x.2.1) fun _ y _ h => apH _ _ y h
def aC7 := okT 248 (P2 tM tM) (P1 tM) ap2 aJX [] Tryz.func248 (fun x => apF x.1 x.2.1) fun _ y _ h => av5 _ _ y h
def aFj := okT 281 (P1 tI) (P1 tM) akJ aED [] Tryz.func281 (fun x => anO x.1) fun _ y _ h => aAF _ y h
def aKU := okT 270 (P2 tM tI) (P1 tM) ap1 aJW [azP, avM, ao2, amG, aC7, azO, asX, ao0, avL, aFj] Tryz.func270 (fun x => aCq x.1 x.2.1) fun _ y _ h => aEz _ _ y h
def aN2 := okT 250 (P2 .str tI) (P2 .str tI) ap3 aNj [at6, aKU, aG4, ao1] Tryz.func250 (fun x => aAJ x.1 x.2.1) fun _ y _ h => aHS _ _ y h
def aN7 := okT 228 (P2 .str tI) (P3 .str .bool tI) ap9 aNW [aN2, aKV] Tryz.func228 (fun x => aBa x.1 x.2.1) fun _ y _ h => aIk _ _ y h
def aFn := okT 229 (P2 .str .bool) tB acG aFg [aKW] Tryz.func229 (fun x => anX x.1 x.2.1) fun _ y _ h => aBb _ _ y h
def aIm := okT 249 (P2 tM tM) (P1 tM) asD aHO [alD] Tryz.func249 (fun x => amN x.1 x.2.1) fun _ y _ h => as8 _ _ y h
def aPM := okT 227 tF (P3 .str .str tI) asF aPp [aG3, ao0, avM, aC7, aIm, aG4, ao1] Tryz.func227 (fun x => aEH x.1 x.2.1) fun _ y _ h => aJ4 _ _ y h
def aN6 := okT 200 (P3 (P1 tB) tI .bool) tB ap8 aNO [aPd, aKV, aFm, aPL, aN7, aFn, aPM] Tryz.func200 (fun x => aA6 x.1 x.2.1 x.2.2.1) fun _ y _ h => aIh _ _ _ y h
def aQU := okT 223 tB (P2 tB tI) aHw aRe [ag6] Tryz.func223 (fun x => aMP x.1 x.2.1) fun _ y _ h => aOU _ _ y h
def aK1 := okT 161 (P3 tB tI tI) (P2 tB tI) axN aKL [aLd, aIv, aN6, aQU] Tryz.func161 (fun x => avI x.1 x.2.1 x.2.2.1) fun _ y _ h => aFh _ _ _ y h
def aPU := okT 162 (P2 tB tB) (P2 tB tI) aGu aQv [ag6, aBg] Tryz.func162 (fun x => aGq x.1 x.2.1) fun _ y _ h => aMS _ _ y h
def aFu := okT 119 (P3 (P3 tS tI .bool) tI tI) (P2 tB tI) adP aF9 [at8, aDh, azV, aK1, azW, aPU, aDl] Tryz.func119 (fun x => aoF x.1 x.2.1 x.2.2.1) fun _ y _ h => aBQ _ _ _ y h
def atU := okT 58 (P2 (P1 tC) tB) (P2 tB tI) ac7 atY [aFu, aG7] Tryz.func58 (fun x => agL x.1 x.2.1) fun _ y _ h => apV _ _ y h
end
set_option maxRecDepth 1000000
open Go Go.Vg Go.Proofs
noncomputable section
def ayJ := okT 57 (P2 (P1 tC) tB) (P2 tB tI) ad9 ayS [arF, at8, azV, azU] Tryz.func57 (fun x => aiL x.1 x.2.1) fun _ y _ h => atX _ _ y h
def arE := okT 56 (P2 (P1 tC) tB) (P2 tB tI) afW ar3 [] Tryz.func56 (fun x => ai2 x.1 x.2.1) fun _ y _ h => aoI _ _ y h
def aLb := okT 16 (P2 tC tB) (P2 tB tI) agK aME [aiZ, aDl, atU, ayJ, arE] Tryz.func16 (fun x => aw4 x.1 x.2.1) fun _ y _ h => aGk _ _ y h
def aK2 := okT 35 .unit (P1 tC) ajF aLu [] Tryz.func35 (fun x => l9_tent_t) fun _ y _ h => aFz y h
def aIx := okT 20 (P3 tC tF tF) (P1 .bool) adX aIK [aG8] Tryz.func20 (fun x => arM x.1 x.2.1 x.2.2.1) fun _ y _ h => aDt _ _ _ y h
def aIz := okT 36 .unit (P1 tC) amZ aIM [] Tryz.func36 (fun x => l9_steps_t) fun _ y _ h => aDv y h
def aIw := okT 10 .unit (P1 .bool) asH aIJ [aK3, aPS, aG8, aLb, aK2, aDj, aIx, aIz, aiZ] Tryz.func10 (fun x => l9_wakes_t) fun _ y _ h => aDs y h
def aBd := okT 69 (P1 (.pair (.int .u8) (P4 (.sl (.int .u16)) (.sl (.pair (.int .u8) (.pair (.int .i16) (P4 (.int .i16) (.int .i16) (.int .u8) (.int .u8))))) .bool .bool))) (P1 tC) afA aA2 [avP] Tryz.func69 (fun x => agO x.1) fun _ y _ h => au0 _ y h
def aFk := okT 70 (P1 (.pair (.int .u8) (P4 (.sl (.int .u16)) (.sl (.pair (.int .u8) (.pair (.int .i16) (P4 (.int .i16) (.int .i16) (.int .u8) (.int .u8))))) .bool .bool))) (P1 tC) ahG aE0 [] Tryz.func70 (fun x => ajS x.1) fun _ y _ h => aA1 _ y h
def aIq := okT 21 (P1 (.pair (.int .u8) (P4 (.sl (.int .u16)) (.sl (.pair (.int .u8) (.pair (.int .i16) (P4 (.int .i16) (.int .i16) (.int .u8) (.int .u8))))) .bool .bool))) (P1 tC) ajB aH5 [aBd, aFk] Tryz.func21 (fun x => amE x.1) fun _ y _ h => aCL _ y h
def aK4 := okT 37 (P2 (P3 (.int .u8) (.int .u8) tI) tC) (P1 tC) al4 aLy [] Tryz.func37 (fun x => alK x.1 x.2.1) fun _ y _ h => aFC _ _ y h
def aIy := okT 11 (P2 (.pair (.int .u8) (P4 (.sl (.int .u16)) (.sl (.pair (.int .u8) (.pair (.int .i16) (P4 (.int .i16) (.int .i16) (.int .u8) (.int .u8))))) .bool .bool)) (.arr 2 (.pair (.int .u8) (.pair (.int .u8) (.pair (.int .i64) .unit))))) (P1 (.arr 3 (.pair (.int .i64) (.pair (.sl (.int .i64)) (.pair (.sl (.pair (.int .i64) (.pair (.int .i64) (.pair (.int .i64) (.pair (.int .i64) (.pair (.int .i64) (.pair (.int .i64) .unit))))))) .unit))))) amY aIL [aIq, aK4] Tryz.func11 (fun x => ai0 x.1 x.2.1) fun _ y _ h => aDu _ _ y h
def aFo := okT 27 (P1 tC) (P1 tC) akM aFB [] Tryz.func27 (fun x => an2 x.1) fun _ y _ h => aBj _ y h
def o_CurveChecks := okT 9 (P3 tC (.pair (.int .u8) (P4 (.sl (.int .u16)) (.sl (.pair (.int .u8) (.pair (.int .i16) (P4 (.int .i16) (.int .i16) (.int .u8) (.int .u8))))) .bool .bool)) (.arr 2 (.pair (.int .u8) (.pair (.int .u8) (.pair (.int .i64) .unit))))) (P1 .bool) akP aCk [aOc, aKX, aDj, aIo, aiZ, aIr, aLa, aIp, aIw, aIy, aFo] Tryz.func9 (fun x => akQ x.1 x.2.1 x.2.2.1) fun _ y hw h => ax3 _ _ _ (aJY hw) y h
end
end Go.Vs
