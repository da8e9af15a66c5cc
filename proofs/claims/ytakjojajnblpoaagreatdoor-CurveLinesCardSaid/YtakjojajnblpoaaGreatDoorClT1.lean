/-
  Contracts of the functions, out of their trees. Own work; no condition.
-/
import Derived.Test.YtakjojajnblpoaaGreatDoorClL8
import Derived.KernelRfl
set_option linter.unusedVariables false
set_option linter.unusedSimpArgs false
set_option maxRecDepth 1000000
namespace Go.Vs
open Go Go.Vg Go.Proofs
noncomputable section
def aKY : OkC := ⟨212, _, aPA⟩
def avJ : OkC := ⟨182, _, aCU⟩
def aQC : OkC := ⟨93, _, aPB⟩
def aQA : OkC := ⟨239, _, aPz⟩
def aE7 : OkC := ⟨256, _, aCT⟩
def aQz : OkC := ⟨244, _, aPy⟩
def ao3 := okT 130 (P1 tL) (P1 tL) acL aNz [] Tryz.func130 (fun x => aGI x.1) fun _ y _ h => aHX _ y h
def aiZ := okT 80 (P2 .bool tL) (P1 (P2 .bool tL)) abF aKt [ao3] Tryz.func80 (fun x => aCG x.1 x.2.1) fun _ y _ h => aET _ _ y h
def asV := okT 40 (P1 tI) (P1 (P2 .bool tL)) acD aCN [aiZ] Tryz.func40 (fun x => asP x.1) fun _ y _ h => ax9 _ y h
def aCY := okT 85 (P1 (P2 .bool tL)) (P1 (P2 .bool tL)) ajE aKv [aiZ] Tryz.func85 (fun x => aCI x.1) fun _ y _ h => aEV _ y h
def asU := okT 134 (P2 tL tL) (P1 tL) abT aCD [ao3] Tryz.func134 (fun x => aeS x.1 x.2.1) fun _ y _ h => ax8 _ _ y h
def azJ := okT 132 (P2 tL tL) (P1 tI) afU aHW [] Tryz.func132 (fun x => aq0 x.1 x.2.1) fun _ y _ h => aCF _ _ y h
def ak8 := okT 133 (P2 tL tL) (P1 tL) abA au4 [ao3] Tryz.func133 (fun x => ak6 x.1 x.2.1) fun _ y _ h => aq2 _ _ y h
def aKR := okT 171 (P2 tL tI) (P2 tL tI) ap7 aKs [ao3] Tryz.func171 (fun x => au2 x.1 x.2.1) fun _ y _ h => aES _ _ y h
def azI := okT 135 (P2 tL tL) (P2 tL tL) ajD aHV [asU, ao3, azJ, ak8, aKR] Tryz.func135 (fun x => aqZ x.1 x.2.1) fun _ y _ h => aCE _ _ y h
def asW := okT 86 (P2 (P2 .bool tL) (P2 .bool tL)) (P1 (P2 .bool tL)) aeV aCO [azI] Tryz.func86 (fun x => asQ x.1 x.2.1) fun _ y _ h => ayA _ _ y h
def aNT := okT 131 (P2 tL tL) (P1 tL) auD aNx [] Tryz.func131 (fun x => aGH x.1 x.2.1) fun _ y _ h => aHU _ _ y h
def avI := okT 81 (P2 (P2 .bool tL) (P2 .bool tL)) (P1 (P2 .bool tL)) agL aKx [aNT, aiZ, azJ, ak8] Tryz.func81 (fun x => au8 x.1 x.2.1) fun _ y _ h => aEY _ _ y h
def aIg := okT 136 (P2 (P2 .bool tL) (P2 .bool tL)) (P1 (P2 .bool tL)) amY aH2 [aCY, avI] Tryz.func136 (fun x => azC x.1 x.2.1) fun _ y _ h => aCM _ _ y h
def aIf := okT 87 (P2 (P2 .bool tL) (P2 .bool tL)) (P2 (P2 .bool tL) (P2 .bool tL)) afW aH0 [azI, aiZ, avI, asV, aIg] Tryz.func87 (fun x => aq5 x.1 x.2.1) fun _ y _ h => aCL _ _ y h
def anW := okT 42 (P2 (P2 .bool tL) (P2 .bool tL)) (P1 (P2 (P2 .bool tL) (P2 .bool tL))) afT aER [aCY, asW, aIf] Tryz.func42 (fun x => anS x.1 x.2.1) fun _ y _ h => aAT _ _ y h
def aId := okT 88 tB (P1 (P2 (P2 .bool tL) (P2 .bool tL))) amW aHQ [asV, anW] Tryz.func88 (fun x => ay9 x.1 x.2.1) fun _ y _ h => aCB _ _ y h
def aKS := okT 170 (P1 tI) (P1 .str) ap8 aKu [] Tryz.func170 (fun x => au3 x.1) fun _ y _ h => aEU _ y h
def aCZ := okT 125 (P1 (P2 .bool tL)) (P1 .str) alT aKw [aKS] Tryz.func125 (fun x => au5 x.1) fun _ y _ h => aEW _ y h
def aNU := okT 84 (P1 (P2 .bool tL)) (P2 .str tI) ap9 aNA [aCZ] Tryz.func84 (fun x => aGJ x.1) fun _ y _ h => aH1 _ y h
def aA5 := okT 41 (P1 (P2 (P2 .bool tL) (P2 .bool tL))) (P2 tF tI) amX aNu [aNU] Tryz.func41 (fun x => aGE x.1) fun _ y _ h => aHR _ y h
end
set_option maxRecDepth 1000000
open Go Go.Vg Go.Proofs
noncomputable section
def aPG := okT 43 tB (P2 tF tI) axH aPt [aId, aA5] Tryz.func43 (fun x => aEQ x.1 x.2.1) fun _ y _ h => aKp _ _ y h
def aKX := okT 13 tB (P1 tF) aa6 aPR [aPG] Tryz.func13 (fun x => aLq x.1 x.2.1) fun _ y _ h => aLr _ _ y h
def arC := okT 117 (P3 tI tI tI) (P1 .bool) acW aI5 [] Tryz.func117 (fun x => ar4 x.1 x.2.1 x.2.2.1) fun _ y _ h => aDX _ _ _ y h
def ayC := okT 76 (P1 tL) (P1 .bool) aiS ayM [arC] Tryz.func76 (fun x => aiR x.1) fun _ y _ h => atV _ y h
def aIp := okT 129 (P1 (P3 tS tI .bool)) (P1 .bool) afZ aIX [arC] Tryz.func129 (fun x => arY x.1) fun _ y _ h => aDP _ y h
def arD := okT 77 (P1 tC) (P1 .bool) af2 ar5 [aIp] Tryz.func77 (fun x => afP x.1) fun _ y _ h => aoG _ y h
def ao6 := okT 29 (P1 tC) (P1 tI) agM aMs [ayC, arD] Tryz.func29 (fun x => aw0 x.1) fun _ y _ h => aF6 _ y h
def ak7 := okT 233 (P1 tM) (P1 tM) aMO aJJ [] Tryz.func233 (fun x => avX x.1) fun _ y _ h => avY _ y h
def aIa := okT 205 (P1 .str) (P1 tM) ajB aHD [ak7] Tryz.func205 (fun x => arT x.1) fun _ y _ h => atA _ y h
def avM := okT 173 tF (P2 .str .bool) abX aFV [] Tryz.func173 (fun x => aoB x.1 x.2.1) fun _ y hw h => aBG _ _ (zD hw.1 zf) y h
def at3 := okT 172 (P1 .str) (P2 (P2 tM .bool) .bool) afB aM5 [aIa, avM] Tryz.func172 (fun x => aAw x.1) fun _ y _ h => aHB _ y h
def avH := okT 137 (P1 .str) (P1 tI) afD aJS [at3] Tryz.func137 (fun x => auJ x.1) fun _ y _ h => aEA _ y h
def ak9 := okT 207 (P1 tM) (P1 tM) acE aLD [] Tryz.func207 (fun x => avX x.1) fun _ y _ h => avY _ y h
def aIo := okT 174 (P1 .str) (P1 tM) ag2 aIP [ak9] Tryz.func174 (fun x => arT x.1) fun _ y _ h => atA _ y h
def azN := okT 138 (P1 .str) (P1 (P2 tM .bool)) afX aIO [avM, aIo] Tryz.func138 (fun x => az4 x.1) fun _ y _ h => aDF _ y h
def ag9 := okT 152 (P1 tM) (P1 .bool) ac6 aLC [] Tryz.func152 (fun x => apE x.1) fun _ y _ h => avW _ y h
def avL := okT 139 (P1 (P2 tM .bool)) (P1 tI) ajJ aLK [ag9] Tryz.func139 (fun x => av7 x.1) fun _ y _ h => aFE _ y h
def ajW := okT 176 (P1 (.int .u64)) (P1 tM) abN aBr [] Tryz.func176 (fun x => aj5 x.1) fun _ y _ h => alF _ y h
def aIl := okT 175 (P1 tM) (P1 (.int .u64)) am1 aIF [] Tryz.func175 (fun x => az0 x.1) fun _ y _ h => aDw _ y h
def aIm := okT 208 (P2 tM (.int .u32)) (P2 tM (.int .u32)) ajG aIG [ak9] Tryz.func208 (fun x => amL x.1 x.2.1) fun _ y _ h => as6 _ _ y h
end
set_option maxRecDepth 1000000
open Go Go.Vg Go.Proofs
noncomputable section
def alA := okT 141 (P2 tM tM) (P1 tI) adO aDz [] Tryz.func141 (fun x => ah3 x.1 x.2.1) fun _ y _ h => anH _ _ y h
def ai1 := okT 180 (P2 tM tM) (P1 tM) acB aIE [ak9] Tryz.func180 (fun x => amK x.1 x.2.1) fun _ y _ h => as5 _ _ y h
def ahA := okT 177 (P2 tM tM) (P2 tM tM) abC aFA [ak9, aIm, alA, ajW, ai1] Tryz.func177 (fun x => aj1 x.1 x.2.1) fun _ y _ h => apH _ _ y h
def at4 := okT 140 (P2 tM tM) (P1 tM) agX aOr [ajW, aIl, ahA, ag9] Tryz.func140 (fun x => aBk x.1 x.2.1) fun _ y _ h => aII _ _ y h
def agT := okT 89 (P1 tF) (P2 (P2 (P2 tM .bool) tM) .bool) abM aOt [avH, azN, avL, at4, alA] Tryz.func89 (fun x => aBq x.1) fun _ y _ h => aIN _ y h
def aK2 := okT 44 (P1 tF) (P1 tI) aqI aLR [agT] Tryz.func44 (fun x => awB x.1) fun _ y _ h => aFM _ y h
def aO5 := okT 194 (P1 tI) (P1 .str) atJ aQp [aKY] Tryz.func194 (fun x => aOW x.1) fun _ y _ h => aM9 _ y h
def ac8 := okT 179 (P2 tM .bool) (P1 (P2 tM .bool)) aa9 aIM [ag9] Tryz.func179 (fun x => az3 x.1 x.2.1) fun _ y _ h => aDE _ _ y h
def aFe := okT 220 (P2 (P2 tM .bool) tM) (P1 (P2 (P2 tM .bool) tM)) akM aFG [at4, ahA, ac8] Tryz.func220 (fun x => an8 x.1 x.2.1) fun _ y _ h => aBp _ _ y h
def aFd := okT 191 (P1 tM) (P1 tI) ahQ aFz [ag9, aKY] Tryz.func191 (fun x => aj0 x.1) fun _ y _ h => apG _ y h
def avK := okT 146 (P1 (P2 tM .bool)) (P1 .str) ajI aLJ [avJ] Tryz.func146 (fun x => av6 x.1) fun _ y _ h => aFD _ y h
def ai0 := okT 154 (P1 (P2 (P2 tM .bool) tM)) (P2 tF tI) aeW aIy [aFd, avK, avJ] Tryz.func154 (fun x => arN x.1) fun _ y _ h => aDr _ y h
def aN1 := okT 193 tF (P2 tF tI) aqH aOx [avH, azN, ag9, ac8, aFe, ai0] Tryz.func193 (fun x => aBv x.1 x.2.1) fun _ y _ h => aIS _ _ y h
def aO6 := okT 157 tB (P2 tF tI) alV aQQ [aO5, aN1] Tryz.func157 (fun x => aO9 x.1 x.2.1) fun _ y _ h => aOv _ _ y h
def at5 := okT 100 tB (P1 tF) abZ aOH [aO6] Tryz.func100 (fun x => aHe x.1 x.2.1) fun _ y _ h => aI6 _ _ y h
def ajX := okT 91 (P1 tI) (P1 tF) aaF aF4 [at5] Tryz.func91 (fun x => awV x.1) fun _ y _ h => aBO _ y h
def anX := okT 189 (P2 (P2 tM .bool) tM) (P1 (P2 tM .bool)) adP aFF [ai1, ac8] Tryz.func189 (fun x => an7 x.1 x.2.1) fun _ y _ h => aBn _ _ y h
def ao4 := okT 192 (P1 (P2 tM .bool)) (P1 (P2 tM .bool)) afF aBo [ac8] Tryz.func192 (fun x => apK x.1) fun _ y _ h => av8 _ y h
def aC2 := okT 181 (P2 tM tM) (P1 tM) alU aLE [] Tryz.func181 (fun x => apF x.1 x.2.1) fun _ y _ h => av1 _ _ y h
def aIn := okT 219 (P2 tM tM) (P1 tM) ajH aIH [ak9] Tryz.func219 (fun x => amM x.1 x.2.1) fun _ y _ h => as7 _ _ y h
end
set_option maxRecDepth 1000000
open Go Go.Vg Go.Proofs
noncomputable section
def aA6 := okT 190 (P2 (P2 tM .bool) (P2 tM .bool)) (P1 (P2 tM .bool)) am2 aOs [aC2, ac8, alA, aIn] Tryz.func190 (fun x => aBm x.1 x.2.1) fun _ y _ h => aIK _ _ y h
def aIk := okT 156 (P2 (P2 (P2 tM .bool) tM) (P2 (P2 tM .bool) tM)) (P1 tI) am0 aIA [anX, ao4, aA6, avL] Tryz.func156 (fun x => arO x.1 x.2.1) fun _ y _ h => aDs _ _ y h
def aFg := okT 99 (P2 tF tF) tB ahS aP4 [agT, aIk] Tryz.func99 (fun x => aFL x.1 x.2.1) fun _ y _ h => aLQ _ _ y h
def ao5 := okT 48 (P1 tF) (P1 tF) acY aBQ [ajX, aFg] Tryz.func48 (fun x => akC x.1) fun _ y _ h => awW _ y h
def aGU := okT 144 (P2 (P2 (P2 tM .bool) tM) (P2 (P2 tM .bool) tM)) (P1 (P2 (P2 tM .bool) tM)) aqE aOp [at4, ahA, ai1, ac8] Tryz.func144 (fun x => aBi x.1 x.2.1) fun _ y _ h => aIB _ _ y h
def aFf := okT 90 (P2 tF tF) (P2 tF tI) ac9 aP2 [agT, aGU, ai0] Tryz.func90 (fun x => aFI x.1 x.2.1) fun _ y _ h => aLN _ _ y h
def aGV := okT 151 (P2 (P2 (P2 tM .bool) tM) (P2 (P2 tM .bool) tM)) (P1 (P2 (P2 tM .bool) tM)) aqF aOq [at4, ahA, anX, aA6, ac8, ai1] Tryz.func151 (fun x => aBj x.1 x.2.1) fun _ y _ h => aIC _ _ y h
def aFh := okT 97 (P2 tF tF) (P2 tF tI) adQ aP5 [agT, aGV, ai0] Tryz.func97 (fun x => aFN x.1 x.2.1) fun _ y _ h => aLS _ _ y h
def aC1 := okT 153 (P1 (P2 (P2 tM .bool) tM)) (P1 (P2 (P2 tM .bool) tM)) aiC aDu [ac8] Tryz.func153 (fun x => as3 x.1) fun _ y _ h => ayF _ y h
def aK1 := okT 98 (P2 tF tF) (P2 tF tI) afG aP3 [agT, ag9, aC1, aGU, ai0] Tryz.func98 (fun x => aFK x.1 x.2.1) fun _ y _ h => aLP _ _ y h
def aC3 := okT 101 (P2 (P3 tS tI .bool) tF) (P2 tF tI) ajM aMe [ajX, aFf, aFh, aK1] Tryz.func101 (fun x => awJ x.1 x.2.1) fun _ y _ h => aFY _ _ y h
def aNZ := okT 102 (P1 tF) tB aqG aOu [agT, avL] Tryz.func102 (fun x => aBt x.1) fun _ y _ h => aIQ _ y h
def aC4 := okT 47 (P2 (P1 tC) tF) (P2 tF tI) aiD aDW [at5, aFg, aFf, aFh, ao5, aC3, aNZ, ajX] Tryz.func47 (fun x => alJ x.1 x.2.1) fun _ y _ h => ayL _ _ y h
def azM := okT 145 (P2 (P2 tM .bool) tM) (P1 (P2 tM .bool)) ajK aIL [ahA, ag9, aC2, ac8] Tryz.func145 (fun x => arS x.1 x.2.1) fun _ y _ h => aDB _ _ y h
def aK0 := okT 92 (P1 tF) (P2 .str tI) ajL aLO [agT, azM, avK] Tryz.func92 (fun x => awA x.1) fun _ y _ h => aFJ _ y h
def aC0 := okT 188 (P1 (P2 (P2 tM .bool) tM)) (P1 (P2 (P2 tM .bool) tM)) aiB aDt [ao4] Tryz.func188 (fun x => as2 x.1) fun _ y _ h => ayE _ y h
def aNX := okT 150 (P2 (P2 (P2 tM .bool) tM) (P2 (P2 tM .bool) tM)) (P1 (P2 (P2 tM .bool) tM)) auE aOo [aC0, aGV] Tryz.func150 (fun x => aG2 x.1 x.2.1) fun _ y _ h => aIz _ _ y h
def aPH := okT 96 (P2 tF tF) (P2 tF tI) afY aP1 [agT, aNX, ai0] Tryz.func96 (fun x => aFH x.1 x.2.1) fun _ y _ h => aLM _ _ y h
def azO := okT 46 (P2 (P1 tC) tF) (P2 tF tI) af0 aI2 [ajX, aFf, aK0, aQC, aPH, aFh, aK1] Tryz.func46 (fun x => ar1 x.1 x.2.1) fun _ y _ h => aDV _ _ y h
def aA7 := okT 45 (P2 (P1 tC) tF) (P2 tF tI) agY aBN [] Tryz.func45 (fun x => apS x.1 x.2.1) fun _ y _ h => awU _ _ y h
end
set_option maxRecDepth 1000000
open Go Go.Vg Go.Proofs
noncomputable section
def aA8 := okT 14 (P2 tC tF) (P2 tF tI) abG aOJ [ao6, aK2, ao5, aC4, azO, aA7] Tryz.func14 (fun x => aBR x.1 x.2.1) fun _ y _ h => aI9 _ _ y h
def azL := okT 20 (P3 tC tF tF) (P1 .bool) acV aIw [aA8] Tryz.func20 (fun x => arJ x.1 x.2.1 x.2.2.1) fun _ y _ h => aDj _ _ _ y h
def aIe := okT 124 (P1 .str) (P1 .bool) afV aHZ [] Tryz.func124 (fun x => aq4 x.1) fun _ y _ h => aCK _ y h
def aKT := okT 38 (P1 .str) (P1 (P2 .bool tL)) aoK aPv [aiZ] Tryz.func38 (fun x => aEZ x.1) fun _ y _ h => aKy _ y h
def azH := okT 65 (P1 tF) (P1 .bool) ad2 aHP [aIe, aKT, asW, aCZ] Tryz.func65 (fun x => aqY x.1) fun _ y _ h => aCA _ y h
def aKQ := okT 67 (P1 tF) (P1 (P2 (P2 .bool tL) (P2 .bool tL))) aoJ aPu [aKT] Tryz.func67 (fun x => aKq x.1) fun _ y _ h => aKr _ y h
def azK := okT 82 (P2 (P2 .bool tL) (P2 .bool tL)) (P1 (P2 .bool tL)) aeU aHY [asU, aiZ] Tryz.func82 (fun x => azA x.1 x.2.1) fun _ y _ h => aCJ _ _ y h
def aIc := okT 66 (P2 (P2 (P2 .bool tL) (P2 .bool tL)) (P2 (P2 .bool tL) (P2 .bool tL))) (P1 (P2 (P2 .bool tL) (P2 .bool tL))) amV aHO [azK, anW] Tryz.func66 (fun x => ay8 x.1 x.2.1) fun _ y _ h => aCz _ _ y h
def aNR := okT 18 (P2 tF tF) (P2 tF tI) aiA aNv [azH, aKQ, aIc, aA5] Tryz.func18 (fun x => aGF x.1 x.2.1) fun _ y _ h => aHS _ _ y h
def aKP := okT 68 (P2 (P2 (P2 .bool tL) (P2 .bool tL)) (P2 (P2 .bool tL) (P2 .bool tL))) (P1 (P2 (P2 .bool tL) (P2 .bool tL))) ap6 aKo [azK, avI, anW] Tryz.func68 (fun x => aCC x.1 x.2.1) fun _ y _ h => aEP _ _ y h
def aNS := okT 19 (P2 tF tF) (P2 tF tI) akL aNw [azH, aKQ, aKP, aA5] Tryz.func19 (fun x => aGG x.1 x.2.1) fun _ y _ h => aHT _ _ y h
def aFa := okT 126 tB (P1 .bool) abL aEO [] Tryz.func126 (fun x => anR x.1 x.2.1) fun _ y _ h => aAS _ _ y h
def aA4 := okT 69 (P1 (.pair (.int .u8) (P4 (.sl (.int .u16)) (.sl (.pair (.int .u8) (.pair (.int .i16) (P4 (.int .i16) (.int .i16) (.int .u8) (.int .u8))))) .bool .bool))) (P1 tC) afE aAR [aFa] Tryz.func69 (fun x => agS x.1) fun _ y _ h => auY _ y h
def aE9 := okT 70 (P1 (.pair (.int .u8) (P4 (.sl (.int .u16)) (.sl (.pair (.int .u8) (.pair (.int .i16) (P4 (.int .i16) (.int .i16) (.int .u8) (.int .u8))))) .bool .bool))) (P1 tC) ahO aEN [] Tryz.func70 (fun x => ajS x.1) fun _ y _ h => aAQ _ y h
def aIb := okT 21 (P1 (.pair (.int .u8) (P4 (.sl (.int .u16)) (.sl (.pair (.int .u8) (.pair (.int .i16) (P4 (.int .i16) (.int .i16) (.int .u8) (.int .u8))))) .bool .bool))) (P1 tC) ajC aHN [aA4, aE9] Tryz.func21 (fun x => amA x.1) fun _ y _ h => aCy _ y h
def aKW := okT 34 .unit (P1 tC) aqC aLp [] Tryz.func34 (fun x => l9_root_t) fun _ y _ h => aFq y h
def ahB := okT 115 tB (P1 .bool) adS aMz [] Tryz.func115 (fun x => aw5 x.1 x.2.1) fun _ y _ h => aGb _ _ y h
def aA9 := okT 116 tB (P2 tB tI) aiF aOK [ahB] Tryz.func116 (fun x => aBV x.1 x.2.1) fun _ y _ h => aJi _ _ y h
def aC6 := okT 55 (P3 tB tI tI) (P2 tB tI) ajN aMC [ahB, aA9] Tryz.func55 (fun x => aw6 x.1 x.2.1 x.2.2.1) fun _ y _ h => aGd _ _ _ y h
def aKZ := okT 222 (P2 (P2 (P2 tM .bool) tM) tM) (P1 (P2 tM .bool)) aqD aLz [ai1, anX, ac8, aA6, azM] Tryz.func222 (fun x => avV x.1 x.2.1) fun _ y _ h => aFy _ _ y h
end
set_option maxRecDepth 1000000
open Go Go.Vg Go.Proofs
noncomputable section
def aKO := okT 221 (P1 .str) tB akK aPg [avH, aQA] Tryz.func221 (fun x => aEy x.1) fun _ y _ h => aJQ _ y h
def aN0 := okT 196 (P2 tF tI) tB akN aOw [agT, ajW, aKZ, avK, aKO] Tryz.func196 (fun x => aBu x.1 x.2.1) fun _ y _ h => aIR _ _ y h
def azQ := okT 160 (P1 tF) (P2 tB tI) af3 aJk [aN0, aO6, aFg, ahB, aA9] Tryz.func160 (fun x => ar8 x.1) fun _ y _ h => aD6 _ y h
def aPE := okT 251 (P1 tL) (P1 tI) axF aPn [] Tryz.func251 (fun x => aEI x.1) fun _ y _ h => aJ5 _ y h
def aK5 := okT 231 (P1 tL) (P1 tI) axJ aMA [aPE] Tryz.func231 (fun x => aD4 x.1) fun _ y _ h => aGc _ y h
def aPF := okT 252 (P1 tL) (P1 tI) axG aPo [] Tryz.func252 (fun x => aEJ x.1) fun _ y _ h => aJ6 _ y h
def aC5 := okT 232 (P1 tL) (P1 tI) alX aD5 [aPF] Tryz.func232 (fun x => atH x.1) fun _ y _ h => ayO _ y h
def aN2 := okT 163 (P2 tB tB) (P2 tB tI) aqJ aOM [ahB, aK5, aC5] Tryz.func163 (fun x => aBW x.1 x.2.1) fun _ y _ h => aJj _ _ y h
def aGW := okT 120 (P1 (.sl tB)) (P2 tB tI) aiE aOI [aN2] Tryz.func120 (fun x => aBP x.1) fun _ y _ h => aI7 _ y h
def azP := okT 118 (P1 (.sl tF)) (P2 tB tI) aeX aI8 [azQ, aGW] Tryz.func118 (fun x => ar6 x.1) fun _ y _ h => aDZ _ y h
def aK6 := okT 197 (P1 tB) (P1 tI) aqK aMD [ahB] Tryz.func197 (fun x => aw7 x.1) fun _ y _ h => aGe _ y h
def aIh := okT 198 (P1 tB) (P1 .bool) asE aH5 [] Tryz.func198 (fun x => aq7 x.1) fun _ y _ h => aCR _ y h
def amD := okT 257 (P2 tM tM) (P1 tM) ai9 aHx [ak7] Tryz.func257 (fun x => amK x.1 x.2.1) fun _ y _ h => as5 _ _ y h
def azG := okT 242 (P2 tM tI) (P1 tM) ajA aHz [amD] Tryz.func242 (fun x => ayU x.1 x.2.1) fun _ y _ h => aCg _ _ y h
def ao0 := okT 246 (P1 tM) (P1 .bool) ahN aJI [] Tryz.func246 (fun x => apE x.1) fun _ y _ h => avW _ y h
def aGT := okT 241 (P2 tM .bool) (P1 (P2 tM .bool)) ah9 aQo [ao0] Tryz.func241 (fun x => aOV x.1 x.2.1) fun _ y _ h => aM7 _ _ y h
def avF := okT 255 (P1 tM) (P1 tI) akG aEs [ao0, aKY] Tryz.func255 (fun x => aj0 x.1) fun _ y _ h => apG _ y h
def ao1 := okT 240 (P1 (P2 tM .bool)) (P2 .str tI) acU aJM [avF, aE7] Tryz.func240 (fun x => auI x.1) fun _ y _ h => aEu _ y h
def aKN := okT 224 (P2 .str tI) (P2 .str tI) alS aPe [at3, azG, aGT, ao1] Tryz.func224 (fun x => aEw x.1 x.2.1) fun _ y _ h => aJO _ _ y h
def aFb := okT 226 (P1 tI) (P1 .str) ahP aE4 [aQz] Tryz.func226 (fun x => anU x.1) fun _ y _ h => aA0 _ y h
end
set_option maxRecDepth 1000000
open Go Go.Vg Go.Proofs
noncomputable section
def aGS := okT 245 tF (P3 (P2 tM .bool) (P2 tM .bool) tI) afC aM6 [at3] Tryz.func245 (fun x => aAx x.1 x.2.1) fun _ y _ h => aHC _ _ y h
def aCW := okT 260 (P2 (P2 tM .bool) (P2 tM .bool)) (P1 (P2 tM .bool)) ah8 aCe [amD, aGT] Tryz.func260 (fun x => akU x.1 x.2.1) fun _ y _ h => ax2 _ _ y h
def aPC := okT 225 tF (P2 .str tI) asC aPf [aGS, aCW, ao1] Tryz.func225 (fun x => aEx x.1 x.2.1) fun _ y _ h => aJP _ _ y h
def azF := okT 267 (P2 tM (.int .u32)) (P2 tM (.int .u32)) asA aHy [ak7] Tryz.func267 (fun x => amL x.1 x.2.1) fun _ y _ h => as6 _ _ y h
def asS := okT 266 (P2 tM tM) (P1 tI) alR aCh [] Tryz.func266 (fun x => ah3 x.1 x.2.1) fun _ y _ h => anH _ _ y h
def ao2 := okT 268 (P1 (.int .u64)) (P1 tM) agW aAy [] Tryz.func268 (fun x => aj5 x.1) fun _ y _ h => alF _ y h
def avG := okT 247 (P2 tM tM) (P2 tM tM) akH aEt [ak7, azF, asS, ao2, amD] Tryz.func247 (fun x => aj1 x.1 x.2.1) fun _ y _ h => apH _ _ y h
def aCX := okT 248 (P2 tM tM) (P1 tM) ap4 aJL [] Tryz.func248 (fun x => apF x.1 x.2.1) fun _ y _ h => av1 _ _ y h
def aE8 := okT 281 (P1 tI) (P1 tM) akJ aEv [] Tryz.func281 (fun x => anN x.1) fun _ y _ h => aAv _ y h
def aKM := okT 270 (P2 tM tI) (P1 tM) ap3 aJK [azG, avG, ao2, amD, aCX, azF, asS, ao0, avF, aE8] Tryz.func270 (fun x => aCf x.1 x.2.1) fun _ y _ h => aEr _ _ y h
def aNQ := okT 250 (P2 .str tI) (P2 .str tI) ap5 aM8 [at3, aKM, aGT, ao1] Tryz.func250 (fun x => aAz x.1 x.2.1) fun _ y _ h => aHE _ _ y h
def aNW := okT 228 (P2 .str tI) (P3 .str .bool tI) aqB aNM [aNQ, aKN] Tryz.func228 (fun x => aA1 x.1 x.2.1) fun _ y _ h => aH7 _ _ y h
def aFc := okT 229 (P2 .str .bool) tB acH aE5 [aKO] Tryz.func229 (fun x => anV x.1 x.2.1) fun _ y _ h => aA2 _ _ y h
def aH9 := okT 249 (P2 tM tM) (P1 tM) asB aHA [ak7] Tryz.func249 (fun x => amM x.1 x.2.1) fun _ y _ h => as7 _ _ y h
def aPD := okT 227 tF (P3 .str .str tI) asD aPh [aGS, ao0, avG, aCX, aH9, aGT, ao1] Tryz.func227 (fun x => aEz x.1 x.2.1) fun _ y _ h => aJR _ _ y h
def aNV := okT 200 (P3 (P1 tB) tI .bool) tB aqA aNE [aO5, aKN, aFb, aPC, aNW, aFc, aPD] Tryz.func200 (fun x => aAX x.1 x.2.1 x.2.2.1) fun _ y _ h => aH4 _ _ _ y h
def aQB := okT 223 tB (P2 tB tI) aHj aQX [ahB] Tryz.func223 (fun x => aMB x.1 x.2.1) fun _ y _ h => aOL _ _ y h
def aKU := okT 161 (P3 tB tI tI) (P2 tB tI) axI aKD [aK6, aIh, aNV, aQB] Tryz.func161 (fun x => avD x.1 x.2.1 x.2.2.1) fun _ y _ h => aE6 _ _ _ y h
def aPI := okT 162 (P2 tB tB) (P2 tB tI) aGj aQh [ahB, aA9] Tryz.func162 (fun x => aGf x.1 x.2.1) fun _ y _ h => aME _ _ y h
def aFi := okT 119 (P3 (P3 tS tI .bool) tI tI) (P2 tB tI) adR aFW [at5, aC3, azP, aKU, azQ, aPI, aC6] Tryz.func119 (fun x => aoC x.1 x.2.1 x.2.2.1) fun _ y _ h => aBH _ _ _ y h
end
set_option maxRecDepth 1000000
open Go Go.Vg Go.Proofs
noncomputable section
def atP := okT 58 (P2 (P1 tC) tB) (P2 tB tI) ac7 atU [aFi, aGW] Tryz.func58 (fun x => agP x.1 x.2.1) fun _ y _ h => apW _ _ y h
def ayB := okT 57 (P2 (P1 tC) tB) (P2 tB tI) aeF ayK [arC, at5, azP, azO] Tryz.func57 (fun x => aiQ x.1 x.2.1) fun _ y _ h => atT _ _ y h
def arB := okT 56 (P2 (P1 tC) tB) (P2 tB tI) af1 ar2 [] Tryz.func56 (fun x => ai5 x.1 x.2.1) fun _ y _ h => aoF _ _ y h
def aK4 := okT 16 (P2 tC tB) (P2 tB tI) agN aMt [ao6, aC6, atP, ayB, arB] Tryz.func16 (fun x => aw1 x.1 x.2.1) fun _ y _ h => aF7 _ _ y h
def aKV := okT 35 .unit (P1 tC) ajF aLo [] Tryz.func35 (fun x => l9_tent_t) fun _ y _ h => aFp y h
def aK3 := okT 25 (P1 tC) tB alW aMr [ao6] Tryz.func25 (fun x => awZ x.1) fun _ y _ h => aF5 _ y h
def aIj := okT 36 .unit (P1 tC) amZ aIx [] Tryz.func36 (fun x => l9_steps_t) fun _ y _ h => aDk y h
def aIi := okT 10 .unit (P1 .bool) asF aIv [aKW, aKX, aA8, aK4, aKV, aK3, azL, aIj, ao6] Tryz.func10 (fun x => l9_wakes_t) fun _ y _ h => aDi y h
def o_CurveLines := okT 5 (.pair (.int .u8) (P4 (.int .u16) (.int .u16) (.pair (.int .u8) (P4 (.sl (.int .u16)) (.sl (.pair (.int .u8) (.pair (.int .i16) (P4 (.int .i16) (.int .i16) (.int .u8) (.int .u8))))) .bool .bool)) (.int .i16))) (P1 .bool) alY aEm [aKX, azL, aA8, aNR, aNS, aIb, aIi] Tryz.func5 (fun x => al5 x.1 x.2.1 x.2.2.1 x.2.2.2.1 x.2.2.2.2.1) fun _ y hw h => ayR _ _ _ _ _ (aM4 hw) y h
end
end Go.Vs
