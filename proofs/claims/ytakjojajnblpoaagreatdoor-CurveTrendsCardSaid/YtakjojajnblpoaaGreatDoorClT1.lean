/-
  Contracts of the functions, out of their trees. Own work; no condition.
-/
import Derived.Test.YtakjojajnblpoaaGreatDoorClL8
import Derived.KernelRfl
set_option linter.unusedVariables false
set_option linter.unusedSimpArgs false
set_option maxRecDepth 1000000
namespace Go.Vs
open Go Go.Vg Go.Proofs
noncomputable section
def aLg : OkC := ⟨212, _, aPS⟩
def avL : OkC := ⟨182, _, aC1⟩
def aQX : OkC := ⟨93, _, aPT⟩
def aQV : OkC := ⟨239, _, aPR⟩
def aFf : OkC := ⟨256, _, aC0⟩
def aQU : OkC := ⟨244, _, aPQ⟩
def aLe := okT 34 .unit (P1 tC) aqA aLI [] Tryz.func34 (fun x => l9_root_t) fun _ y _ h => aFA y h
def aoZ := okT 130 (P1 tL) (P1 tL) acM aNV [] Tryz.func130 (fun x => aGR x.1) fun _ y _ h => aId _ y h
def aiY := okT 80 (P2 .bool tL) (P1 (P2 .bool tL)) abF aKM [aoZ] Tryz.func80 (fun x => aCL x.1 x.2.1) fun _ y _ h => aE0 _ _ y h
def asS := okT 40 (P1 tI) (P1 (P2 .bool tL)) acE aCT [aiY] Tryz.func40 (fun x => asN x.1) fun _ y _ h => ayE _ y h
def aC5 := okT 85 (P1 (P2 .bool tL)) (P1 (P2 .bool tL)) ajD aKO [aiY] Tryz.func85 (fun x => aCN x.1) fun _ y _ h => aE2 _ y h
def asR := okT 134 (P2 tL tL) (P1 tL) abR aCI [aoZ] Tryz.func134 (fun x => aeQ x.1 x.2.1) fun _ y _ h => ayD _ _ y h
def azL := okT 132 (P2 tL tL) (P1 tI) afS aIc [] Tryz.func132 (fun x => aq0 x.1 x.2.1) fun _ y _ h => aCK _ _ y h
def alC := okT 133 (P2 tL tL) (P1 tL) abA au7 [aoZ] Tryz.func133 (fun x => alA x.1 x.2.1) fun _ y _ h => aq2 _ _ y h
def aK9 := okT 171 (P2 tL tI) (P2 tL tI) ap5 aKL [aoZ] Tryz.func171 (fun x => au5 x.1 x.2.1) fun _ y _ h => aEZ _ _ y h
def azK := okT 135 (P2 tL tL) (P2 tL tL) ajC aIb [asR, aoZ, azL, alC, aK9] Tryz.func135 (fun x => aqZ x.1 x.2.1) fun _ y _ h => aCJ _ _ y h
def asU := okT 86 (P2 (P2 .bool tL) (P2 .bool tL)) (P1 (P2 .bool tL)) aeT aCU [azK] Tryz.func86 (fun x => asO x.1 x.2.1) fun _ y _ h => ayF _ _ y h
def aOe := okT 131 (P2 tL tL) (P1 tL) auG aNU [] Tryz.func131 (fun x => aGQ x.1 x.2.1) fun _ y _ h => aIa _ _ y h
def aC7 := okT 81 (P2 (P2 .bool tL) (P2 .bool tL)) (P1 (P2 .bool tL)) agK aKQ [aOe, aiY, azL, alC] Tryz.func81 (fun x => avB x.1 x.2.1) fun _ y _ h => aE5 _ _ y h
def azM := okT 136 (P2 (P2 .bool tL) (P2 .bool tL)) (P1 (P2 .bool tL)) ajE aIj [aC5, aC7] Tryz.func136 (fun x => azE x.1 x.2.1) fun _ y _ h => aCS _ _ y h
def aIy := okT 87 (P2 (P2 .bool tL) (P2 .bool tL)) (P2 (P2 .bool tL) (P2 .bool tL)) afU aIg [azK, aiY, aC7, asS, azM] Tryz.func87 (fun x => aq5 x.1 x.2.1) fun _ y _ h => aCQ _ _ y h
def aFj := okT 42 (P2 (P2 .bool tL) (P2 .bool tL)) (P1 (P2 (P2 .bool tL) (P2 .bool tL))) ahN aEY [aC5, asU, aIy] Tryz.func42 (fun x => anN x.1 x.2.1) fun _ y _ h => aAZ _ _ y h
def aIu := okT 88 tB (P1 (P2 (P2 .bool tL) (P2 .bool tL))) amT aH6 [asS, aFj] Tryz.func88 (fun x => ay9 x.1 x.2.1) fun _ y _ h => aCG _ _ y h
def aLa := okT 170 (P1 tI) (P1 .str) ap6 aKN [] Tryz.func170 (fun x => au6 x.1) fun _ y _ h => aE1 _ y h
def aC6 := okT 125 (P1 (P2 .bool tL)) (P1 .str) alW aKP [aLa] Tryz.func125 (fun x => au8 x.1) fun _ y _ h => aE3 _ y h
def aOf := okT 84 (P1 (P2 .bool tL)) (P2 .str tI) ap7 aNW [aC6] Tryz.func84 (fun x => aGS x.1) fun _ y _ h => aIh _ y h
end
set_option maxRecDepth 1000000
open Go Go.Vg Go.Proofs
noncomputable section
def aOc := okT 41 (P1 (P2 (P2 .bool tL) (P2 .bool tL))) (P2 tF tI) ap4 aNR [aOf] Tryz.func41 (fun x => aGO x.1) fun _ y _ h => aH7 _ y h
def aPY := okT 43 tB (P2 tF tI) axK aPM [aIu, aOc] Tryz.func43 (fun x => aEX x.1 x.2.1) fun _ y _ h => aKI _ _ y h
def aLf := okT 13 tB (P1 tF) ab9 aQa [aPY] Tryz.func13 (fun x => aLJ x.1 x.2.1) fun _ y _ h => aLK _ _ y h
def arC := okT 117 (P3 tI tI tI) (P1 .bool) acV aJp [] Tryz.func117 (fun x => ar2 x.1 x.2.1 x.2.2.1) fun _ y _ h => aD6 _ _ _ y h
def ayH := okT 76 (P1 tL) (P1 .bool) aiP ayQ [arC] Tryz.func76 (fun x => aiO x.1) fun _ y _ h => atY _ y h
def aIJ := okT 129 (P1 (P3 tS tI .bool)) (P1 .bool) afY aJj [arC] Tryz.func129 (fun x => arW x.1) fun _ y _ h => aDY _ y h
def arD := okT 77 (P1 tC) (P1 .bool) af1 ar3 [aIJ] Tryz.func77 (fun x => afP x.1) fun _ y _ h => aoC _ y h
def alF := okT 29 (P1 tC) (P1 tI) afG aMN [ayH, arD] Tryz.func29 (fun x => aw2 x.1) fun _ y _ h => aGi _ y h
def alB := okT 233 (P1 tM) (P1 tM) aNa aJ1 [] Tryz.func233 (fun x => avX x.1) fun _ y _ h => avY _ y h
def aIr := okT 205 (P1 .str) (P1 tM) ajA aHS [alB] Tryz.func205 (fun x => arT x.1) fun _ y _ h => atA _ y h
def avO := okT 173 tF (P2 .str .bool) abW aF6 [] Tryz.func173 (fun x => an7 x.1 x.2.1) fun _ y hw h => aBM _ _ (Nat.le_trans hw.1 (by decide)) y h
def at6 := okT 172 (P1 .str) (P2 (P2 tM .bool) .bool) afA aNq [aIr, avO] Tryz.func172 (fun x => aAC x.1) fun _ y _ h => aHQ _ y h
def avK := okT 137 (P1 .str) (P1 tI) afC aKb [at6] Tryz.func137 (fun x => auL x.1) fun _ y _ h => aEI _ y h
def alD := okT 207 (P1 tM) (P1 tM) acF aLX [] Tryz.func207 (fun x => avX x.1) fun _ y _ h => avY _ y h
def aII := okT 174 (P1 .str) (P1 tM) agZ aJa [alD] Tryz.func174 (fun x => arT x.1) fun _ y _ h => atA _ y h
def azO := okT 138 (P1 .str) (P1 (P2 tM .bool)) afV aI9 [avO, aII] Tryz.func138 (fun x => az6 x.1) fun _ y _ h => aDO _ y h
def ag5 := okT 152 (P1 tM) (P1 .bool) ac4 aLW [] Tryz.func152 (fun x => apB x.1) fun _ y _ h => avW _ y h
def avN := okT 139 (P1 (P2 tM .bool)) (P1 tI) ajJ aL4 [ag5] Tryz.func139 (fun x => av8 x.1) fun _ y _ h => aFP _ y h
def ajY := okT 176 (P1 (.int .u64)) (P1 tM) abM aBy [] Tryz.func176 (fun x => aj6 x.1) fun _ y _ h => alI _ y h
def aIF := okT 175 (P1 tM) (P1 (.int .u64)) amZ aIY [] Tryz.func175 (fun x => az2 x.1) fun _ y _ h => aDF _ y h
end
set_option maxRecDepth 1000000
open Go Go.Vg Go.Proofs
noncomputable section
def aIG := okT 208 (P2 tM (.int .u32)) (P2 tM (.int .u32)) ajG aIZ [alD] Tryz.func208 (fun x => amK x.1 x.2.1) fun _ y _ h => as6 _ _ y h
def alE := okT 141 (P2 tM tM) (P1 tI) adM aDI [] Tryz.func141 (fun x => ah1 x.1 x.2.1) fun _ y _ h => anB _ _ y h
def ai0 := okT 180 (P2 tM tM) (P1 tM) acC aIX [alD] Tryz.func180 (fun x => amJ x.1 x.2.1) fun _ y _ h => as5 _ _ y h
def ag6 := okT 177 (P2 tM tM) (P2 tM tM) abC aFK [alD, aIG, alE, ajY, ai0] Tryz.func177 (fun x => aj2 x.1 x.2.1) fun _ y _ h => apE _ _ y h
def at7 := okT 140 (P2 tM tM) (P1 tM) agV aOJ [ajY, aIF, ag6, ag5] Tryz.func140 (fun x => aBq x.1 x.2.1) fun _ y _ h => aI1 _ _ y h
def agR := okT 89 (P1 tF) (P2 (P2 (P2 tM .bool) tM) .bool) abL aOL [avK, azO, avN, at7, alE] Tryz.func89 (fun x => aBx x.1) fun _ y _ h => aI8 _ y h
def aLk := okT 44 (P1 tF) (P1 tI) aqG aMa [agR] Tryz.func44 (fun x => awC x.1) fun _ y _ h => aFX _ y h
def aPn := okT 194 (P1 tI) (P1 .str) atK aQI [aLg] Tryz.func194 (fun x => aPd x.1) fun _ y _ h => aNu _ y h
def ac6 := okT 179 (P2 tM .bool) (P1 (P2 tM .bool)) aa8 aI7 [ag5] Tryz.func179 (fun x => az5 x.1 x.2.1) fun _ y _ h => aDN _ _ y h
def aFn := okT 220 (P2 (P2 tM .bool) tM) (P1 (P2 (P2 tM .bool) tM)) akM aFR [at7, ag6, ac6] Tryz.func220 (fun x => an3 x.1 x.2.1) fun _ y _ h => aBw _ _ y h
def aFm := okT 191 (P1 tM) (P1 tI) ahP aFJ [ag5, aLg] Tryz.func191 (fun x => aj1 x.1) fun _ y _ h => apD _ y h
def avM := okT 146 (P1 (P2 tM .bool)) (P1 .str) ajI aL3 [avL] Tryz.func146 (fun x => av7 x.1) fun _ y _ h => aFO _ y h
def aiZ := okT 154 (P1 (P2 (P2 tM .bool) tM)) (P2 tF tI) aeU aIQ [aFm, avM, avL] Tryz.func154 (fun x => arN x.1) fun _ y _ h => aDy _ y h
def aOl := okT 193 tF (P2 tF tI) aqF aOP [avK, azO, ag5, ac6, aFn, aiZ] Tryz.func193 (fun x => aBB x.1 x.2.1) fun _ y _ h => aJd _ _ y h
def aPo := okT 157 tB (P2 tF tI) alY aRc [aPn, aOl] Tryz.func157 (fun x => aPr x.1 x.2.1) fun _ y _ h => aON _ _ y h
def at8 := okT 100 tB (P1 tF) abY aOZ [aPo] Tryz.func100 (fun x => aHr x.1 x.2.1) fun _ y _ h => aJq _ _ y h
def ajZ := okT 91 (P1 tI) (P1 tF) aaF aGf [at8] Tryz.func91 (fun x => awW x.1) fun _ y _ h => aBV _ y h
def anR := okT 189 (P2 (P2 tM .bool) tM) (P1 (P2 tM .bool)) adN aFQ [ai0, ac6] Tryz.func189 (fun x => an2 x.1 x.2.1) fun _ y _ h => aBu _ _ y h
def ao0 := okT 192 (P1 (P2 tM .bool)) (P1 (P2 tM .bool)) afE aBv [ac6] Tryz.func192 (fun x => apI x.1) fun _ y _ h => av9 _ y h
def aDa := okT 181 (P2 tM tM) (P1 tM) alX aLY [] Tryz.func181 (fun x => apC x.1 x.2.1) fun _ y _ h => av1 _ _ y h
end
set_option maxRecDepth 1000000
open Go Go.Vg Go.Proofs
noncomputable section
def aIH := okT 219 (P2 tM tM) (P1 tM) ajH aI0 [alD] Tryz.func219 (fun x => amL x.1 x.2.1) fun _ y _ h => as7 _ _ y h
def aBc := okT 190 (P2 (P2 tM .bool) (P2 tM .bool)) (P1 (P2 tM .bool)) am0 aOK [aDa, ac6, alE, aIH] Tryz.func190 (fun x => aBt x.1 x.2.1) fun _ y _ h => aI4 _ _ y h
def aIE := okT 156 (P2 (P2 (P2 tM .bool) tM) (P2 (P2 tM .bool) tM)) (P1 tI) amY aIS [anR, ao0, aBc, avN] Tryz.func156 (fun x => arO x.1 x.2.1) fun _ y _ h => aDz _ _ y h
def aFp := okT 99 (P2 tF tF) tB afX aQm [agR, aIE] Tryz.func99 (fun x => aFW x.1 x.2.1) fun _ y _ h => aL9 _ _ y h
def ao1 := okT 48 (P1 tF) (P1 tF) acW aBX [ajZ, aFp] Tryz.func48 (fun x => akD x.1) fun _ y _ h => awX _ y h
def aG4 := okT 144 (P2 (P2 (P2 tM .bool) tM) (P2 (P2 tM .bool) tM)) (P1 (P2 (P2 tM .bool) tM)) aqC aOH [at7, ag6, ai0, ac6] Tryz.func144 (fun x => aBo x.1 x.2.1) fun _ y _ h => aIT _ _ y h
def aFo := okT 90 (P2 tF tF) (P2 tF tI) ad8 aQk [agR, aG4, aiZ] Tryz.func90 (fun x => aFT x.1 x.2.1) fun _ y _ h => aL6 _ _ y h
def aG5 := okT 151 (P2 (P2 (P2 tM .bool) tM) (P2 (P2 tM .bool) tM)) (P1 (P2 (P2 tM .bool) tM)) aqD aOI [at7, ag6, anR, aBc, ac6, ai0] Tryz.func151 (fun x => aBp x.1 x.2.1) fun _ y _ h => aIU _ _ y h
def aFq := okT 97 (P2 tF tF) (P2 tF tI) adO aQn [agR, aG5, aiZ] Tryz.func97 (fun x => aFY x.1 x.2.1) fun _ y _ h => aMb _ _ y h
def aC9 := okT 153 (P1 (P2 (P2 tM .bool) tM)) (P1 (P2 (P2 tM .bool) tM)) ah9 aDB [ac6] Tryz.func153 (fun x => as3 x.1) fun _ y _ h => ayK _ y h
def aLj := okT 98 (P2 tF tF) (P2 tF tI) afF aQl [agR, ag5, aC9, aG4, aiZ] Tryz.func98 (fun x => aFV x.1 x.2.1) fun _ y _ h => aL8 _ _ y h
def aDb := okT 101 (P2 (P3 tS tI .bool) tF) (P2 tF tI) ajM aMx [ajZ, aFo, aFq, aLj] Tryz.func101 (fun x => awK x.1 x.2.1) fun _ y _ h => aF9 _ _ y h
def aOj := okT 102 (P1 tF) tB aqE aOM [agR, avN] Tryz.func102 (fun x => aBz x.1) fun _ y _ h => aJb _ y h
def aDc := okT 47 (P2 (P1 tC) tF) (P2 tF tI) aiA aD5 [at8, aFp, aFo, aFq, ao1, aDb, aOj, ajZ] Tryz.func47 (fun x => alN x.1 x.2.1) fun _ y _ h => ayP _ _ y h
def azN := okT 145 (P2 (P2 tM .bool) tM) (P1 (P2 tM .bool)) ajK aI5 [ag6, ag5, aDa, ac6] Tryz.func145 (fun x => arS x.1 x.2.1) fun _ y _ h => aDL _ _ y h
def aLi := okT 92 (P1 tF) (P2 .str tI) ajL aL7 [agR, azN, avM] Tryz.func92 (fun x => awB x.1) fun _ y _ h => aFU _ y h
def aC8 := okT 188 (P1 (P2 (P2 tM .bool) tM)) (P1 (P2 (P2 tM .bool) tM)) ah8 aDA [ao0] Tryz.func188 (fun x => as2 x.1) fun _ y _ h => ayJ _ y h
def aOi := okT 150 (P2 (P2 (P2 tM .bool) tM) (P2 (P2 tM .bool) tM)) (P1 (P2 (P2 tM .bool) tM)) auH aOG [aC8, aG5] Tryz.func150 (fun x => aHd x.1 x.2.1) fun _ y _ h => aIR _ _ y h
def aP0 := okT 96 (P2 tF tF) (P2 tF tI) afW aQj [agR, aOi, aiZ] Tryz.func96 (fun x => aFS x.1 x.2.1) fun _ y _ h => aL5 _ _ y h
def azP := okT 46 (P2 (P1 tC) tF) (P2 tF tI) afZ aJm [ajZ, aFo, aLi, aQX, aP0, aFq, aLj] Tryz.func46 (fun x => arZ x.1 x.2.1) fun _ y _ h => aD4 _ _ y h
end
set_option maxRecDepth 1000000
open Go Go.Vg Go.Proofs
noncomputable section
def aBd := okT 45 (P2 (P1 tC) tF) (P2 tF tI) agW aBU [] Tryz.func45 (fun x => apQ x.1 x.2.1) fun _ y _ h => awV _ _ y h
def aBe := okT 14 (P2 tC tF) (P2 tF tI) abZ aO1 [alF, aLk, ao1, aDc, azP, aBd] Tryz.func14 (fun x => aBY x.1 x.2.1) fun _ y _ h => aJt _ _ y h
def ag7 := okT 115 tB (P1 .bool) adQ aMV [] Tryz.func115 (fun x => aw7 x.1 x.2.1) fun _ y _ h => aGm _ _ y h
def aBf := okT 116 tB (P2 tB tI) aiC aO2 [ag7] Tryz.func116 (fun x => aB1 x.1 x.2.1) fun _ y _ h => aJC _ _ y h
def aDg := okT 55 (P3 tB tI tI) (P2 tB tI) ajN aMY [ag7, aBf] Tryz.func55 (fun x => aw8 x.1 x.2.1 x.2.2.1) fun _ y _ h => aGo _ _ _ y h
def aLh := okT 222 (P2 (P2 (P2 tM .bool) tM) tM) (P1 (P2 tM .bool)) aqB aLT [ai0, anR, ac6, aBc, azN] Tryz.func222 (fun x => avV x.1 x.2.1) fun _ y _ h => aFI _ _ y h
def aK8 := okT 221 (P1 .str) tB akL aPz [avK, aQV] Tryz.func221 (fun x => aEG x.1) fun _ y _ h => aJ9 _ y h
def aOk := okT 196 (P2 tF tI) tB akN aOO [agR, ajY, aLh, avM, aK8] Tryz.func196 (fun x => aBA x.1 x.2.1) fun _ y _ h => aJc _ _ y h
def azR := okT 160 (P1 tF) (P2 tB tI) af2 aJE [aOk, aPo, aFp, ag7, aBf] Tryz.func160 (fun x => ar6 x.1) fun _ y _ h => aEf _ y h
def aPW := okT 251 (P1 tL) (P1 tI) axH aPG [] Tryz.func251 (fun x => aEQ x.1) fun _ y _ h => aKn _ y h
def aLo := okT 231 (P1 tL) (P1 tI) axM aMW [aPW] Tryz.func231 (fun x => aEd x.1) fun _ y _ h => aGn _ y h
def aPX := okT 252 (P1 tL) (P1 tI) axI aPH [] Tryz.func252 (fun x => aER x.1) fun _ y _ h => aKo _ y h
def aDf := okT 232 (P1 tL) (P1 tI) al0 aEe [aPX] Tryz.func232 (fun x => atI x.1) fun _ y _ h => ayS _ y h
def aOm := okT 163 (P2 tB tB) (P2 tB tI) aqH aO4 [ag7, aLo, aDf] Tryz.func163 (fun x => aB2 x.1 x.2.1) fun _ y _ h => aJD _ _ y h
def aG6 := okT 120 (P1 (.sl tB)) (P2 tB tI) aiB aO0 [aOm] Tryz.func120 (fun x => aBW x.1) fun _ y _ h => aJr _ y h
def azQ := okT 118 (P1 (.sl tF)) (P2 tB tI) aeV aJs [azR, aG6] Tryz.func118 (fun x => ar4 x.1) fun _ y _ h => aD8 _ y h
def aLp := okT 197 (P1 tB) (P1 tI) aqI aMZ [ag7] Tryz.func197 (fun x => aw9 x.1) fun _ y _ h => aGp _ y h
def aIA := okT 198 (P1 tB) (P1 .bool) asC aIm [] Tryz.func198 (fun x => aq7 x.1) fun _ y _ h => aCY _ y h
def amC := okT 257 (P2 tM tM) (P1 tM) ai8 aHM [alB] Tryz.func257 (fun x => amJ x.1 x.2.1) fun _ y _ h => as5 _ _ y h
def azJ := okT 242 (P2 tM tI) (P1 tM) ai9 aHO [amC] Tryz.func242 (fun x => ayX x.1 x.2.1) fun _ y _ h => aCn _ _ y h
end
set_option maxRecDepth 1000000
open Go Go.Vg Go.Proofs
noncomputable section
def aoW := okT 246 (P1 tM) (P1 .bool) ahL aJ0 [] Tryz.func246 (fun x => apB x.1) fun _ y _ h => avW _ y h
def aG3 := okT 241 (P2 tM .bool) (P1 (P2 tM .bool)) ah7 aQH [aoW] Tryz.func241 (fun x => aPc x.1 x.2.1) fun _ y _ h => aNs _ _ y h
def avI := okT 255 (P1 tM) (P1 tI) akH aEA [aoW, aLg] Tryz.func255 (fun x => aj1 x.1) fun _ y _ h => apD _ y h
def aoX := okT 240 (P1 (P2 tM .bool)) (P2 .str tI) acU aJ5 [avI, aFf] Tryz.func240 (fun x => auK x.1) fun _ y _ h => aEC _ y h
def aK7 := okT 224 (P2 .str tI) (P2 .str tI) alV aPx [at6, azJ, aG3, aoX] Tryz.func224 (fun x => aEE x.1 x.2.1) fun _ y _ h => aJ7 _ _ y h
def aFk := okT 226 (P1 tI) (P1 .str) ahO aFc [aQU] Tryz.func226 (fun x => anP x.1) fun _ y _ h => aA7 _ y h
def aG2 := okT 245 tF (P3 (P2 tM .bool) (P2 tM .bool) tI) afB aNr [at6] Tryz.func245 (fun x => aAD x.1 x.2.1) fun _ y _ h => aHR _ _ y h
def aC3 := okT 260 (P2 (P2 tM .bool) (P2 tM .bool)) (P1 (P2 tM .bool)) ah6 aCl [amC, aG3] Tryz.func260 (fun x => akY x.1 x.2.1) fun _ y _ h => ax7 _ _ y h
def aPU := okT 225 tF (P2 .str tI) asA aPy [aG2, aC3, aoX] Tryz.func225 (fun x => aEF x.1 x.2.1) fun _ y _ h => aJ8 _ _ y h
def azI := okT 267 (P2 tM (.int .u32)) (P2 tM (.int .u32)) ar8 aHN [alB] Tryz.func267 (fun x => amK x.1 x.2.1) fun _ y _ h => as6 _ _ y h
def asQ := okT 266 (P2 tM tM) (P1 tI) alU aCo [] Tryz.func266 (fun x => ah1 x.1 x.2.1) fun _ y _ h => anB _ _ y h
def aoY := okT 268 (P1 (.int .u64)) (P1 tM) agU aAE [] Tryz.func268 (fun x => aj6 x.1) fun _ y _ h => alI _ y h
def avJ := okT 247 (P2 tM tM) (P2 tM tM) akI aEB [alB, azI, asQ, aoY, amC] Tryz.func247 (fun x => aj2 x.1 x.2.1) fun _ y _ h => apE _ _ y h
def aC4 := okT 248 (P2 tM tM) (P1 tM) ap2 aJ3 [] Tryz.func248 (fun x => apC x.1 x.2.1) fun _ y _ h => av1 _ _ y h
def aFg := okT 281 (P1 tI) (P1 tM) akK aED [] Tryz.func281 (fun x => anI x.1) fun _ y _ h => aAB _ y h
def aK6 := okT 270 (P2 tM tI) (P1 tM) ap1 aJ2 [azJ, avJ, aoY, amC, aC4, azI, asQ, aoW, avI, aFg] Tryz.func270 (fun x => aCm x.1 x.2.1) fun _ y _ h => aEz _ _ y h
def aOb := okT 250 (P2 .str tI) (P2 .str tI) ap3 aNt [at6, aK6, aG3, aoX] Tryz.func250 (fun x => aAF x.1 x.2.1) fun _ y _ h => aHT _ _ y h
def aOh := okT 228 (P2 .str tI) (P3 .str .bool tI) ap9 aN7 [aOb, aK7] Tryz.func228 (fun x => aA8 x.1 x.2.1) fun _ y _ h => aIo _ _ y h
def aFl := okT 229 (P2 .str .bool) tB acJ aFd [aK8] Tryz.func229 (fun x => anQ x.1 x.2.1) fun _ y _ h => aA9 _ _ y h
def aIq := okT 249 (P2 tM tM) (P1 tM) ar9 aHP [alB] Tryz.func249 (fun x => amL x.1 x.2.1) fun _ y _ h => as7 _ _ y h
end
set_option maxRecDepth 1000000
open Go Go.Vg Go.Proofs
noncomputable section
def aPV := okT 227 tF (P3 .str .str tI) asB aPA [aG2, aoW, avJ, aC4, aIq, aG3, aoX] Tryz.func227 (fun x => aEH x.1 x.2.1) fun _ y _ h => aKa _ _ y h
def aOg := okT 200 (P3 (P1 tB) tI .bool) tB ap8 aN0 [aPn, aK7, aFk, aPU, aOh, aFl, aPV] Tryz.func200 (fun x => aA3 x.1 x.2.1 x.2.2.1) fun _ y _ h => aIl _ _ _ y h
def aQW := okT 223 tB (P2 tB tI) aHx aRi [ag7] Tryz.func223 (fun x => aMX x.1 x.2.1) fun _ y _ h => aO3 _ _ y h
def aLc := okT 161 (P3 tB tI tI) (P2 tB tI) axL aKX [aLp, aIA, aOg, aQW] Tryz.func161 (fun x => avG x.1 x.2.1 x.2.2.1) fun _ y _ h => aFe _ _ _ y h
def aP1 := okT 162 (P2 tB tB) (P2 tB tI) aGu aQz [ag7, aBf] Tryz.func162 (fun x => aGq x.1 x.2.1) fun _ y _ h => aM0 _ _ y h
def aFr := okT 119 (P3 (P3 tS tI .bool) tI tI) (P2 tB tI) adP aF7 [at8, aDb, azQ, aLc, azR, aP1, aDg] Tryz.func119 (fun x => an8 x.1 x.2.1 x.2.2.1) fun _ y _ h => aBN _ _ _ y h
def atQ := okT 58 (P2 (P1 tC) tB) (P2 tB tI) ac5 atX [aFr, aG6] Tryz.func58 (fun x => agN x.1 x.2.1) fun _ y _ h => apU _ _ y h
def ayG := okT 57 (P2 (P1 tC) tB) (P2 tB tI) aeF ayO [arC, at8, azQ, azP] Tryz.func57 (fun x => aiN x.1 x.2.1) fun _ y _ h => atW _ _ y h
def arB := okT 56 (P2 (P1 tC) tB) (P2 tB tI) af0 ar0 [] Tryz.func56 (fun x => ai4 x.1 x.2.1) fun _ y _ h => aoB _ _ y h
def aLn := okT 16 (P2 tC tB) (P2 tB tI) agM aMO [alF, aDg, atQ, ayG, arB] Tryz.func16 (fun x => aw3 x.1 x.2.1) fun _ y _ h => aGj _ _ y h
def aLd := okT 35 .unit (P1 tC) ajF aLH [] Tryz.func35 (fun x => l9_tent_t) fun _ y _ h => aFz y h
def aDe := okT 25 (P1 tC) tB agL aML [alF] Tryz.func25 (fun x => aw0 x.1) fun _ y _ h => aGg _ y h
def aIC := okT 20 (P3 tC tF tF) (P1 .bool) adZ aIO [aBe] Tryz.func20 (fun x => arJ x.1 x.2.1 x.2.2.1) fun _ y _ h => aDq _ _ _ y h
def aID := okT 36 .unit (P1 tC) amX aIP [] Tryz.func36 (fun x => l9_steps_t) fun _ y _ h => aDr y h
def aIB := okT 10 .unit (P1 .bool) asD aIN [aLe, aLf, aBe, aLn, aLd, aDe, aIC, aID, alF] Tryz.func10 (fun x => l9_wakes_t) fun _ y _ h => aDp y h
def aFi := okT 126 tB (P1 .bool) abK aEW [] Tryz.func126 (fun x => anM x.1 x.2.1) fun _ y _ h => aAY _ _ y h
def aBb := okT 69 (P1 (.pair (.int .u8) (P4 (.sl (.int .u16)) (.sl (.pair (.int .u8) (.pair (.int .i16) (P4 (.int .i16) (.int .i16) (.int .u8) (.int .u8))))) .bool .bool))) (P1 tC) afD aAX [aFi] Tryz.func69 (fun x => agQ x.1) fun _ y _ h => au1 _ y h
def aFh := okT 70 (P1 (.pair (.int .u8) (P4 (.sl (.int .u16)) (.sl (.pair (.int .u8) (.pair (.int .i16) (P4 (.int .i16) (.int .i16) (.int .u8) (.int .u8))))) .bool .bool))) (P1 tC) ahM aEV [] Tryz.func70 (fun x => ajT x.1) fun _ y _ h => aAW _ y h
def aIs := okT 21 (P1 (.pair (.int .u8) (P4 (.sl (.int .u16)) (.sl (.pair (.int .u8) (.pair (.int .i16) (P4 (.int .i16) (.int .i16) (.int .u8) (.int .u8))))) .bool .bool))) (P1 tC) ajB aH4 [aBb, aFh] Tryz.func21 (fun x => amA x.1) fun _ y _ h => aCE _ y h
def aLm := okT 24 (P1 tC) (P1 .bool) alZ aMM [alF] Tryz.func24 (fun x => aw1 x.1) fun _ y _ h => aGh _ y h
end
set_option maxRecDepth 1000000
open Go Go.Vg Go.Proofs
noncomputable section
def aIx := okT 124 (P1 .str) (P1 .bool) afT aIf [] Tryz.func124 (fun x => aq4 x.1) fun _ y _ h => aCP _ y h
def aLb := okT 38 (P1 .str) (P1 (P2 .bool tL)) aoG aPO [aiY] Tryz.func38 (fun x => aE6 x.1) fun _ y _ h => aKR _ y h
def aIt := okT 65 (P1 tF) (P1 .bool) adY aH5 [aIx, aLb, asU, aC6] Tryz.func65 (fun x => aqY x.1) fun _ y _ h => aCF _ y h
def aPZ := okT 67 (P1 tF) (P1 (P2 (P2 .bool tL) (P2 .bool tL))) aoF aPN [aLb] Tryz.func67 (fun x => aKJ x.1) fun _ y _ h => aKK _ y h
def aIw := okT 82 (P2 (P2 .bool tL) (P2 .bool tL)) (P1 (P2 .bool tL)) aeS aIe [asR, aiY] Tryz.func82 (fun x => azB x.1 x.2.1) fun _ y _ h => aCO _ _ y h
def aIz := okT 127 (P2 (P2 .bool tL) (P2 .bool tL)) (P1 tI) amW aIi [azM] Tryz.func127 (fun x => azD x.1 x.2.1) fun _ y _ h => aCR _ _ y h
def aIv := okT 73 (P2 (P2 (P2 .bool tL) (P2 .bool tL)) (P2 (P2 .bool tL) (P2 .bool tL))) (P1 tI) amU aH8 [aIw, aIz] Tryz.func73 (fun x => azA x.1 x.2.1) fun _ y _ h => aCH _ _ y h
def aOd := okT 26 (P2 tF tF) tB amV aNS [aIt, aPZ, aIv] Tryz.func26 (fun x => aGP x.1 x.2.1) fun _ y _ h => aH9 _ _ y h
def o_CurveTrends := okT 8 (P2 (.pair (.int .u8) (P4 (.sl (.int .u16)) (.sl (.pair (.int .u8) (.pair (.int .i16) (P4 (.int .i16) (.int .i16) (.int .u8) (.int .u8))))) .bool .bool)) (.arr 2 (.int .i16))) (P1 .bool) akO aCg [aIB, aIs, aDe, aLf, aBe, aLm, aOd] Tryz.func8 (fun x => akP x.1 x.2.1) fun _ y hw h => ax2 _ _ (aJ4 hw) y h
end
end Go.Vs
