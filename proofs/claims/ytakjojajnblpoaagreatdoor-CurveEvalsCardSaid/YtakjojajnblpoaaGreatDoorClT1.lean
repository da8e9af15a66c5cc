/-
  Contracts of the functions, out of their trees. Own work; no condition.
-/
import Derived.Test.YtakjojajnblpoaaGreatDoorClL9
import Derived.KernelRfl
set_option linter.unusedVariables false
set_option linter.unusedSimpArgs false
set_option maxRecDepth 1000000
namespace Go.Vs
open Go Go.Vg Go.Proofs
noncomputable section
def aNL : OkC := ⟨212, _, aSj⟩
def axS : OkC := ⟨182, _, aEF⟩
def aTh : OkC := ⟨93, _, aSk⟩
def aTf : OkC := ⟨239, _, aSi⟩
def aG4 : OkC := ⟨256, _, aEE⟩
def aTe : OkC := ⟨244, _, aSh⟩
def as8 := okT 117 (P3 tI tI tI) (P1 .bool) acN aLv [] Tryz.func117 (fun x => at1 x.1 x.2.1 x.2.2.1) fun _ y _ h => aFG _ _ _ y h
def aAm := okT 76 (P1 tL) (P1 .bool) ajU aAv [as8] Tryz.func76 (fun x => ajT x.1) fun _ y _ h => avS _ y h
def aKS := okT 129 (P1 (P3 tS tI .bool)) (P1 .bool) agJ aLp [as8] Tryz.func129 (fun x => atU x.1) fun _ y _ h => aFy _ y h
def as9 := okT 77 (P1 tC) (P1 .bool) agM at2 [aKS] Tryz.func77 (fun x => agB x.1) fun _ y _ h => apY _ y h
def aqQ := okT 29 (P1 tC) (P1 tI) ag9 aPe [aAm, as9] Tryz.func29 (fun x => ay8 x.1) fun _ y _ h => aH3 _ y h
def amK := okT 233 (P1 tM) (P1 tM) aPC aMf [] Tryz.func233 (fun x => ax5 x.1) fun _ y _ h => ax6 _ y h
def aKv := okT 205 (P1 .str) (P1 tM) akD aJL [amK] Tryz.func205 (fun x => atQ x.1) fun _ y _ h => au6 _ y h
def axV := okT 173 tF (P2 .str .bool) ab4 aHT [] Tryz.func173 (fun x => apT x.1 x.2.1) fun _ y hw h => aDc _ _ (zC hw.1 zf) y h
def avZ := okT 172 (P1 .str) (P2 (P2 tM .bool) .bool) afV aPU [aKv, axV] Tryz.func172 (fun x => aBZ x.1) fun _ y _ h => aJJ _ y h
def axM := okT 137 (P1 .str) (P1 tI) afX aMp [avZ] Tryz.func137 (fun x => awG x.1) fun _ y _ h => aGm _ y h
def amM := okT 207 (P1 tM) (P1 tM) acU aOq [] Tryz.func207 (fun x => ax5 x.1) fun _ y _ h => ax6 _ y h
def aKR := okT 174 (P1 .str) (P1 tM) ahQ aLg [amM] Tryz.func174 (fun x => atQ x.1) fun _ y _ h => au6 _ y h
def aBa := okT 138 (P1 .str) (P1 (P2 tM .bool)) agI aLf [axV, aKR] Tryz.func138 (fun x => aBu x.1) fun _ y _ h => aFo _ y h
def ah0 := okT 152 (P1 tM) (P1 .bool) adQ aOp [] Tryz.func152 (fun x => aqX x.1) fun _ y _ h => ax4 _ y h
def axU := okT 139 (P1 (P2 tM .bool)) (P1 tI) akN aOy [ah0] Tryz.func139 (fun x => ayF x.1) fun _ y _ h => aHC _ y h
def ak2 := okT 176 (P1 (.int .u64)) (P1 tM) abT aCX [] Tryz.func176 (fun x => alC x.1) fun _ y _ h => amS _ y h
def aKO := okT 175 (P1 tM) (P1 (.int .u64)) aoK aK6 [] Tryz.func175 (fun x => aBp x.1) fun _ y _ h => aFg _ y h
def aKP := okT 208 (P2 tM (.int .u32)) (P2 tM (.int .u32)) akK aK7 [amM] Tryz.func208 (fun x => an3 x.1 x.2.1) fun _ y _ h => au2 _ _ y h
def amN := okT 141 (P2 tM tM) (P1 tI) aeB aFj [] Tryz.func141 (fun x => ai0 x.1 x.2.1) fun _ y _ h => ao1 _ _ y h
def aj3 := okT 180 (P2 tM tM) (P1 tM) acM aK5 [amM] Tryz.func180 (fun x => an2 x.1 x.2.1) fun _ y _ h => au1 _ _ y h
end
set_option maxRecDepth 1000000
open Go Go.Vg Go.Proofs
noncomputable section
def ah1 := okT 177 (P2 tM tM) (P2 tM tM) abI aHy [amM, aKP, amN, ak2, aj3] Tryz.func177 (fun x => ak8 x.1 x.2.1) fun _ y _ h => aq0 _ _ y h
def av0 := okT 140 (P2 tM tM) (P1 tM) ahK aQ9 [ak2, aKO, ah1, ah0] Tryz.func140 (fun x => aCP x.1 x.2.1) fun _ y _ h => aK9 _ _ y h
def ahF := okT 89 (P1 tF) (P2 (P2 (P2 tM .bool) tM) .bool) abR aRc [axM, aBa, axU, av0, amN] Tryz.func89 (fun x => aCW x.1) fun _ y _ h => aLe _ y h
def aNP := okT 44 (P1 tF) (P1 tI) akQ aOE [ahF] Tryz.func44 (fun x => ayJ x.1) fun _ y _ h => aHK _ y h
def aRN := okT 194 (P1 tI) (P1 .str) avF aS4 [aNL] Tryz.func194 (fun x => aRD x.1) fun _ y _ h => aPY _ y h
def adT := okT 179 (P2 tM .bool) (P1 (P2 tM .bool)) abC aLd [ah0] Tryz.func179 (fun x => aBt x.1 x.2.1) fun _ y _ h => aFn _ _ y h
def aHc := okT 220 (P2 (P2 tM .bool) tM) (P1 (P2 (P2 tM .bool) tM)) alV aHE [av0, ah1, adT] Tryz.func220 (fun x => apQ x.1 x.2.1) fun _ y _ h => aCV _ _ y h
def aHb := okT 191 (P1 tM) (P1 tI) aiM aHx [ah0, aNL] Tryz.func191 (fun x => ak7 x.1) fun _ y _ h => aqZ _ y h
def axT := okT 146 (P1 (P2 tM .bool)) (P1 .str) akM aOx [axS] Tryz.func146 (fun x => ayE x.1) fun _ y _ h => aHB _ y h
def aj2 := okT 154 (P1 (P2 (P2 tM .bool) tM)) (P2 tF tI) afI aK0 [aHb, axT, axS] Tryz.func154 (fun x => atK x.1) fun _ y _ h => aFb _ y h
def aQL := okT 193 tF (P2 tF tI) ar2 aRg [axM, aBa, ah0, adT, aHc, aj2] Tryz.func193 (fun x => aC0 x.1 x.2.1) fun _ y _ h => aLj _ _ y h
def aRO := okT 157 tB (P2 tF tI) alZ aTx [aRN, aQL] Tryz.func157 (fun x => aRQ x.1 x.2.1) fun _ y _ h => aRe _ _ y h
def av1 := okT 100 tB (P1 tF) ab0 aRq [aRO] Tryz.func100 (fun x => aJl x.1 x.2.1) fun _ y _ h => aLw _ _ y h
def ak3 := okT 91 (P1 tI) (P1 tF) aaI aH1 [av1] Tryz.func91 (fun x => ay3 x.1) fun _ y _ h => aDk _ y h
def apH := okT 189 (P2 (P2 tM .bool) tM) (P1 (P2 tM .bool)) aeC aHD [aj3, adT] Tryz.func189 (fun x => apP x.1 x.2.1) fun _ y _ h => aCT _ _ y h
def aqO := okT 192 (P1 (P2 tM .bool)) (P1 (P2 tM .bool)) af0 aCU [adT] Tryz.func192 (fun x => aq3 x.1) fun _ y _ h => ayG _ y h
def aEP := okT 181 (P2 tM tM) (P1 tM) am9 aOr [] Tryz.func181 (fun x => aqY x.1 x.2.1) fun _ y _ h => ax9 _ _ y h
def aKQ := okT 219 (P2 tM tM) (P1 tM) akL aK8 [amM] Tryz.func219 (fun x => an4 x.1 x.2.1) fun _ y _ h => au3 _ _ y h
def aCB := okT 190 (P2 (P2 tM .bool) (P2 tM .bool)) (P1 (P2 tM .bool)) aoL aRb [aEP, adT, amN, aKQ] Tryz.func190 (fun x => aCS x.1 x.2.1) fun _ y _ h => aLb _ _ y h
def aKN := okT 156 (P2 (P2 (P2 tM .bool) tM) (P2 (P2 tM .bool) tM)) (P1 tI) aoJ aK2 [apH, aqO, aCB, axU] Tryz.func156 (fun x => atL x.1 x.2.1) fun _ y _ h => aFc _ _ y h
end
set_option maxRecDepth 1000000
open Go Go.Vg Go.Proofs
noncomputable section
def aHe := okT 99 (P2 tF tF) tB af1 aSN [ahF, aKN] Tryz.func99 (fun x => aHJ x.1 x.2.1) fun _ y _ h => aOD _ _ y h
def aqP := okT 48 (P1 tF) (P1 tF) ab7 aDm [ak3, aHe] Tryz.func48 (fun x => alJ x.1) fun _ y _ h => ay4 _ y h
def aIY := okT 144 (P2 (P2 (P2 tM .bool) tM) (P2 (P2 tM .bool) tM)) (P1 (P2 (P2 tM .bool) tM)) arZ aQ7 [av0, ah1, aj3, adT] Tryz.func144 (fun x => aCM x.1 x.2.1) fun _ y _ h => aK3 _ _ y h
def aHd := okT 90 (P2 tF tF) (P2 tF tI) adU aSL [ahF, aIY, aj2] Tryz.func90 (fun x => aHG x.1 x.2.1) fun _ y _ h => aOA _ _ y h
def aIZ := okT 151 (P2 (P2 (P2 tM .bool) tM) (P2 (P2 tM .bool) tM)) (P1 (P2 (P2 tM .bool) tM)) ar0 aQ8 [av0, ah1, apH, aCB, adT, aj3] Tryz.func151 (fun x => aCN x.1 x.2.1) fun _ y _ h => aK4 _ _ y h
def aHf := okT 97 (P2 tF tF) (P2 tF tI) aeD aSO [ahF, aIZ, aj2] Tryz.func97 (fun x => aHL x.1 x.2.1) fun _ y _ h => aOF _ _ y h
def aEO := okT 153 (P1 (P2 (P2 tM .bool) tM)) (P1 (P2 (P2 tM .bool) tM)) ajC aFe [adT] Tryz.func153 (fun x => auZ x.1) fun _ y _ h => aAp _ y h
def aNO := okT 98 (P2 tF tF) (P2 tF tI) aeT aSM [ahF, ah0, aEO, aIY, aj2] Tryz.func98 (fun x => aHI x.1 x.2.1) fun _ y _ h => aOC _ _ y h
def aEQ := okT 101 (P2 (P3 tS tI .bool) tF) (P2 tF tI) akR aO1 [ak3, aHd, aHf, aNO] Tryz.func101 (fun x => ayR x.1 x.2.1) fun _ y _ h => aHW _ _ y h
def aQJ := okT 102 (P1 tF) tB ar1 aRd [ahF, axU] Tryz.func102 (fun x => aCY x.1) fun _ y _ h => aLh _ y h
def aER := okT 47 (P2 (P1 tC) tF) (P2 tF tI) ajD aFF [av1, aHe, aHd, aHf, aqP, aEQ, aQJ, ak3] Tryz.func47 (fun x => amW x.1 x.2.1) fun _ y _ h => aAu _ _ y h
def aA9 := okT 145 (P2 (P2 tM .bool) tM) (P1 (P2 tM .bool)) akO aLc [ah1, ah0, aEP, adT] Tryz.func145 (fun x => atP x.1 x.2.1) fun _ y _ h => aFl _ _ y h
def aNN := okT 92 (P1 tF) (P2 .str tI) akP aOB [ahF, aA9, axT] Tryz.func92 (fun x => ayI x.1) fun _ y _ h => aHH _ y h
def aEN := okT 188 (P1 (P2 (P2 tM .bool) tM)) (P1 (P2 (P2 tM .bool) tM)) ajB aFd [aqO] Tryz.func188 (fun x => auY x.1) fun _ y _ h => aAo _ y h
def aQI := okT 150 (P2 (P2 (P2 tM .bool) tM) (P2 (P2 tM .bool) tM)) (P1 (P2 (P2 tM .bool) tM)) awB aQ6 [aEN, aIZ] Tryz.func150 (fun x => aI9 x.1 x.2.1) fun _ y _ h => aK1 _ _ y h
def aSp := okT 96 (P2 tF tF) (P2 tF tI) afA aSK [ahF, aQI, aj2] Tryz.func96 (fun x => aHF x.1 x.2.1) fun _ y _ h => aOz _ _ y h
def aBb := okT 46 (P2 (P1 tC) tF) (P2 tF tI) agK aLs [ak3, aHd, aNN, aTh, aSp, aHf, aNO] Tryz.func46 (fun x => atX x.1 x.2.1) fun _ y _ h => aFE _ _ y h
def aCC := okT 45 (P2 (P1 tC) tF) (P2 tF tI) ahL aDj [] Tryz.func45 (fun x => arB x.1 x.2.1) fun _ y _ h => ay2 _ _ y h
def aCD := okT 14 (P2 tC tF) (P2 tF tI) ab8 aRs [aqQ, aNP, aqP, aER, aBb, aCC] Tryz.func14 (fun x => aDn x.1 x.2.1) fun _ y _ h => aLz _ _ y h
def axN := okT 106 (P3 tI tI tI) (P1 .bool) acF aGA [] Tryz.func106 (fun x => apA x.1 x.2.1 x.2.2.1) fun _ y _ h => aCi _ _ _ y h
end
set_option maxRecDepth 1000000
open Go Go.Vg Go.Proofs
noncomputable section
def axQ := okT 126 tB (P1 .bool) abH aGE [] Tryz.func126 (fun x => apB x.1 x.2.1) fun _ y _ h => aCl _ _ y h
def aEJ := okT 107 (P1 tS) (P1 .bool) ai7 aD6 [axN, axQ] Tryz.func107 (fun x => amC x.1) fun _ y _ h => aAf _ y h
def aKx := okT 49 (P1 tC) (P1 .bool) ahO aJY [axN, aEJ] Tryz.func49 (fun x => asQ x.1) fun _ y _ h => aD8 _ y h
def aKF := okT 124 (P1 .str) (P1 .bool) agG aKj [] Tryz.func124 (fun x => asY x.1) fun _ y _ h => aEt _ y h
def aqM := okT 130 (P1 tL) (P1 tL) ac1 aQq [] Tryz.func130 (fun x => aII x.1) fun _ y _ h => aKg _ y h
def ahZ := okT 80 (P2 .bool tL) (P1 (P2 .bool tL)) abE aM7 [aqM] Tryz.func80 (fun x => aEo x.1 x.2.1) fun _ y _ h => aGO _ _ y h
def aG8 := okT 38 (P1 .str) (P1 (P2 .bool tL)) alU aSf [ahZ] Tryz.func38 (fun x => aGV x.1) fun _ y _ h => aNc _ y h
def auT := okT 134 (P2 tL tL) (P1 tL) abY aEl [aqM] Tryz.func134 (fun x => afE x.1 x.2.1) fun _ y _ h => aAi _ _ y h
def aA7 := okT 132 (P2 tL tL) (P1 tI) agF aKf [] Tryz.func132 (fun x => asU x.1 x.2.1) fun _ y _ h => aEn _ _ y h
def amL := okT 133 (P2 tL tL) (P1 tL) abF aw8 [aqM] Tryz.func133 (fun x => amJ x.1 x.2.1) fun _ y _ h => asW _ _ y h
def aNE := okT 171 (P2 tL tI) (P2 tL tI) arT aM6 [aqM] Tryz.func171 (fun x => aw6 x.1 x.2.1) fun _ y _ h => aGN _ _ y h
def aA6 := okT 135 (P2 tL tL) (P2 tL tL) akH aKe [auT, aqM, aA7, amL, aNE] Tryz.func135 (fun x => asS x.1 x.2.1) fun _ y _ h => aEm _ _ y h
def auU := okT 86 (P2 (P2 .bool tL) (P2 .bool tL)) (P1 (P2 .bool tL)) afH aEy [aA6] Tryz.func86 (fun x => auP x.1 x.2.1) fun _ y _ h => aAk _ _ y h
def aNF := okT 170 (P1 tI) (P1 .str) arU aM8 [] Tryz.func170 (fun x => aw7 x.1) fun _ y _ h => aGP _ y h
def aEM := okT 125 (P1 (P2 .bool tL)) (P1 .str) am7 aNa [aNF] Tryz.func125 (fun x => aw9 x.1) fun _ y _ h => aGR _ y h
def af6 := okT 65 (P1 tF) (P1 .bool) aa9 aJ2 [aKF, aG8, auU, aEM] Tryz.func65 (fun x => asR x.1) fun _ y _ h => aEd _ y h
def aKD := okT 50 (P1 tF) (P1 tI) akG aKb [af6] Tryz.func50 (fun x => aAW x.1) fun _ y _ h => aEk _ y h
def ag1 := okT 40 (P1 tI) (P1 (P2 .bool tL)) aa4 aEx [ahZ] Tryz.func40 (fun x => auO x.1) fun _ y _ h => aAj _ y h
def axR := okT 85 (P1 (P2 .bool tL)) (P1 (P2 .bool tL)) aiJ aM9 [ahZ] Tryz.func85 (fun x => aEr x.1) fun _ y _ h => aGQ _ y h
def aQF := okT 131 (P2 tL tL) (P1 tL) awA aQp [] Tryz.func131 (fun x => aIH x.1 x.2.1) fun _ y _ h => aKd _ _ y h
end
set_option maxRecDepth 1000000
open Go Go.Vg Go.Proofs
noncomputable section
def aqN := okT 81 (P2 (P2 .bool tL) (P2 .bool tL)) (P1 (P2 .bool tL)) aeZ aNb [aQF, ahZ, aA7, amL] Tryz.func81 (fun x => axD x.1 x.2.1) fun _ y _ h => aGU _ _ y h
def aA8 := okT 136 (P2 (P2 .bool tL) (P2 .bool tL)) (P1 (P2 .bool tL)) akI aKn [axR, aqN] Tryz.func136 (fun x => aA0 x.1 x.2.1) fun _ y _ h => aEw _ _ y h
def aKG := okT 87 (P2 (P2 .bool tL) (P2 .bool tL)) (P2 (P2 .bool tL) (P2 .bool tL)) agH aKk [aA6, ahZ, aqN, ag1, aA8] Tryz.func87 (fun x => asZ x.1 x.2.1) fun _ y _ h => aEu _ _ y h
def ahY := okT 42 (P2 (P2 .bool tL) (P2 .bool tL)) (P1 (P2 (P2 .bool tL) (P2 .bool tL))) acX aGL [axR, auU, aKG] Tryz.func42 (fun x => apC x.1 x.2.1) fun _ y _ h => aCm _ _ y h
def aKA := okT 88 tB (P1 (P2 (P2 .bool tL) (P2 .bool tL))) aoD aJ3 [ag1, ahY] Tryz.func88 (fun x => aAS x.1 x.2.1) fun _ y _ h => aEe _ _ y h
def aIX := okT 84 (P1 (P2 .bool tL)) (P2 .str tI) ajA aQr [aEM] Tryz.func84 (fun x => aIJ x.1) fun _ y _ h => aKl _ y h
def anU := okT 41 (P1 (P2 (P2 .bool tL) (P2 .bool tL))) (P2 tF tI) afZ aQk [aIX] Tryz.func41 (fun x => aIC x.1) fun _ y _ h => aJ4 _ y h
def aNB := okT 43 tB (P2 tF tI) ap0 aSd [aKA, anU] Tryz.func43 (fun x => aGK x.1 x.2.1) fun _ y _ h => aM2 _ _ y h
def axO := okT 61 tB (P1 tF) adE aSc [aNB] Tryz.func61 (fun x => aMU x.1 x.2.1) fun _ y _ h => aMV _ _ y h
def as6 := okT 67 (P1 tF) (P1 (P2 (P2 .bool tL) (P2 .bool tL))) adH aSe [aG8] Tryz.func67 (fun x => aM3 x.1) fun _ y _ h => aM4 _ y h
def ahN := okT 82 (P2 (P2 .bool tL) (P2 .bool tL)) (P1 (P2 .bool tL)) abJ aKi [auT, ahZ] Tryz.func82 (fun x => aAX x.1 x.2.1) fun _ y _ h => aEs _ _ y h
def aKH := okT 127 (P2 (P2 .bool tL) (P2 .bool tL)) (P1 tI) aoG aKm [aA8] Tryz.func127 (fun x => aAZ x.1 x.2.1) fun _ y _ h => aEv _ _ y h
def aA5 := okT 73 (P2 (P2 (P2 .bool tL) (P2 .bool tL)) (P2 (P2 .bool tL) (P2 .bool tL))) (P1 tI) agE aJ5 [ahN, aKH] Tryz.func73 (fun x => aAT x.1 x.2.1) fun _ y _ h => aEh _ _ y h
def aKC := okT 108 (P3 tF tF tF) (P2 tF tI) aoF aKa [af6, as6, aA5] Tryz.func108 (fun x => aAV x.1 x.2.1 x.2.2.1) fun _ y _ h => aEj _ _ _ y h
def auS := okT 51 (P1 tF) (P1 tF) ag8 aEa [axO, aKC] Tryz.func51 (fun x => amH x.1) fun _ y _ h => aAh _ y h
def aQE := okT 26 (P2 tF tF) tB arS aQn [af6, as6, aA5] Tryz.func26 (fun x => aIF x.1 x.2.1) fun _ y _ h => aJ9 _ _ y h
def axP := okT 109 (P2 tF tF) (P1 .bool) aiH aMW [aQE] Tryz.func109 (fun x => awX x.1 x.2.1) fun _ y _ h => aGC _ _ y h
def aNz := okT 195 (P1 (P2 (P2 .bool tL) (P2 .bool tL))) (P1 (P2 (P2 .bool tL) (P2 .bool tL))) arP aMZ [axR] Tryz.func195 (fun x => aEb x.1) fun _ y _ h => aGH _ y h
def aEL := okT 68 (P2 (P2 (P2 .bool tL) (P2 .bool tL)) (P2 (P2 .bool tL) (P2 .bool tL))) (P1 (P2 (P2 .bool tL) (P2 .bool tL))) am6 aM0 [ahN, aqN, ahY] Tryz.func68 (fun x => aEf x.1 x.2.1) fun _ y _ h => aGI _ _ y h
def aKB := okT 158 (P2 (P2 (P2 .bool tL) (P2 .bool tL)) (P2 (P2 .bool tL) (P2 .bool tL))) (P1 (P2 (P2 .bool tL) (P2 .bool tL))) aoE aJ7 [aNz, aEL] Tryz.func158 (fun x => aAU x.1 x.2.1) fun _ y _ h => aEi _ _ y h
end
set_option maxRecDepth 1000000
open Go Go.Vg Go.Proofs
noncomputable section
def aQD := okT 110 (P2 tF tF) (P2 tF tI) aoC aQj [af6, as6, aKB, anU] Tryz.func110 (fun x => aIB x.1 x.2.1) fun _ y _ h => aJ1 _ _ y h
def aKz := okT 66 (P2 (P2 (P2 .bool tL) (P2 .bool tL)) (P2 (P2 .bool tL) (P2 .bool tL))) (P1 (P2 (P2 .bool tL) (P2 .bool tL))) aoB aJ0 [ahN, ahY] Tryz.func66 (fun x => aAR x.1 x.2.1) fun _ y _ h => aEc _ _ y h
def aCz := okT 18 (P2 tF tF) (P2 tF tI) ahJ aQl [af6, as6, aKz, anU] Tryz.func18 (fun x => aID x.1 x.2.1) fun _ y _ h => aJ6 _ _ y h
def aCA := okT 19 (P2 tF tF) (P2 tF tI) ai9 aQo [af6, as6, aEL, anU] Tryz.func19 (fun x => aIG x.1 x.2.1) fun _ y _ h => aKc _ _ y h
def aNA := okT 159 (P2 (P2 (P2 .bool tL) (P2 .bool tL)) (P2 (P2 .bool tL) (P2 .bool tL))) (P1 (P2 (P2 .bool tL) (P2 .bool tL))) arQ aM1 [ahN, ahY] Tryz.func159 (fun x => aEg x.1 x.2.1) fun _ y _ h => aGJ _ _ y h
def aIW := okT 111 (P2 tF tF) (P2 tF tI) alT aQm [af6, as6, aNA, anU] Tryz.func111 (fun x => aIE x.1 x.2.1) fun _ y _ h => aJ8 _ _ y h
def aKw := okT 52 (P2 tL tF) (P2 tF tI) aoA aJX [axO, axP, aQD, aCz, aCA, aIW] Tryz.func52 (fun x => asP x.1 x.2.1) fun _ y _ h => aD5 _ _ y h
def aNv := okT 53 (P2 tC tF) (P1 tI) arO aMT [axO, axP] Tryz.func53 (fun x => awW x.1 x.2.1) fun _ y _ h => aGB _ _ y h
def aNw := okT 112 (P2 tS tF) (P2 tF tI) azP aMX [axO, aCz, aCA, aIW] Tryz.func112 (fun x => awZ x.1 x.2.1) fun _ y _ h => aGF _ _ y h
def aEK := okT 54 (P2 tS tF) (P2 tF tI) ai8 aD7 [aCz, axO, aCA, auS, aNw, axP] Tryz.func54 (fun x => amD x.1 x.2.1) fun _ y _ h => aAg _ _ y h
def aNx := okT 15 (P2 tC tF) (P2 tF tI) akE aMY [aKx, aKD, auS, aKw, aNv, aEK] Tryz.func15 (fun x => aw2 x.1 x.2.1) fun _ y _ h => aGG _ _ y h
def aG7 := okT 83 (P2 (P2 .bool tL) tI) (P1 (P2 .bool tL)) aiK aGT [ahN, ag1] Tryz.func83 (fun x => axC x.1 x.2.1) fun _ y _ h => aCo _ _ y h
def aKE := okT 39 (P1 (P3 .bool (.sl (.int .u16)) (.int .u16))) (P1 .str) ahP aKh [ag1, ahN, aqN, aG7, ahZ, aIX] Tryz.func39 (fun x => aj0 x.1) fun _ y _ h => aEq _ y h
def aNC := okT 12 (P1 (P2 (P3 .bool (.sl (.int .u16)) (.int .u16)) (P3 .bool (.sl (.int .u16)) (.int .u16)))) (P1 tF) arR aM5 [aKE, aG8, ag1, ahY, anU] Tryz.func12 (fun x => ahW x.1) fun _ y _ h => aGM _ y h
def aNJ := okT 13 tB (P1 tF) adF aSz [aNB] Tryz.func13 (fun x => aOc x.1 x.2.1) fun _ y _ h => aOd _ _ y h
def aNI := okT 34 .unit (P1 tC) arX aOb [] Tryz.func34 (fun x => l9_root_t) fun _ y _ h => aHn y h
def ah2 := okT 115 tB (P1 .bool) aeF aPn [] Tryz.func115 (fun x => azD x.1 x.2.1) fun _ y _ h => aH8 _ _ y h
def aCE := okT 116 tB (P2 tB tI) ajF aRt [ah2] Tryz.func116 (fun x => aDr x.1 x.2.1) fun _ y _ h => aLI _ _ y h
def aET := okT 55 (P3 tB tI tI) (P2 tB tI) akS aPq [ah2, aCE] Tryz.func55 (fun x => azE x.1 x.2.1 x.2.2.1) fun _ y _ h => aIa _ _ _ y h
def aNM := okT 222 (P2 (P2 (P2 tM .bool) tM) tM) (P1 (P2 tM .bool)) arY aOm [aj3, apH, adT, aCB, aA9] Tryz.func222 (fun x => ax2 x.1 x.2.1) fun _ y _ h => aHw _ _ y h
end
set_option maxRecDepth 1000000
open Go Go.Vg Go.Proofs
noncomputable section
def aNu := okT 221 (P1 .str) tB alS aRZ [axM, aTf] Tryz.func221 (fun x => aGk x.1) fun _ y _ h => aMn _ y h
def aQK := okT 196 (P2 tF tI) tB alW aRf [ahF, ak2, aNM, axT, aNu] Tryz.func196 (fun x => aCZ x.1 x.2.1) fun _ y _ h => aLi _ _ y h
def aBd := okT 160 (P1 tF) (P2 tB tI) agN aLK [aQK, aRO, aHe, ah2, aCE] Tryz.func160 (fun x => at6 x.1) fun _ y _ h => aFP _ y h
def aSn := okT 251 (P1 tL) (P1 tI) azN aR6 [] Tryz.func251 (fun x => aGu x.1) fun _ y _ h => aMA _ y h
def aNS := okT 231 (P1 tL) (P1 tI) azR aPo [aSn] Tryz.func231 (fun x => aFN x.1) fun _ y _ h => aH9 _ y h
def aSo := okT 252 (P1 tL) (P1 tI) azO aR7 [] Tryz.func252 (fun x => aGv x.1) fun _ y _ h => aMB _ y h
def aES := okT 232 (P1 tL) (P1 tI) anB aFO [aSo] Tryz.func232 (fun x => avD x.1) fun _ y _ h => aAx _ y h
def aQM := okT 163 (P2 tB tB) (P2 tB tI) ar3 aRv [ah2, aNS, aES] Tryz.func163 (fun x => aDs x.1 x.2.1) fun _ y _ h => aLJ _ _ y h
def aI0 := okT 120 (P1 (.sl tB)) (P2 tB tI) ajE aRr [aQM] Tryz.func120 (fun x => aDl x.1) fun _ y _ h => aLx _ y h
def aBc := okT 118 (P1 (.sl tF)) (P2 tB tI) afJ aLy [aBd, aI0] Tryz.func118 (fun x => at3 x.1) fun _ y _ h => aFI _ y h
def aNT := okT 197 (P1 tB) (P1 tI) ar4 aPr [ah2] Tryz.func197 (fun x => azF x.1) fun _ y _ h => aIb _ y h
def aKI := okT 198 (P1 tB) (P1 .bool) auC aKq [] Tryz.func198 (fun x => as2 x.1) fun _ y _ h => aEC _ y h
def anT := okT 257 (P2 tM tM) (P1 tM) akB aJF [amK] Tryz.func257 (fun x => an2 x.1 x.2.1) fun _ y _ h => au1 _ _ y h
def aA4 := okT 242 (P2 tM tI) (P1 tM) akC aJH [anT] Tryz.func242 (fun x => aAD x.1 x.2.1) fun _ y _ h => aDN _ _ y h
def aqJ := okT 246 (P1 tM) (P1 .bool) aiG aMe [] Tryz.func246 (fun x => aqX x.1) fun _ y _ h => ax4 _ y h
def aIV := okT 241 (P2 tM .bool) (P1 (P2 tM .bool)) ai6 aS3 [aqJ] Tryz.func241 (fun x => aRC x.1 x.2.1) fun _ y _ h => aPW _ _ y h
def axK := okT 255 (P1 tM) (P1 tI) alO aGe [aqJ, aNL] Tryz.func255 (fun x => ak7 x.1) fun _ y _ h => aqZ _ y h
def aqK := okT 240 (P1 (P2 tM .bool)) (P2 .str tI) adC aMj [axK, aG4] Tryz.func240 (fun x => awF x.1) fun _ y _ h => aGg _ y h
def aNt := okT 224 (P2 .str tI) (P2 .str tI) am5 aRX [avZ, aA4, aIV, aqK] Tryz.func224 (fun x => aGi x.1 x.2.1) fun _ y _ h => aMl _ _ y h
def aG9 := okT 226 (P1 tI) (P1 .str) aiL aG1 [aTe] Tryz.func226 (fun x => apF x.1) fun _ y _ h => aCv _ y h
end
set_option maxRecDepth 1000000
open Go Go.Vg Go.Proofs
noncomputable section
def aIU := okT 245 tF (P3 (P2 tM .bool) (P2 tM .bool) tI) afW aPV [avZ] Tryz.func245 (fun x => aB0 x.1 x.2.1) fun _ y _ h => aJK _ _ y h
def aEH := okT 260 (P2 (P2 tM .bool) (P2 tM .bool)) (P1 (P2 tM .bool)) ai5 aDL [anT, aIV] Tryz.func260 (fun x => al3 x.1 x.2.1) fun _ y _ h => az9 _ _ y h
def aSl := okT 225 tF (P2 .str tI) auA aRY [aIU, aEH, aqK] Tryz.func225 (fun x => aGj x.1 x.2.1) fun _ y _ h => aMm _ _ y h
def aA3 := okT 267 (P2 tM (.int .u32)) (P2 tM (.int .u32)) at8 aJG [amK] Tryz.func267 (fun x => an3 x.1 x.2.1) fun _ y _ h => au2 _ _ y h
def auR := okT 266 (P2 tM tM) (P1 tI) am4 aDO [] Tryz.func266 (fun x => ai0 x.1 x.2.1) fun _ y _ h => ao1 _ _ y h
def aqL := okT 268 (P1 (.int .u64)) (P1 tM) ahI aB1 [] Tryz.func268 (fun x => alC x.1) fun _ y _ h => amS _ y h
def axL := okT 247 (P2 tM tM) (P2 tM tM) alP aGf [amK, aA3, auR, aqL, anT] Tryz.func247 (fun x => ak8 x.1 x.2.1) fun _ y _ h => aq0 _ _ y h
def aEI := okT 248 (P2 tM tM) (P1 tM) arM aMh [] Tryz.func248 (fun x => aqY x.1 x.2.1) fun _ y _ h => ax9 _ _ y h
def aG5 := okT 281 (P1 tI) (P1 tM) alR aGh [] Tryz.func281 (fun x => ao6 x.1) fun _ y _ h => aBY _ y h
def aNs := okT 270 (P2 tM tI) (P1 tM) arL aMg [aA4, axL, aqL, anT, aEI, aA3, auR, aqJ, axK, aG5] Tryz.func270 (fun x => aDM x.1 x.2.1) fun _ y _ h => aGd _ _ y h
def aQC := okT 250 (P2 .str tI) (P2 .str tI) arN aPX [avZ, aNs, aIV, aqK] Tryz.func250 (fun x => aB2 x.1 x.2.1) fun _ y _ h => aJM _ _ y h
def aQH := okT 228 (P2 .str tI) (P3 .str .bool tI) arW aQy [aQC, aNt] Tryz.func228 (fun x => aCw x.1 x.2.1) fun _ y _ h => aKs _ _ y h
def aHa := okT 229 (P2 .str .bool) tB acY aG2 [aNu] Tryz.func229 (fun x => apG x.1 x.2.1) fun _ y _ h => aCx _ _ y h
def aKu := okT 249 (P2 tM tM) (P1 tM) at9 aJI [amK] Tryz.func249 (fun x => an4 x.1 x.2.1) fun _ y _ h => au3 _ _ y h
def aSm := okT 227 tF (P3 .str .str tI) auB aR0 [aIU, aqJ, axL, aEI, aKu, aIV, aqK] Tryz.func227 (fun x => aGl x.1 x.2.1) fun _ y _ h => aMo _ _ y h
def aQG := okT 200 (P3 (P1 tB) tI .bool) tB arV aQu [aRN, aNt, aG9, aSl, aQH, aHa, aSm] Tryz.func200 (fun x => aCr x.1 x.2.1 x.2.2.1) fun _ y _ h => aKp _ _ _ y h
def aTg := okT 223 tB (P2 tB tI) aJs aTD [ah2] Tryz.func223 (fun x => aPp x.1 x.2.1) fun _ y _ h => aRu _ _ y h
def aNG := okT 161 (P3 tB tI tI) (P2 tB tI) azQ aNi [aNT, aKI, aQG, aTg] Tryz.func161 (fun x => axH x.1 x.2.1 x.2.2.1) fun _ y _ h => aG3 _ _ _ y h
def aSq := okT 162 (P2 tB tB) (P2 tB tI) aIg aSY [ah2, aCE] Tryz.func162 (fun x => aIc x.1 x.2.1) fun _ y _ h => aPs _ _ y h
def aHg := okT 119 (P3 (P3 tS tI .bool) tI tI) (P2 tB tI) aeE aHU [av1, aEQ, aBc, aNG, aBd, aSq, aET] Tryz.func119 (fun x => apU x.1 x.2.1 x.2.2.1) fun _ y _ h => aDe _ _ _ y h
end
set_option maxRecDepth 1000000
open Go Go.Vg Go.Proofs
noncomputable section
def avN := okT 58 (P2 (P1 tC) tB) (P2 tB tI) adR avR [aHg, aI0] Tryz.func58 (fun x => ahC x.1 x.2.1) fun _ y _ h => arF _ _ y h
def aAl := okT 57 (P2 (P1 tC) tB) (P2 tB tI) ae0 aAt [as8, av1, aBc, aBb] Tryz.func57 (fun x => ajS x.1 x.2.1) fun _ y _ h => avQ _ _ y h
def as7 := okT 56 (P2 (P1 tC) tB) (P2 tB tI) agL atY [] Tryz.func56 (fun x => aj7 x.1 x.2.1) fun _ y _ h => apX _ _ y h
def aNR := okT 16 (P2 tC tB) (P2 tB tI) ahA aPf [aqQ, aET, avN, aAl, as7] Tryz.func16 (fun x => ay9 x.1 x.2.1) fun _ y _ h => aH4 _ _ y h
def aNH := okT 35 .unit (P1 tC) akJ aOa [] Tryz.func35 (fun x => l9_tent_t) fun _ y _ h => aHm y h
def aNQ := okT 25 (P1 tC) tB anA aPd [aqQ] Tryz.func25 (fun x => ay7 x.1) fun _ y _ h => aH2 _ y h
def aKK := okT 20 (P3 tC tF tF) (P1 .bool) aeL aKX [aCD] Tryz.func20 (fun x => atG x.1 x.2.1 x.2.2.1) fun _ y _ h => aE2 _ _ _ y h
def aKM := okT 36 .unit (P1 tC) aoI aKZ [] Tryz.func36 (fun x => l9_steps_t) fun _ y _ h => aE4 y h
def aKJ := okT 10 .unit (P1 .bool) auD aKW [aNI, aNJ, aCD, aNR, aNH, aNQ, aKK, aKM, aqQ] Tryz.func10 (fun x => l9_wakes_t) fun _ y _ h => aE1 y h
def aCy := okT 69 (P1 (.pair (.int .u8) (P4 (.sl (.int .u16)) (.sl (.pair (.int .u8) (.pair (.int .i16) (P4 (.int .i16) (.int .i16) (.int .u8) (.int .u8))))) .bool .bool))) (P1 tC) afY aCk [axQ] Tryz.func69 (fun x => ahE x.1) fun _ y _ h => awY _ y h
def aG6 := okT 70 (P1 (.pair (.int .u8) (P4 (.sl (.int .u16)) (.sl (.pair (.int .u8) (.pair (.int .i16) (P4 (.int .i16) (.int .i16) (.int .u8) (.int .u8))))) .bool .bool))) (P1 tC) aiI aGD [] Tryz.func70 (fun x => akX x.1) fun _ y _ h => aCj _ y h
def aKy := okT 21 (P1 (.pair (.int .u8) (P4 (.sl (.int .u16)) (.sl (.pair (.int .u8) (.pair (.int .i16) (P4 (.int .i16) (.int .i16) (.int .u8) (.int .u8))))) .bool .bool))) (P1 tC) akF aJZ [aCy, aG6] Tryz.func21 (fun x => anP x.1) fun _ y _ h => aD9 _ y h
def aNK := okT 37 (P2 (P3 (.int .u8) (.int .u8) tI) tC) (P1 tC) am8 aOe [] Tryz.func37 (fun x => amP x.1 x.2.1) fun _ y _ h => aHo _ _ y h
def aKL := okT 11 (P2 (.pair (.int .u8) (P4 (.sl (.int .u16)) (.sl (.pair (.int .u8) (.pair (.int .i16) (P4 (.int .i16) (.int .i16) (.int .u8) (.int .u8))))) .bool .bool)) (.arr 2 (.pair (.int .u8) (.pair (.int .u8) (.pair (.int .i64) .unit))))) (P1 (.arr 3 (.pair (.int .i64) (.pair (.sl (.int .i64)) (.pair (.sl (.pair (.int .i64) (.pair (.int .i64) (.pair (.int .i64) (.pair (.int .i64) (.pair (.int .i64) (.pair (.int .i64) .unit))))))) .unit))))) aoH aKY [aKy, aNK] Tryz.func11 (fun x => aj4 x.1 x.2.1) fun _ y _ h => aE3 _ _ y h
def o_CurveEvals := okT 3 (.pair (.pair (.int .u8) (P4 (.sl (.int .u16)) (.sl (.pair (.int .u8) (.pair (.int .i16) (P4 (.int .i16) (.int .i16) (.int .u8) (.int .u8))))) .bool .bool)) (P4 (.arr 2 (.pair (.int .u8) (.pair (.int .u8) (.pair (.int .i64) .unit)))) (P2 (P3 .bool (.sl (.int .u16)) (.int .u16)) (P3 .bool (.sl (.int .u16)) (.int .u16))) tF (.int .i16))) (P1 .bool) anC aF7 [aCD, aNx, aNC, aNJ, aKJ, aKL] Tryz.func3 (fun x => anL x.1 x.2.1 x.2.2.1 x.2.2.2.1 x.2.2.2.2.1) fun _ y hw h => aAA _ _ _ _ _ (aPT hw) y h
end
end Go.Vs
