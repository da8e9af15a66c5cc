/-
  Contracts of the functions, out of their trees. Own work; no condition.
-/
import Derived.Test.YtakjojajnblpoaaGreatDoorClL10
import Derived.KernelRfl
set_option linter.unusedVariables false
set_option linter.unusedSimpArgs false
set_option maxRecDepth 1000000
namespace Go.Vs
open Go Go.Vg Go.Proofs
noncomputable section
def aPS : OkC := ⟨212, _, aUr⟩
def azW : OkC := ⟨182, _, aGm⟩
def aVo : OkC := ⟨239, _, aUq⟩
def aI5 : OkC := ⟨256, _, aGl⟩
def aVn : OkC := ⟨244, _, aUp⟩
def aVq : OkC := ⟨93, _, aUs⟩
def au0 := okT 117 (P3 tI tI tI) (P1 .bool) acV aNG [] Tryz.func117 (fun x => avQ x.1 x.2.1 x.2.2.1) fun _ y _ h => aHv _ _ _ y h
def aBB := okT 76 (P1 tL) (P1 .bool) akI aBK [au0] Tryz.func76 (fun x => akH x.1) fun _ y _ h => axL _ y h
def aM1 := okT 129 (P1 (P3 tS tI .bool)) (P1 .bool) ag4 aNz [au0] Tryz.func129 (fun x => avK x.1) fun _ y _ h => aHn _ y h
def au1 := okT 77 (P1 tC) (P1 .bool) ag7 avR [aM1] Tryz.func77 (fun x => agW x.1) fun _ y _ h => arG _ y h
def asA := okT 29 (P1 tC) (P1 tI) ahV aRl [aBB, au1] Tryz.func29 (fun x => aAL x.1) fun _ y _ h => aJ5 _ y h
def aiO := okT 115 tB (P1 .bool) aeQ aRt [] Tryz.func115 (fun x => aAS x.1 x.2.1) fun _ y _ h => aJ9 _ _ y h
def aEh := okT 116 tB (P2 tB tI) aj3 aTA [aiO] Tryz.func116 (fun x => aE0 x.1 x.2.1) fun _ y _ h => aNS _ _ y h
def aGF := okT 55 (P3 tB tI tI) (P2 tB tI) alP aRw [aiO, aEh] Tryz.func55 (fun x => aAT x.1 x.2.1 x.2.2.1) fun _ y _ h => aKb _ _ _ y h
def aTT := okT 194 (P1 tI) (P1 .str) aw7 aVd [aPS] Tryz.func194 (fun x => aTK x.1) fun _ y _ h => aR1 _ y h
def anV := okT 233 (P1 tM) (P1 tM) aRG aOk [] Tryz.func233 (fun x => az8 x.1) fun _ y _ h => az9 _ y h
def aMG := okT 205 (P1 .str) (P1 tM) ak5 aLO [anV] Tryz.func205 (fun x => avH x.1) fun _ y _ h => awZ _ y h
def azZ := okT 173 tF (P2 .str .bool) ab8 aJV [] Tryz.func173 (fun x => arC x.1 x.2.1) fun _ y hw h => aEM _ _ (zz hw.1 zf) y h
def axS := okT 172 (P1 .str) (P2 (P2 tM .bool) .bool) agH aRX [aMG, azZ] Tryz.func172 (fun x => aDu x.1) fun _ y _ h => aLM _ y h
def azO := okT 137 (P1 .str) (P1 tI) agJ aOt [axS] Tryz.func137 (fun x => ax8 x.1) fun _ y _ h => aIf _ y h
def anZ := okT 207 (P1 tM) (P1 tM) acZ aQx [] Tryz.func207 (fun x => az8 x.1) fun _ y _ h => az9 _ y h
def aM0 := okT 174 (P1 .str) (P1 tM) aiD aNq [anZ] Tryz.func174 (fun x => avH x.1) fun _ y _ h => awZ _ y h
def aCB := okT 138 (P1 .str) (P1 (P2 tM .bool)) ag3 aNp [azZ, aM0] Tryz.func138 (fun x => aCV x.1) fun _ y _ h => aHc _ y h
def aiM := okT 152 (P1 tM) (P1 .bool) adW aQw [] Tryz.func152 (fun x => asI x.1) fun _ y _ h => az7 _ y h
def ad1 := okT 179 (P2 tM .bool) (P1 (P2 tM .bool)) abD aNn [aiM] Tryz.func179 (fun x => aCU x.1 x.2.1) fun _ y _ h => aHb _ _ y h
def al7 := okT 176 (P1 (.int .u64)) (P1 tM) abY aEz [] Tryz.func176 (fun x => amG x.1) fun _ y _ h => an6 _ y h
end
set_option maxRecDepth 1000000
open Go Go.Vg Go.Proofs
noncomputable section
def aMX := okT 175 (P1 tM) (P1 (.int .u64)) apZ aNg [] Tryz.func175 (fun x => aCR x.1) fun _ y _ h => aG4 _ y h
def aMY := okT 208 (P2 tM (.int .u32)) (P2 tM (.int .u32)) alG aNh [anZ] Tryz.func208 (fun x => apJ x.1 x.2.1) fun _ y _ h => awV _ _ y h
def an0 := okT 141 (P2 tM tM) (P1 tI) aeM aG7 [] Tryz.func141 (fun x => ajM x.1 x.2.1) fun _ y _ h => aqC _ _ y h
def akU := okT 180 (P2 tM tM) (P1 tM) acU aNf [anZ] Tryz.func180 (fun x => apI x.1 x.2.1) fun _ y _ h => awU _ _ y h
def aiN := okT 177 (P2 tM tM) (P2 tM tM) abI aJz [anZ, aMY, an0, al7, akU] Tryz.func177 (fun x => amC x.1 x.2.1) fun _ y _ h => asL _ _ y h
def axT := okT 140 (P2 tM tM) (P1 tM) ah6 aTg [al7, aMX, aiN, aiM] Tryz.func140 (fun x => aEs x.1 x.2.1) fun _ y _ h => aNj _ _ y h
def aJd := okT 220 (P2 (P2 tM .bool) tM) (P1 (P2 (P2 tM .bool) tM)) amY aJG [axT, aiN, ad1] Tryz.func220 (fun x => aq8 x.1 x.2.1) fun _ y _ h => aEx _ _ y h
def aJc := okT 191 (P1 tM) (P1 tI) ai6 aJy [aiM, aPS] Tryz.func191 (fun x => amB x.1) fun _ y _ h => asK _ y h
def azX := okT 146 (P1 (P2 tM .bool)) (P1 .str) alI aQD [azW] Tryz.func146 (fun x => aAh x.1) fun _ y _ h => aJD _ y h
def akT := okT 154 (P1 (P2 (P2 tM .bool) tM)) (P2 tF tI) af1 aM9 [aJc, azX, azW] Tryz.func154 (fun x => avC x.1) fun _ y _ h => aGZ _ y h
def aSR := okT 193 tF (P2 tF tI) atQ aTm [azO, aCB, aiM, ad1, aJd, akT] Tryz.func193 (fun x => aEC x.1 x.2.1) fun _ y _ h => aNt _ _ y h
def aTU := okT 157 tB (P2 tF tI) am5 aVF [aTT, aSR] Tryz.func157 (fun x => aTX x.1 x.2.1) fun _ y _ h => aTk _ _ y h
def axU := okT 100 tB (P1 tF) ab4 aTw [aTU] Tryz.func100 (fun x => aLo x.1 x.2.1) fun _ y _ h => aNH _ _ y h
def al8 := okT 91 (P1 tI) (P1 tF) aaJ aJ3 [axU] Tryz.func91 (fun x => aAG x.1) fun _ y _ h => aET _ y h
def azY := okT 139 (P1 (P2 tM .bool)) (P1 tI) alJ aQE [aiM] Tryz.func139 (fun x => aAi x.1) fun _ y _ h => aJE _ y h
def ah0 := okT 89 (P1 tF) (P2 (P2 (P2 tM .bool) tM) .bool) abX aTi [azO, aCB, azY, axT, an0] Tryz.func89 (fun x => aEy x.1) fun _ y _ h => aNo _ y h
def aK2 := okT 144 (P2 (P2 (P2 tM .bool) tM) (P2 (P2 tM .bool) tM)) (P1 (P2 (P2 tM .bool) tM)) atN aTe [axT, aiN, akU, ad1] Tryz.func144 (fun x => aEp x.1 x.2.1) fun _ y _ h => aNc _ _ y h
def aJe := okT 90 (P2 tF tF) (P2 tF tI) ad6 aUT [ah0, aK2, akT] Tryz.func90 (fun x => aJI x.1 x.2.1) fun _ y _ h => aQG _ _ y h
def aqY := okT 189 (P2 (P2 tM .bool) tM) (P1 (P2 tM .bool)) aeN aJF [akU, ad1] Tryz.func189 (fun x => aq7 x.1 x.2.1) fun _ y _ h => aEv _ _ y h
def aGA := okT 181 (P2 tM tM) (P1 tM) aoS aQy [] Tryz.func181 (fun x => asJ x.1 x.2.1) fun _ y _ h => aAc _ _ y h
end
set_option maxRecDepth 1000000
open Go Go.Vg Go.Proofs
noncomputable section
def aMZ := okT 219 (P2 tM tM) (P1 tM) alH aNi [anZ] Tryz.func219 (fun x => apK x.1 x.2.1) fun _ y _ h => awW _ _ y h
def aEf := okT 190 (P2 (P2 tM .bool) (P2 tM .bool)) (P1 (P2 tM .bool)) ap0 aTh [aGA, ad1, an0, aMZ] Tryz.func190 (fun x => aEu x.1 x.2.1) fun _ y _ h => aNl _ _ y h
def aK3 := okT 151 (P2 (P2 (P2 tM .bool) tM) (P2 (P2 tM .bool) tM)) (P1 (P2 (P2 tM .bool) tM)) atO aTf [axT, aiN, aqY, aEf, ad1, akU] Tryz.func151 (fun x => aEq x.1 x.2.1) fun _ y _ h => aNe _ _ y h
def aJg := okT 97 (P2 tF tF) (P2 tF tI) aeO aUW [ah0, aK3, akT] Tryz.func97 (fun x => aJN x.1 x.2.1) fun _ y _ h => aQL _ _ y h
def aGz := okT 153 (P1 (P2 (P2 tM .bool) tM)) (P1 (P2 (P2 tM .bool) tM)) aj0 aG2 [ad1] Tryz.func153 (fun x => awS x.1) fun _ y _ h => aBE _ y h
def aPV := okT 98 (P2 tF tF) (P2 tF tI) afA aUU [ah0, aiM, aGz, aK2, akT] Tryz.func98 (fun x => aJK x.1 x.2.1) fun _ y _ h => aQI _ _ y h
def aGB := okT 101 (P2 (P3 tS tI .bool) tF) (P2 tF tI) alO aQ8 [al8, aJe, aJg, aPV] Tryz.func101 (fun x => aAu x.1 x.2.1) fun _ y _ h => aJY _ _ y h
def aCA := okT 145 (P2 (P2 tM .bool) tM) (P1 (P2 tM .bool)) alK aNm [aiN, aiM, aGA, ad1] Tryz.func145 (fun x => avG x.1 x.2.1) fun _ y _ h => aG9 _ _ y h
def aPT := okT 222 (P2 (P2 (P2 tM .bool) tM) tM) (P1 (P2 tM .bool)) atM aQt [akU, aqY, ad1, aEf, aCA] Tryz.func222 (fun x => az5 x.1 x.2.1) fun _ y _ h => aJx _ _ y h
def aPD := okT 221 (P1 .str) tB amW aT6 [azO, aVo] Tryz.func221 (fun x => aId x.1) fun _ y _ h => aOr _ y h
def aSQ := okT 196 (P2 tF tI) tB amZ aTl [ah0, al7, aPT, azX, aPD] Tryz.func196 (fun x => aEB x.1 x.2.1) fun _ y _ h => aNs _ _ y h
def ar8 := okT 192 (P1 (P2 tM .bool)) (P1 (P2 tM .bool)) agN aEw [ad1] Tryz.func192 (fun x => asO x.1) fun _ y _ h => aAj _ y h
def aMW := okT 156 (P2 (P2 (P2 tM .bool) tM) (P2 (P2 tM .bool) tM)) (P1 tI) apY aNb [aqY, ar8, aEf, azY] Tryz.func156 (fun x => avD x.1 x.2.1) fun _ y _ h => aG0 _ _ y h
def aJf := okT 99 (P2 tF tF) tB agO aUV [ah0, aMW] Tryz.func99 (fun x => aJL x.1 x.2.1) fun _ y _ h => aQJ _ _ y h
def aCE := okT 160 (P1 tF) (P2 tB tI) ad2 aNU [aSQ, aTU, aJf, aiO, aEh] Tryz.func160 (fun x => avU x.1) fun _ y _ h => aHE _ y h
def aUv := okT 251 (P1 tL) (P1 tI) aA2 aUd [] Tryz.func251 (fun x => aIm x.1) fun _ y _ h => aOE _ y h
def aPY := okT 231 (P1 tL) (P1 tI) aA5 aRu [aUv] Tryz.func231 (fun x => aHC x.1) fun _ y _ h => aKa _ y h
def aUw := okT 252 (P1 tL) (P1 tI) aA3 aUe [] Tryz.func252 (fun x => aIn x.1) fun _ y _ h => aOF _ y h
def aGE := okT 232 (P1 tL) (P1 tI) aoU aHD [aUw] Tryz.func232 (fun x => aw5 x.1) fun _ y _ h => aBM _ y h
def aSS := okT 163 (P2 tB tB) (P2 tB tI) atS aTC [aiO, aPY, aGE] Tryz.func163 (fun x => aE1 x.1 x.2.1) fun _ y _ h => aNT _ _ y h
end
set_option maxRecDepth 1000000
open Go Go.Vg Go.Proofs
noncomputable section
def aK4 := okT 120 (P1 (.sl tB)) (P2 tB tI) aj2 aTx [aSS] Tryz.func120 (fun x => aEU x.1) fun _ y _ h => aNI _ y h
def aCD := okT 118 (P1 (.sl tF)) (P2 tB tI) af2 aNJ [aCE, aK4] Tryz.func118 (fun x => avS x.1) fun _ y _ h => aHx _ y h
def aPZ := okT 197 (P1 tB) (P1 tI) atT aRx [aiO] Tryz.func197 (fun x => aAU x.1) fun _ y _ h => aKc _ y h
def aMR := okT 198 (P1 tB) (P1 .bool) av3 aMB [] Tryz.func198 (fun x => auW x.1) fun _ y _ h => aGj _ y h
def ao9 := okT 257 (P2 tM tM) (P1 tM) ak3 aLH [anV] Tryz.func257 (fun x => apI x.1 x.2.1) fun _ y _ h => awU _ _ y h
def aCr := okT 242 (P2 tM tI) (P1 tM) ak4 aLJ [ao9] Tryz.func242 (fun x => aBT x.1 x.2.1) fun _ y _ h => aFm _ _ y h
def ar2 := okT 246 (P1 tM) (P1 .bool) aiZ aOj [] Tryz.func246 (fun x => asI x.1) fun _ y _ h => az7 _ y h
def aK0 := okT 241 (P2 tM .bool) (P1 (P2 tM .bool)) ajU aVc [ar2] Tryz.func241 (fun x => aTJ x.1 x.2.1) fun _ y _ h => aRZ _ _ y h
def azM := okT 255 (P1 tM) (P1 tI) amS aH7 [ar2, aPS] Tryz.func255 (fun x => amB x.1) fun _ y _ h => asK _ y h
def ar3 := okT 240 (P1 (P2 tM .bool)) (P2 .str tI) adF aOn [azM, aI5] Tryz.func240 (fun x => ax7 x.1) fun _ y _ h => aH9 _ y h
def aPC := okT 224 (P2 .str tI) (P2 .str tI) aoM aT4 [axS, aCr, aK0, ar3] Tryz.func224 (fun x => aIb x.1 x.2.1) fun _ y _ h => aOp _ _ y h
def aJa := okT 226 (P1 tI) (P1 .str) ai5 aI2 [aVn] Tryz.func226 (fun x => aqU x.1) fun _ y _ h => aD6 _ y h
def aKZ := okT 245 tF (P3 (P2 tM .bool) (P2 tM .bool) tI) agI aRY [axS] Tryz.func245 (fun x => aDv x.1 x.2.1) fun _ y _ h => aLN _ _ y h
def aGo := okT 260 (P2 (P2 tM .bool) (P2 tM .bool)) (P1 (P2 tM .bool)) ajT aFk [ao9, aK0] Tryz.func260 (fun x => anB x.1 x.2.1) fun _ y _ h => aBo _ _ y h
def aUt := okT 225 tF (P2 .str tI) avY aT5 [aKZ, aGo, ar3] Tryz.func225 (fun x => aIc x.1 x.2.1) fun _ y _ h => aOq _ _ y h
def aCq := okT 267 (P2 tM (.int .u32)) (P2 tM (.int .u32)) avW aLI [anV] Tryz.func267 (fun x => apJ x.1 x.2.1) fun _ y _ h => awV _ _ y h
def awK := okT 266 (P2 tM tM) (P1 tI) aoL aFn [] Tryz.func266 (fun x => ajM x.1 x.2.1) fun _ y _ h => aqC _ _ y h
def ar4 := okT 268 (P1 (.int .u64)) (P1 tM) ah4 aDw [] Tryz.func268 (fun x => amG x.1) fun _ y _ h => an6 _ y h
def azN := okT 247 (P2 tM tM) (P2 tM tM) amT aH8 [anV, aCq, awK, ar4, ao9] Tryz.func247 (fun x => amC x.1 x.2.1) fun _ y _ h => asL _ _ y h
def aGp := okT 248 (P2 tM tM) (P1 tM) as9 aOm [] Tryz.func248 (fun x => asJ x.1 x.2.1) fun _ y _ h => aAc _ _ y h
end
set_option maxRecDepth 1000000
open Go Go.Vg Go.Proofs
noncomputable section
def aI6 := okT 281 (P1 tI) (P1 tM) amV aIa [] Tryz.func281 (fun x => aqH x.1) fun _ y _ h => aDt _ y h
def aPB := okT 270 (P2 tM tI) (P1 tM) as8 aOl [aCr, azN, ar4, ao9, aGp, aCq, awK, ar2, azM, aI6] Tryz.func270 (fun x => aFl x.1 x.2.1) fun _ y _ h => aH6 _ _ y h
def aSG := okT 250 (P2 .str tI) (P2 .str tI) atA aR0 [axS, aPB, aK0, ar3] Tryz.func250 (fun x => aDx x.1 x.2.1) fun _ y _ h => aLP _ _ y h
def aSN := okT 228 (P2 .str tI) (P3 .str .bool tI) atK aSC [aSG, aPC] Tryz.func228 (fun x => aD7 x.1 x.2.1) fun _ y _ h => aMD _ _ y h
def aJb := okT 229 (P2 .str .bool) tB ac2 aI3 [aPD] Tryz.func229 (fun x => aqV x.1 x.2.1) fun _ y _ h => aD8 _ _ y h
def aMF := okT 249 (P2 tM tM) (P1 tM) avX aLK [anV] Tryz.func249 (fun x => apK x.1 x.2.1) fun _ y _ h => awW _ _ y h
def aUu := okT 227 tF (P3 .str .str tI) avZ aT7 [aKZ, ar2, azN, aGp, aMF, aK0, ar3] Tryz.func227 (fun x => aIe x.1 x.2.1) fun _ y _ h => aOs _ _ y h
def aSM := okT 200 (P3 (P1 tB) tI .bool) tB atJ aSy [aTT, aPC, aJa, aUt, aSN, aJb, aUu] Tryz.func200 (fun x => aD2 x.1 x.2.1 x.2.2.1) fun _ y _ h => aMA _ _ _ y h
def aVp := okT 223 tB (P2 tB tI) aLt aVN [aiO] Tryz.func223 (fun x => aRv x.1 x.2.1) fun _ y _ h => aTB _ _ y h
def aPO := okT 161 (P3 tB tI tI) (P2 tB tI) aA4 aPs [aPZ, aMR, aSM, aVp] Tryz.func161 (fun x => azJ x.1 x.2.1 x.2.2.1) fun _ y _ h => aI4 _ _ _ y h
def aUA := okT 162 (P2 tB tB) (P2 tB tI) aKi aU6 [aiO, aEh] Tryz.func162 (fun x => aKd x.1 x.2.1) fun _ y _ h => aRy _ _ y h
def aJh := okT 119 (P3 (P3 tS tI .bool) tI tI) (P2 tB tI) aeP aJW [axU, aGB, aCD, aPO, aCE, aUA, aGF] Tryz.func119 (fun x => arD x.1 x.2.1 x.2.2.1) fun _ y _ h => aEN _ _ _ y h
def axF := okT 58 (P2 (P1 tC) tB) (P2 tB tI) adX axK [aJh, aK4] Tryz.func58 (fun x => ahX x.1 x.2.1) fun _ y _ h => as2 _ _ y h
def aPU := okT 92 (P1 tF) (P2 .str tI) alM aQH [ah0, aCA, azX] Tryz.func92 (fun x => aAl x.1) fun _ y _ h => aJJ _ y h
def aGy := okT 188 (P1 (P2 (P2 tM .bool) tM)) (P1 (P2 (P2 tM .bool) tM)) ajZ aG1 [ar8] Tryz.func188 (fun x => awR x.1) fun _ y _ h => aBD _ y h
def aSO := okT 150 (P2 (P2 (P2 tM .bool) tM) (P2 (P2 tM .bool) tM)) (P1 (P2 (P2 tM .bool) tM)) ax3 aTd [aGy, aK3] Tryz.func150 (fun x => aLb x.1 x.2.1) fun _ y _ h => aNa _ _ y h
def aUz := okT 96 (P2 tF tF) (P2 tF tI) afS aUS [ah0, aSO, akT] Tryz.func96 (fun x => aJH x.1 x.2.1) fun _ y _ h => aQF _ _ y h
def aCC := okT 46 (P2 (P1 tC) tF) (P2 tF tI) ag5 aNC [al8, aJe, aPU, aVq, aUz, aJg, aPV] Tryz.func46 (fun x => avN x.1 x.2.1) fun _ y _ h => aHt _ _ y h
def aBA := okT 57 (P2 (P1 tC) tB) (P2 tB tI) afG aBI [au0, axU, aCD, aCC] Tryz.func57 (fun x => akG x.1 x.2.1) fun _ y _ h => axJ _ _ y h
def auZ := okT 56 (P2 (P1 tC) tB) (P2 tB tI) ag6 avO [] Tryz.func56 (fun x => akZ x.1 x.2.1) fun _ y _ h => arF _ _ y h
end
set_option maxRecDepth 1000000
open Go Go.Vg Go.Proofs
noncomputable section
def aGD := okT 16 (P2 tC tB) (P2 tB tI) adY aRm [asA, aGF, axF, aBA, auZ] Tryz.func16 (fun x => aAM x.1 x.2.1) fun _ y _ h => aJ6 _ _ y h
def ar7 := okT 130 (P1 tL) (P1 tL) ac3 aSu [] Tryz.func130 (fun x => aKO x.1) fun _ y _ h => aMs _ y h
def akR := okT 80 (P2 .bool tL) (P1 (P2 .bool tL)) abP aPi [ar7] Tryz.func80 (fun x => aF7 x.1 x.2.1) fun _ y _ h => aIP _ _ y h
def ajH := okT 40 (P1 tI) (P1 (P2 .bool tL)) abR aGf [akR] Tryz.func40 (fun x => awI x.1) fun _ y _ h => aBy _ y h
def azU := okT 85 (P1 (P2 .bool tL)) (P1 (P2 .bool tL)) ai3 aPk [akR] Tryz.func85 (fun x => aF9 x.1) fun _ y _ h => aIR _ y h
def awM := okT 134 (P2 tL tL) (P1 tL) ab2 aF4 [ar7] Tryz.func134 (fun x => afU x.1 x.2.1) fun _ y _ h => aBw _ _ y h
def aCw := okT 132 (P2 tL tL) (P1 tI) ag1 aMr [] Tryz.func132 (fun x => auP x.1 x.2.1) fun _ y _ h => aF6 _ _ y h
def anX := okT 133 (P2 tL tL) (P1 tL) abF ay9 [ar7] Tryz.func133 (fun x => anT x.1 x.2.1) fun _ y _ h => auR _ _ y h
def aPL := okT 171 (P2 tL tI) (P2 tL tI) atG aPh [ar7] Tryz.func171 (fun x => ay7 x.1 x.2.1) fun _ y _ h => aIO _ _ y h
def aCv := okT 135 (P2 tL tL) (P2 tL tL) alD aMq [awM, ar7, aCw, anX, aPL] Tryz.func135 (fun x => auO x.1 x.2.1) fun _ y _ h => aF5 _ _ y h
def awN := okT 86 (P2 (P2 .bool tL) (P2 .bool tL)) (P1 (P2 .bool tL)) af0 aGg [aCv] Tryz.func86 (fun x => awJ x.1 x.2.1) fun _ y _ h => aBz _ _ y h
def aSK := okT 131 (P2 tL tL) (P1 tL) ax2 aSt [] Tryz.func131 (fun x => aKN x.1 x.2.1) fun _ y _ h => aMp _ _ y h
def azV := okT 81 (P2 (P2 .bool tL) (P2 .bool tL)) (P1 (P2 .bool tL)) ahU aPm [aSK, akR, aCw, anX] Tryz.func81 (fun x => azE x.1 x.2.1) fun _ y _ h => aIV _ _ y h
def aCz := okT 136 (P2 (P2 .bool tL) (P2 .bool tL)) (P1 (P2 .bool tL)) alE aMy [azU, azV] Tryz.func136 (fun x => aCm x.1 x.2.1) fun _ y _ h => aGe _ _ y h
def aCx := okT 87 (P2 (P2 .bool tL) (P2 .bool tL)) (P2 (P2 .bool tL) (P2 .bool tL)) afZ aMv [aCv, akR, azV, ajH, aCz] Tryz.func87 (fun x => auU x.1 x.2.1) fun _ y _ h => aGc _ _ y h
def al6 := okT 42 (P2 (P2 .bool tL) (P2 .bool tL)) (P1 (P2 (P2 .bool tL) (P2 .bool tL))) afR aIM [azU, awN, aCx] Tryz.func42 (fun x => aqS x.1 x.2.1) fun _ y _ h => aDW _ _ y h
def auY := okT 88 tB (P1 (P2 (P2 .bool tL) (P2 .bool tL))) aiB aMf [ajH, al6] Tryz.func88 (fun x => aCe x.1 x.2.1) fun _ y _ h => aFW _ _ y h
def aPM := okT 170 (P1 tI) (P1 .str) atH aPj [] Tryz.func170 (fun x => ay8 x.1) fun _ y _ h => aIQ _ y h
def aGx := okT 125 (P1 (P2 .bool tL)) (P1 .str) aoQ aPl [aPM] Tryz.func125 (fun x => azA x.1) fun _ y _ h => aIS _ y h
def aSL := okT 84 (P1 (P2 .bool tL)) (P2 .str tI) atI aSv [aGx] Tryz.func84 (fun x => aKP x.1) fun _ y _ h => aMw _ y h
end
set_option maxRecDepth 1000000
open Go Go.Vg Go.Proofs
noncomputable section
def ar6 := okT 41 (P1 (P2 (P2 .bool tL) (P2 .bool tL))) (P2 tF tI) ajX aSo [aSL] Tryz.func41 (fun x => aKI x.1) fun _ y _ h => aMg _ y h
def aPJ := okT 43 tB (P2 tF tI) arJ aUl [auY, ar6] Tryz.func43 (fun x => aIL x.1 x.2.1) fun _ y _ h => aPd _ _ y h
def anW := okT 61 tB (P1 tF) abT aUj [aPJ] Tryz.func61 (fun x => aO0 x.1 x.2.1) fun _ y _ h => aO1 _ _ y h
def aMQ := okT 124 (P1 .str) (P1 .bool) ag2 aMu [] Tryz.func124 (fun x => auT x.1) fun _ y _ h => aGb _ y h
def aPN := okT 38 (P1 .str) (P1 (P2 .bool tL)) arK aUn [akR] Tryz.func38 (fun x => aIW x.1) fun _ y _ h => aPn _ y h
def afV := okT 65 (P1 tF) (P1 .bool) abA aMe [aMQ, aPN, awN, aGx] Tryz.func65 (fun x => auN x.1) fun _ y _ h => aFV _ y h
def aqX := okT 67 (P1 tF) (P1 (P2 (P2 .bool tL) (P2 .bool tL))) adG aUm [aPN] Tryz.func67 (fun x => aPe x.1) fun _ y _ h => aPf _ y h
def akS := okT 82 (P2 (P2 .bool tL) (P2 .bool tL)) (P1 (P2 .bool tL)) acF aMt [awM, akR] Tryz.func82 (fun x => aCj x.1 x.2.1) fun _ y _ h => aGa _ _ y h
def aCu := okT 66 (P2 (P2 (P2 .bool tL) (P2 .bool tL)) (P2 (P2 .bool tL) (P2 .bool tL))) (P1 (P2 (P2 .bool tL) (P2 .bool tL))) aiA aMc [akS, al6] Tryz.func66 (fun x => aCd x.1 x.2.1) fun _ y _ h => aFU _ _ y h
def aEc := okT 18 (P2 tF tF) (P2 tF tI) ah5 aSp [afV, aqX, aCu, ar6] Tryz.func18 (fun x => aKJ x.1 x.2.1) fun _ y _ h => aMi _ _ y h
def azT := okT 68 (P2 (P2 (P2 .bool tL) (P2 .bool tL)) (P2 (P2 .bool tL) (P2 .bool tL))) (P1 (P2 (P2 .bool tL) (P2 .bool tL))) ai2 aPb [akS, azV, al6] Tryz.func68 (fun x => aFX x.1 x.2.1) fun _ y _ h => aIJ _ _ y h
def aEd := okT 19 (P2 tF tF) (P2 tF tI) ajY aSs [afV, aqX, azT, ar6] Tryz.func19 (fun x => aKM x.1 x.2.1) fun _ y _ h => aMo _ _ y h
def aPI := okT 159 (P2 (P2 (P2 .bool tL) (P2 .bool tL)) (P2 (P2 .bool tL) (P2 .bool tL))) (P1 (P2 (P2 .bool tL) (P2 .bool tL))) atE aPc [akS, al6] Tryz.func159 (fun x => aFY x.1 x.2.1) fun _ y _ h => aIK _ _ y h
def aK1 := okT 111 (P2 tF tF) (P2 tF tI) amX aSq [afV, aqX, aPI, ar6] Tryz.func111 (fun x => aKK x.1 x.2.1) fun _ y _ h => aMk _ _ y h
def aGu := okT 112 (P2 tS tF) (P2 tF tI) ak8 aO4 [anW, aEc, aEd, aK1] Tryz.func112 (fun x => ayW x.1 x.2.1) fun _ y _ h => aIB _ _ y h
def aPK := okT 204 (P1 (P2 (P2 .bool tL) (P2 .bool tL))) (P1 (P2 .bool tL)) aoP aPg [aCx] Tryz.func204 (fun x => aF1 x.1) fun _ y _ h => aIN _ y h
def aCy := okT 127 (P2 (P2 .bool tL) (P2 .bool tL)) (P1 tI) aiC aMx [aCz] Tryz.func127 (fun x => aCl x.1 x.2.1) fun _ y _ h => aGd _ _ y h
def aEe := okT 203 (P1 (P2 .bool tL)) tB agM aDZ [ajH, aCy] Tryz.func203 (fun x => al3 x.1) fun _ y _ h => azF _ y h
def aGw := okT 195 (P1 (P2 (P2 .bool tL) (P2 .bool tL))) (P1 (P2 (P2 .bool tL) (P2 .bool tL))) aoO aPa [azU] Tryz.func195 (fun x => aFT x.1) fun _ y _ h => aIH _ y h
def akQ := okT 72 (P1 tB) (P1 .bool) aeZ aL9 [] Tryz.func72 (fun x => auM x.1) fun _ y _ h => aFR _ y h
end
set_option maxRecDepth 1000000
open Go Go.Vg Go.Proofs
noncomputable section
def aCt := okT 169 (P2 (P2 (P2 .bool tL) (P2 .bool tL)) (P2 (P2 .bool tL) (P2 .bool tL))) (P2 tB tI) alB aL8 [auY, aCu, aPK, aEe, aGw, akQ] Tryz.func169 (fun x => aCb x.1 x.2.1) fun _ y _ h => aFQ _ _ y h
def aI8 := okT 164 (P1 tF) (P2 tB tI) ai1 aIG [afV, aqX, aCt] Tryz.func164 (fun x => ay2 x.1) fun _ y _ h => aDU _ y h
def azS := okT 121 (P1 tF) (P1 tB) adN aIC [aI8] Tryz.func121 (fun x => aqQ x.1) fun _ y _ h => aDT _ y h
def azQ := okT 64 (P2 tB tB) (P1 tB) ak7 aO3 [] Tryz.func64 (fun x => ayU x.1 x.2.1) fun _ y _ h => aIy _ _ y h
def aMK := okT 165 tB (P1 .bool) av0 aL5 [] Tryz.func165 (fun x => auK x.1 x.2.1) fun _ y _ h => aFM _ _ y h
def apA := okT 74 (P1 tI) (P1 (P2 (P2 .bool tL) (P2 .bool tL))) abL aL7 [auY] Tryz.func74 (fun x => aCa x.1) fun _ y _ h => aFP _ y h
def aI9 := okT 83 (P2 (P2 .bool tL) tI) (P1 (P2 .bool tL)) ai4 aIU [akS, ajH] Tryz.func83 (fun x => azD x.1 x.2.1) fun _ y _ h => aDY _ _ y h
def aqW := okT 71 (P2 (P2 (P2 .bool tL) (P2 .bool tL)) tI) (P1 (P2 (P2 .bool tL) (P2 .bool tL))) afQ aII [aI9] Tryz.func71 (fun x => ay3 x.1 x.2.1) fun _ y _ h => aDV _ _ y h
def apB := okT 73 (P2 (P2 (P2 .bool tL) (P2 .bool tL)) (P2 (P2 .bool tL) (P2 .bool tL))) (P1 tI) ae0 aMh [akS, aCy] Tryz.func73 (fun x => aCf x.1 x.2.1) fun _ y _ h => aFZ _ _ y h
def aGv := okT 167 (P2 (P2 (P2 .bool tL) (P2 .bool tL)) tI) (P1 tI) aoN aO9 [apA, aqW, apB] Tryz.func167 (fun x => aFN x.1 x.2.1) fun _ y _ h => aIF _ _ y h
def aUx := okT 168 (P2 (P2 (P2 .bool tL) (P2 .bool tL)) tI) (P1 tI) aE6 aUk [aGv, apA, aqW, apB] Tryz.func168 (fun x => aO6 x.1 x.2.1) fun _ y _ h => aO7 _ _ y h
def aPH := okT 166 tB (P2 tB tI) atD aO8 [akQ] Tryz.func166 (fun x => ay1 x.1 x.2.1) fun _ y _ h => aIE _ _ y h
def aML := okT 122 (P3 tB tI tI) (P2 tB tI) av1 aL6 [akQ, aMK, apA, aqW, aGv, aUx, aPH] Tryz.func122 (fun x => auL x.1 x.2.1 x.2.2.1) fun _ y _ h => aFO _ _ _ y h
def aSH := okT 123 (P2 tB tB) (P2 tB tI) aE7 aSm [akQ, apA, azT, aCt] Tryz.func123 (fun x => aKG x.1 x.2.1) fun _ y _ h => aMb _ _ y h
def aGq := okT 60 (P1 tB) (P1 tB) atB aOW [] Tryz.func60 (fun x => ayO x.1) fun _ y _ h => aIt _ y h
def aPF := okT 63 (P3 tS tF tF) (P2 tB tI) ahR aOY [aGu, azS, azQ, aML, anW, aSH, aGq] Tryz.func63 (fun x => ayR x.1 x.2.1 x.2.2.1) fun _ y _ h => aIv _ _ _ y h
def azP := okT 106 (P3 tI tI tI) (P1 .bool) acL aIs [] Tryz.func106 (fun x => aqO x.1 x.2.1 x.2.2.1) fun _ y _ h => aDP _ _ _ y h
def azR := okT 126 tB (P1 .bool) abH aIA [] Tryz.func126 (fun x => aqP x.1 x.2.1) fun _ y _ h => aDS _ _ y h
def aGr := okT 107 (P1 tS) (P1 .bool) ajV aFG [azP, azR] Tryz.func107 (fun x => anM x.1) fun _ y _ h => aBt _ y h
def aCs := okT 49 (P1 tC) (P1 .bool) ag0 aL2 [azP, aGr] Tryz.func49 (fun x => auI x.1) fun _ y _ h => aFI _ y h
end
set_option maxRecDepth 1000000
open Go Go.Vg Go.Proofs
noncomputable section
def aMM := okT 59 (P1 tB) (P1 tI) av2 aMa [akQ] Tryz.func59 (fun x => aCc x.1) fun _ y _ h => aFS _ y h
def aSJ := okT 26 (P2 tF tF) tB atF aSr [afV, aqX, apB] Tryz.func26 (fun x => aKL x.1 x.2.1) fun _ y _ h => aMl _ _ y h
def ar5 := okT 109 (P2 tF tF) (P1 .bool) agK aO2 [aSJ] Tryz.func109 (fun x => ayT x.1 x.2.1) fun _ y _ h => aIx _ _ y h
def aMP := okT 50 (P1 tF) (P1 tI) alC aMn [afV] Tryz.func50 (fun x => aCi x.1) fun _ y _ h => aF3 _ y h
def aMO := okT 108 (P3 tF tF tF) (P2 tF tI) apV aMm [afV, aqX, apB] Tryz.func108 (fun x => aCh x.1 x.2.1 x.2.2.1) fun _ y _ h => aF2 _ _ _ y h
def awL := okT 51 (P1 tF) (P1 tF) ahT aFK [anW, aMO] Tryz.func51 (fun x => anR x.1) fun _ y _ h => aBv _ y h
def aMN := okT 158 (P2 (P2 (P2 .bool tL) (P2 .bool tL)) (P2 (P2 .bool tL) (P2 .bool tL))) (P1 (P2 (P2 .bool tL) (P2 .bool tL))) apU aMj [aGw, azT] Tryz.func158 (fun x => aCg x.1 x.2.1) fun _ y _ h => aF0 _ _ y h
def aSI := okT 110 (P2 tF tF) (P2 tF tI) apT aSn [afV, aqX, aMN, ar6] Tryz.func110 (fun x => aKH x.1 x.2.1) fun _ y _ h => aMd _ _ y h
def aMH := okT 52 (P2 tL tF) (P2 tF tI) apS aL1 [anW, ar5, aSI, aEc, aEd, aK1] Tryz.func52 (fun x => auH x.1 x.2.1) fun _ y _ h => aFF _ _ y h
def aGs := okT 53 (P2 tC tF) (P1 tI) ak6 aOZ [anW, ar5] Tryz.func53 (fun x => ayS x.1 x.2.1) fun _ y _ h => aIw _ _ y h
def aGt := okT 54 (P2 tS tF) (P2 tF tI) ajW aFH [aEc, anW, aEd, awL, aGu, ar5] Tryz.func54 (fun x => anN x.1 x.2.1) fun _ y _ h => aBu _ _ y h
def aPG := okT 15 (P2 tC tF) (P2 tF tI) ahS aO5 [aCs, aMP, awL, aMH, aGs, aGt] Tryz.func15 (fun x => ayZ x.1 x.2.1) fun _ y _ h => aID _ _ y h
def aPE := okT 62 (P3 tC tF tF) (P1 tB) atC aOX [anW, ar5, azS, azQ, aPG] Tryz.func62 (fun x => ayQ x.1 x.2.1 x.2.2.1) fun _ y _ h => aIu _ _ _ y h
def aMJ := okT 17 (P2 tC tB) (P2 tB tI) alA aL4 [anW, aPF, azQ, aCs, aMM, aGq, aPE, aGs] Tryz.func17 (fun x => auJ x.1 x.2.1) fun _ y _ h => aFL _ _ y h
def aPQ := okT 34 .unit (P1 tC) atL aQh [] Tryz.func34 (fun x => l9_root_t) fun _ y _ h => aJp y h
def aUy := okT 13 tB (P1 tF) ad5 aUI [aPJ] Tryz.func13 (fun x => aQi x.1 x.2.1) fun _ y _ h => aQj _ _ y h
def aPW := okT 44 (P1 tF) (P1 tI) alN aQK [ah0] Tryz.func44 (fun x => aAm x.1) fun _ y _ h => aJM _ y h
def ar9 := okT 48 (P1 tF) (P1 tF) acC aEV [al8, aJf] Tryz.func48 (fun x => amO x.1) fun _ y _ h => aAH _ y h
def aSP := okT 102 (P1 tF) tB atP aTj [ah0, azY] Tryz.func102 (fun x => aEA x.1) fun _ y _ h => aNr _ y h
def aGC := okT 47 (P2 (P1 tC) tF) (P2 tF tI) aj1 aHu [axU, aJf, aJe, aJg, ar9, aGB, aSP, al8] Tryz.func47 (fun x => aoA x.1 x.2.1) fun _ y _ h => aBJ _ _ y h
end
set_option maxRecDepth 1000000
open Go Go.Vg Go.Proofs
noncomputable section
def aEg := okT 45 (P2 (P1 tC) tF) (P2 tF tI) ah7 aES [] Tryz.func45 (fun x => asX x.1 x.2.1) fun _ y _ h => aAF _ _ y h
def aK5 := okT 14 (P2 tC tF) (P2 tF tI) acR aTy [asA, aPW, ar9, aGC, aCC, aEg] Tryz.func14 (fun x => aEW x.1 x.2.1) fun _ y _ h => aNK _ _ y h
def aPP := okT 35 .unit (P1 tC) alF aQg [] Tryz.func35 (fun x => l9_tent_t) fun _ y _ h => aJo y h
def aPX := okT 25 (P1 tC) tB aoT aRk [asA] Tryz.func25 (fun x => aAK x.1) fun _ y _ h => aJ4 _ y h
def aMT := okT 20 (P3 tC tF tF) (P1 .bool) ae1 aM6 [aK5] Tryz.func20 (fun x => au8 x.1 x.2.1 x.2.2.1) fun _ y _ h => aGO _ _ _ y h
def aMV := okT 36 .unit (P1 tC) apX aM8 [] Tryz.func36 (fun x => l9_steps_t) fun _ y _ h => aGQ y h
def aMS := okT 10 .unit (P1 .bool) av4 aM5 [aPQ, aUy, aK5, aGD, aPP, aPX, aMT, aMV, asA] Tryz.func10 (fun x => l9_wakes_t) fun _ y _ h => aGN y h
def aEb := okT 69 (P1 (.pair (.int .u8) (P4 (.sl (.int .u16)) (.sl (.pair (.int .u8) (.pair (.int .i16) (P4 (.int .i16) (.int .i16) (.int .u8) (.int .u8))))) .bool .bool))) (P1 tC) agL aDR [azR] Tryz.func69 (fun x => ahZ x.1) fun _ y _ h => ayV _ y h
def aI7 := okT 70 (P1 (.pair (.int .u8) (P4 (.sl (.int .u16)) (.sl (.pair (.int .u8) (.pair (.int .i16) (P4 (.int .i16) (.int .i16) (.int .u8) (.int .u8))))) .bool .bool))) (P1 tC) ai0 aIz [] Tryz.func70 (fun x => al0 x.1) fun _ y _ h => aDQ _ y h
def aMI := okT 21 (P1 (.pair (.int .u8) (P4 (.sl (.int .u16)) (.sl (.pair (.int .u8) (.pair (.int .i16) (P4 (.int .i16) (.int .i16) (.int .u8) (.int .u8))))) .bool .bool))) (P1 tC) ak9 aL3 [aEb, aI7] Tryz.func21 (fun x => ao7 x.1) fun _ y _ h => aFJ _ y h
def aPR := okT 37 (P2 (P3 (.int .u8) (.int .u8) tI) tC) (P1 tC) aoR aQk [] Tryz.func37 (fun x => an4 x.1 x.2.1) fun _ y _ h => aJq _ _ y h
def aMU := okT 11 (P2 (.pair (.int .u8) (P4 (.sl (.int .u16)) (.sl (.pair (.int .u8) (.pair (.int .i16) (P4 (.int .i16) (.int .i16) (.int .u8) (.int .u8))))) .bool .bool)) (.arr 2 (.pair (.int .u8) (.pair (.int .u8) (.pair (.int .i64) .unit))))) (P1 (.arr 3 (.pair (.int .i64) (.pair (.sl (.int .i64)) (.pair (.sl (.pair (.int .i64) (.pair (.int .i64) (.pair (.int .i64) (.pair (.int .i64) (.pair (.int .i64) (.pair (.int .i64) .unit))))))) .unit))))) apW aM7 [aMI, aPR] Tryz.func11 (fun x => akV x.1 x.2.1) fun _ y _ h => aGP _ _ y h
def o_CurveBands := okT 4 (P4 (.pair (.int .u8) (P4 (.sl (.int .u16)) (.sl (.pair (.int .u8) (.pair (.int .i16) (P4 (.int .i16) (.int .i16) (.int .u8) (.int .u8))))) .bool .bool)) (.arr 2 (.pair (.int .u8) (.pair (.int .u8) (.pair (.int .i64) .unit)))) tB (.arr 2 (.int .i16))) (P1 .bool) aoV aH0 [aGD, aMJ, aMS, aMU] Tryz.func4 (fun x => ao1 x.1 x.2.1 x.2.2.1 x.2.2.2.1) fun _ y hw h => aBP _ _ _ _ (aRW hw) y h
end
end Go.Vs
