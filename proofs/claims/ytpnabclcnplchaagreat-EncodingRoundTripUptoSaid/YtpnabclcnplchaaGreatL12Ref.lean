/- Law 12: the reference's Encode, Costs and Choose. -/
import Derived.Test.YtpnabclcnplchaaGreatL12Cost
set_option linter.unusedVariables false
set_option linter.unusedSimpArgs false
namespace Go.Proofs.Tryz
open Go.Eng
theorem qlb {v:Vec}{k:Int}(hv:okV v=true)(hF:Fit v)(h1:0<=k)(h2:k<=5):F35.run qrz Rk1 4000000 (v,k,())=some ((k::q0h v k,()),()):=by
 obtain⟨t1,t2,_,hL,_⟩:=q33 hv
 obtain⟨r1,r2⟩:=qb6 hF.okL (by have:=hF.ints;omega)
 have hl:=q7v hF k
 rw[show F35.run qrz Rk1 4000000 (v,k,())=_ from(F35_run _ _ _).trans (F35c1_eq 3999999 _ _),z10b h1 h2]
 rcases six h1 h2 with hk|hk|hk|hk|hk|hk
 ·have hb:q0h v k=plE v:=by unfold q0h;rw[if_pos hk]
  rw[dT (show k=0 from hk),cT,qrj t1 t2 hL (by have:=hF.ints;omega) (by have:=hF.texts;omega) hF.okT,oB,<-hb]
  dsimp only
  rw[if_pos (by simp only[lim];omega)]
  rfl
 ·have hb:q0h v k=q9b (q12 v.ints):=by unfold q0h;rw[if_neg (by omega),if_pos hk]
  rw[dF (show¬k=0 by omega),cF,dT (show k=1 from hk),cT,qlk (by have:=hF.ints;omega),oB]
  dsimp only
  rw[qpq r1 (by have:=hF.ints;omega),oB,<-hb]
  dsimp only
  rw[if_pos (by simp only[lim];omega)]
  rfl
 ·have hb:q0h v k=frE v.ints:=by unfold q0h;rw[if_neg (by omega),if_neg (by omega),if_pos hk]
  rw[dF (show¬k=0 by omega),cF,dF (show¬k=1 by omega),cF,dT (show k=2 from hk),cT,q6t (by have:=hF.ints;omega) hF.okL,oB,<-hb]
  dsimp only
  rw[if_pos (by simp only[lim];omega)]
  rfl
 ·have hb:q0h v k=dlE v.ints:=by unfold q0h;rw[if_neg (by omega),if_neg (by omega),if_neg (by omega),if_pos hk]
  rw[dF (show¬k=0 by omega),cF,dF (show¬k=1 by omega),cF,dF (show¬k=2 by omega),cF,dT (show k=3 from hk),cT,qh4 (by have:=hF.ints;omega) hF.okL,oB,<-hb]
  dsimp only
  rw[if_pos (by simp only[lim];omega)]
  rfl
 ·have hb:q0h v k=q86 v.texts:=by unfold q0h;rw[if_neg (by omega),if_neg (by omega),if_neg (by omega),if_neg (by omega),if_pos hk]
  rw[dF (show¬k=0 by omega),cF,dF (show¬k=1 by omega),cF,dF (show¬k=2 by omega),cF,dF (show¬k=3 by omega),cF,dT (show k=4 from hk),cT,qph hF.texts hF.okT,oB,<-hb]
  dsimp only
  rw[if_pos (by simp only[lim];omega)]
  rfl
 ·have hb:q0h v k=fcB v.texts v.texts.length:=by unfold q0h;rw[if_neg (by omega),if_neg (by omega),if_neg (by omega),if_neg (by omega),if_neg (by omega)]
  rw[dF (show¬k=0 by omega),cF,dF (show¬k=1 by omega),cF,dF (show¬k=2 by omega),cF,dF (show¬k=3 by omega),cF,dF (show¬k=4 by omega),cF,qri (by have:=hF.texts;omega) hF.okT,oB,<-hb]
  dsimp only
  rw[if_pos (by simp only[lim];omega)]
  rfl
end Go.Proofs.Tryz
