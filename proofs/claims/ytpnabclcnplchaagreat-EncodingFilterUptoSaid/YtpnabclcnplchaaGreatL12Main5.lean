/- Law 12: EncodingFilter. -/
import Derived.Test.YtpnabclcnplchaaGreatL12Filt3
import Derived.Test.YtpnabclcnplchaaGreatL12Fn5
set_option linter.unusedVariables false
set_option linter.unusedSimpArgs false
namespace Go.Proofs.Tryz
open Go.Eng
theorem z1ae {b:List Int}(hb:okB b)(hl:b.length<=1000){t n:Int}(hn:n<=300\/65536<n)(p:Pred):F5c3 4000000 b t n p=some ((true,()),()):=by
 have key:∃(m:Int) (w:List Int) (e:Int),w.length<=1000000/\F22.run flA flR 4000000 (b,t,n,p,())=qvw m w e/\F23.run flA flR 4000000 (b,t,n,p,())=qvw m w e:=by
  rcases Classical.em (opOK p)with hop|hop
  ·obtain⟨v,q,e,r1,_,r2,r3⟩:=qsn hb (by omega) (fun _=>by omega) (t:=t) (n:=n) (by omega) hop
   by_cases he:e=0
   ·rw[if_pos he]at r2 r3
    obtain⟨_,_,g3,_,_,g6⟩:=r1.1 he
    have:=(q1r g3).2.2.1
    exact⟨_,_,_,by rw[qsu];unfold wcn;omega,r2,r3⟩
   ·rw[if_neg he]at r2 r3
    exact⟨_,_,_,by simp,r2,r3⟩
  ·exact⟨_,_,_,by simp,(qys hop).1,(qys hop).2⟩
 obtain⟨m,w,e,hw,r1,r2⟩:=key
 rw[F5c3_eq (n:=3999999),r1]
 unfold qvw at r2 ⊢
 rw[oB,r2,oB]
 dsimp only
 rw[z10l (s:={n:=m,words:=w}) hw,oB]
 dsimp only
 rw[cT,dT rfl,cT]
theorem z14w {b:List Int}(hb:okB b)(t n:Int)(p:Pred):F5.run Pkd [.v .bool] 4000000 (b,t,n,p,())=some ((true,()),()):=by
 obtain⟨x,hx⟩:=qvi p.value
 have main:b.length<=1000->(n<=300\/65536<n)->((F21.run Pk3b Rkl 4000000 (p.value,())).bind fun r0=>bif !r0.fst.fst then some ((true,()),())else F5c3 4000000 b t n p)=some ((true,()),()):=by
  intro h1 h2
  rw[hx,oB]
  dsimp only
  cases x with
  |false=>rw[nF,cT]
  |true=>
   rw[nT,cF]
   exact z1ae hb h1 h2 p
 rw[show F5.run Pkd [.v .bool] 4000000 (b,t,n,p,())=_ from F5_run _ _ _ _ _]
 by_cases h1:1000<b.length
 ·rw[dT (by omega),cT]
 rw[dF (by omega),cF]
 by_cases h2:300<n
 ·rw[dT h2,cT]
  by_cases h3:n<=65536
  ·rw[dT h3,cT]
  ·rw[dF h3,cF]
   exact main (by omega) (by omega)
 ·rw[dF h2,cF]
  exact main (by omega) (by omega)
theorem law5 (x:HIn NN.ρ [.v (.sl (.int .u8)),.v (.int .i64),.v (.int .i64),.v (.nm 3)])(hm:∀k,qac k [.v (.sl (.int .u8)),.v (.int .i64),.v (.int .i64),.v (.nm 3)] x<=1048576)(ho:∀k,okI k [.v (.sl (.int .u8)),.v (.int .i64),.v (.int .i64),.v (.nm 3)] x):
  ∃o,F5.run Pkd [.v .bool] 4000000 x=some ((true,()),o):=by
 obtain⟨b,t,n,p,u⟩:=x
 obtain⟨o1,_⟩:=ho 0
 have hb:∀x∈b,0<=x/\x<256:=fun x hx=>by
  have h3:(Lit.int .u8 x).wf=true:=o1 x hx
  simp[Lit.wf,IntKind.min,IntKind.max,IntKind.bits,IntKind.signed]at h3
  exact⟨h3.1,Int.lt_of_le_of_lt h3.2 (by decide)⟩
 exact⟨(),z14w (qu5 hb) t n p⟩
end Go.Proofs.Tryz
