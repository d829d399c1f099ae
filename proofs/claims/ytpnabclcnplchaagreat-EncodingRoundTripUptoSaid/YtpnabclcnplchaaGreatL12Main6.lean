/- Law 12: EncodingRoundTrip. -/
import Derived.Test.YtpnabclcnplchaaGreatL12ByteA
import Derived.Test.YtpnabclcnplchaaGreatL12Arg
import Derived.Test.YtpnabclcnplchaaGreatL12Fn6
import Derived.Test.YtpnabclcnplchaaGreatL12Eq
set_option linter.unusedVariables false
set_option linter.unusedSimpArgs false
namespace Go.Proofs.Tryz
open Go.Eng
theorem qw0 {v:Vec}{R:List Int}(hv:okV v=true)(hs:vsz v<=10000)(hx:okL v.ints)(ht:∀w∈v.texts,byt w)(hR:byt R)(hRl:R.length<=100):∀(d k n:Nat),6-k=d->k<=6->2*d<n->
  F6c4 n R (k:Int) v=some ((true,()),())
 |0,k,n,hd,hk,hm=>by
  obtain⟨n,rfl⟩:∃n',n=n'+1:=⟨n-1,by omega⟩
  rw[F6c4_eq,dF (by omega),cF]
 | d+1,k,n,hd,hk,hm=>by
  obtain⟨n,rfl⟩:∃n',n=n'+2:=⟨n-2,by omega⟩
  have hF:=qit hv hs hx
  obtain⟨t1,t2,_⟩:=q33 hv
  have he:=z10y (k:=k) hv (by omega)
  have go:F6c5 (n+1) R (k:Int) v=some ((true,()),()):=by
   rw[F6c5_eq,q00 (z:=(k:Int)+1) (by omega) (by omega)]
   exact qw0 hv hs hx ht hR hRl d (k+1) n (by omega) (by omega) (by omega)
  rw[F6c4_eq,dT (by omega),cT,q8w hs hx,oB,he]
  by_cases ha:app (k:Int) v.f_Type=true
  ·obtain⟨e1,e2,e3⟩:=z14c hv hs hx ht (show k<=5 by omega) hR (by omega)
   have hl:=q7v hF (k:Int)
   have hn:v.nulls.length<=10000:=by unfold vsz at hs;omega
   obtain⟨v',q,e,r1,_,_,tr⟩:=qw7 e1 e2 e3 (t:=v.f_Type) (n:=((v.nulls.length:Nat):Int)) (.inl (by omega))
   obtain⟨g1,g2,g3⟩:=tr R v k rfl hv hF ht rfl rfl (by omega) ha
   rw[g1,g2,g3]at r1
   rw[if_pos ha]
   dsimp only
   rw[show(!decide ((0:Int)=0))=false from rfl,cF,List.nil_append,if_pos (show 0+((k:Int)::q0h v k).length<=lim from by rw[lC];have:lim=4294967296:=rfl;omega),if_pos (show((k:Int)::q0h v k).length+R.length<=lim from by rw[lC];have:lim=4294967296:=rfl;omega),show F26.run _ _ 4000000 (v,())=_ from F26_run _ _,oB]
   dsimp only
   rw[r1,oB]
   dsimp only
   rw[dT (show(((0:Nat):Int)=0)from rfl),nT,cF,dT (show(((1+(q0h v k).length:Nat):Int)=((((k:Int)::q0h v k).length:Nat):Int))from by rw[lC];omega),nT,cF,z14f (by omega) (by have:=hF.texts;omega) (by have:=hF.ints;omega),oB]
   dsimp only
   rw[nT,cF,go]
  ·rw[if_neg ha]
   dsimp only
   rw[show(!decide ((7:Int)=0))=true from rfl,cT,show(!decide ((7:Int)=7))=false from rfl,cF,qpc (by omega) (by omega) (by omega) (by omega),oB]
   dsimp only
   rw[Bool.eq_false_iff.2 ha,cF,go]
theorem z14g {v:Vec}{R:List Int}(hs:vsz v<4611686018427387904)(hl:v.texts.length<=3000000)(hx:okL v.ints)(ht:∀w∈v.texts,byt w)(hR:byt R):F6.run qyk [.v .bool] 4000000 (v,R,())=some ((true,()),()):=by
 rw[show F6.run qyk [.v .bool] 4000000 (v,R,())=_ from F6_run _ _ _,qvo hs hl,oB]
 dsimp only
 by_cases h:vsz v<=10000
 ·rw[dT h,nT,cF,z12o,oB]
  dsimp only
  cases hv:okV v with
  |false=>rw[nF,cT]
  | true=>
   rw[nT,cF]
   by_cases hRl:100<R.length
   ·rw[dT (by omega),cT]
   ·rw[dF (by omega),cF,F6c3_eq (n:=3999999)]
    exact qw0 hv h hx ht hR (by omega) 6 0 3999999 (by omega) (by omega) (by omega)
 ·rw[dF h,nF,cT]
theorem law6 (x:HIn NN.ρ [.v (.nm 0),.v (.sl (.int .u8))])(hm:∀k,qav k [.v (.nm 0),.v (.sl (.int .u8))] x<=1048576)(ho:∀k,okI k [.v (.nm 0),.v (.sl (.int .u8))] x):
  ∃o,F6.run qyk [.v .bool] 4000000 x=some ((true,()),o):=by
 obtain⟨v,b,u⟩:=x
 have h1:qr6 NN 1 0 v+_<=1048576:=hm 1
 obtain⟨a,c⟩:=qyh (v:=v) (m:=1048576) (by omega)
 have hb:byt b:=fun x hx=>by
  have h3:(Lit.int .u8 x).wf=true:=(ho 0).2.1 x hx
  simp[Lit.wf,IntKind.min,IntKind.max,IntKind.bits,IntKind.signed]at h3
  exact⟨h3.1,Int.lt_of_le_of_lt h3.2 (by decide)⟩
 exact⟨(),z14g (by omega) (by omega) (z13e (ho 1).1) (z13c (ho 1).1) hb⟩
end Go.Proofs.Tryz
