/- Law 12: EncodingFilterAgrees. -/
import Derived.Test.YtpnabclcnplchaaGreatL12Byte
import Derived.Test.YtpnabclcnplchaaGreatL12Arg
import Derived.Test.YtpnabclcnplchaaGreatL12Fn7
set_option linter.unusedVariables false
set_option linter.unusedSimpArgs false
namespace Go.Proofs.Tryz
open Go.Eng
theorem qso {v:Vec}{k:Nat}(hv:okV v=true)(hk:k<=5):qqd v (k:Int)=if app (k:Int) v.f_Type=true then((k:Int)::q0h v k,0)else([],7):=by
 unfold qqd
 rw[hv,if_neg (by decide),if_neg (by omega),if_neg (by omega)]
 cases app (k:Int) v.f_Type<;>rfl
theorem z14g {v:Vec}{k:Nat}(hv:okV v=true)(hs:vsz v<=10000)(hx:okL v.ints)(ht:∀w∈v.texts,byt w)(hk:k<=5){R:List Int}(hR:byt R)(hRl:R.length<=1000):
  okB (((k:Int)::q0h v k)++R)/\(((k:Int)::q0h v k)++R).length<=100000000/\((((k:Int)::q0h v k)++R).getD 0 0=5->(((k:Int)::q0h v k)++R).length<=1000000):=by
 have hF:=qi4 hv hs hx
 have hl:=q9x hF (k:Int)
 refine⟨que (q3u ?_ hR),by simp only[lA,lC];omega,fun h=>?_⟩
 ·intro x h
  rcases List.mem_cons.1 h with rfl|h
  ·omega
  ·exact qs6 hx ht _ x h
 ·have h5:(k:Int)=5:=h
  have hb:q0h v (k:Int)=fcB v.texts v.texts.length:=by
   unfold q0h
   rw[if_neg (by omega),if_neg (by omega),if_neg (by omega),if_neg (by omega),if_neg (by omega)]
  have h6:=qyy hF.okT v.texts.length
  have h7:=hF.texts
  unfold vsz at hs
  rw[lA,lC,hb]
  omega
theorem qt2 {v:Vec}{p:Pred}{k:Nat}(hv:okV v=true)(hs:vsz v<=10000)(hx:okL v.ints)(ht:∀w∈v.texts,byt w)(hk:k<=5)(ha:app (k:Int) v.f_Type=true)(hop:opOK p):
  F22.run flA flR 4000000 ((k:Int)::q0h v k,v.f_Type,((v.nulls.length:Nat):Int),p,())=qsz ((v.nulls.length:Nat):Int) (fwd p v v.nulls.length v.nulls.length) 0:=by
 have hF:=qi4 hv hs hx
 obtain⟨e1,e2,e3⟩:=z14g hv hs hx ht hk (R:=[]) (fun x h=>by cases h) (by simp)
 rw[List.append_nil]at e1 e2 e3
 have hn:v.nulls.length<=10000:=by unfold vsz at hs;omega
 obtain⟨w,q,e,r1,r2,r3,_⟩:=qt3 e1 e2 e3 (t:=v.f_Type) (n:=((v.nulls.length:Nat):Int)) (.inl (by omega)) hop
 obtain⟨g1,g2,_⟩:=r2 [] v k (by rw[List.append_nil]) hv hF ht rfl rfl hk ha
 rw[r3,if_pos g1,g2,tN]
theorem qj5 {v:Vec}{p:Pred}(hv:okV v=true)(hn:v.nulls.length<=10000):∀(d i n:Nat),v.nulls.length-i=d->i<=v.nulls.length->d<n->
  F7c20' n (i:Int) v p ((v.nulls.length:Nat):Int) (fwd p v v.nulls.length v.nulls.length)=some ((true,()),())
 |0,i,n,hd,hi,hm=>by
  obtain⟨n,rfl⟩:∃n',n=n'+1:=⟨n-1,by omega⟩
  rw[F7c20'_eq,show F26.run _ _ 4000000 (v,())=_ from F26_run _ _,oB]
  dsimp only
  rw[dF (by omega),cF]
 |d+1,i,n,hd,hi,hm=>by
  obtain⟨n,rfl⟩:∃n',n=n'+1:=⟨n-1,by omega⟩
  obtain⟨t1,t2,_,h4,_⟩:=q1s hv
  have hk:(vAt v i).kind=1\/(vAt v i).kind=2\/(vAt v i).kind=3:=by rw[qir];omega
  rw[F7c20'_eq,show F26.run _ _ 4000000 (v,())=_ from F26_run _ _,oB]
  dsimp only
  rw[dT (by omega),cT,qjg hn (by omega),oB,(qlu h4 (by omega)).2,oB]
  dsimp only
  rw[qoi hk,oB]
  dsimp only
  rw[dT rfl,nT,cF,q00 (z:=(i:Int)+1) (by omega) (by omega)]
  exact qj5 hv hn d (i+1) n (by omega) (by omega) (by omega)
theorem qgv {v:Vec}{p:Pred}(hv:okV v=true)(hs:vsz v<=10000)(hx:okL v.ints)(ht:∀w∈v.texts,byt w)(hop:opOK p):∀(d k n:Nat),6-k=d->k<=6->2*d+10010<n->
  F7c6' n true (k:Int) v p ((v.nulls.length:Nat):Int) (fwd p v v.nulls.length v.nulls.length)=some ((true,()),())
 |0,k,n,hd,hk,hm=>by
  obtain⟨n,rfl⟩:∃n',n=n'+2:=⟨n-2,by omega⟩
  have hn:v.nulls.length<=10000:=by unfold vsz at hs;omega
  rw[F7c6'_eq,dF (by omega),cF,nT,cF,show F26.run _ _ 4000000 (v,())=_ from F26_run _ _,oB]
  dsimp only
  rw[dT rfl,nT,cF,qqa hn,oB]
  dsimp only
  rw[nT,cF,F7c19'_eq]
  exact qj5 hv hn v.nulls.length 0 n (by omega) (by omega) (by omega)
 | d+1,k,n,hd,hk,hm=>by
  obtain⟨n,rfl⟩:∃n',n=n'+2:=⟨n-2,by omega⟩
  have hw:=qej p v v.nulls.length v.nulls.length
  have hwn:wcn v.nulls.length<=1000000:=by unfold vsz at hs;unfold wcn;omega
  have he:=qso (k:=k) hv (by omega)
  rw[F7c6'_eq,dT (by omega),cT,q68 hs hx,oB,he]
  dsimp only
  by_cases ha:app (k:Int) v.f_Type=true
  ·rw[if_pos ha]
   dsimp only
   rw[show(!decide ((0:Int)=0))=false from rfl,cF,show F26.run _ _ 4000000 (v,())=_ from F26_run _ _,oB]
   dsimp only
   rw[qt2 hv hs hx ht (by omega) ha hop]
   unfold qsz
   rw[oB]
   dsimp only
   rw[show(!decide ((0:Int)=0))=false from rfl,cF,cT,show F24.run Pk2k Rkh 4000000 (({n:=((v.nulls.length:Nat):Int),words:=fwd p v v.nulls.length v.nulls.length}:Bits),Bits.mk ((v.nulls.length:Nat):Int) (fwd p v v.nulls.length v.nulls.length),())=_ from z10m (by rw[hw];exact hwn),oB]
   dsimp only
   rw[nT,cF,F7c15'_eq,q00 (z:=(k:Int)+1) (by omega) (by omega)]
   exact qgv hv hs hx ht hop d (k+1) n (by omega) (by omega) (by omega)
  ·rw[if_neg ha]
   dsimp only
   rw[show(!decide ((7:Int)=0))=true from rfl,cT,q00 (z:=(k:Int)+1) (by omega) (by omega)]
   exact qgv hv hs hx ht hop d (k+1) (n+1) (by omega) (by omega) (by omega)
theorem z14i {v:Vec}{p:Pred}(hs:vsz v<4611686018427387904)(hl:v.texts.length<=3000000)(hx:okL v.ints)(ht:∀w∈v.texts,byt w):F7.run qq4 [.v .bool] 4000000 (v,p,())=some ((true,()),()):=by
 rw[show F7.run qq4 [.v .bool] 4000000 (v,p,())=_ from F7_run _ _ _,qve hs hl,oB]
 dsimp only
 by_cases h:vsz v<=10000
 ·rw [dT h,nT,cF,z12n,oB]
  dsimp only
  cases hv:okV v with
  |false=>rw[nF,cT]
  | true=>
   obtain⟨x,hxv⟩:=qvt p.value
   rw[nT,cF,hxv,oB]
   dsimp only
   cases x with
   |false=>rw[nF,cT]
   | true=>
    have he:=qso (k:=0) hv (by omega)
    have ha:app ((0:Nat):Int) v.f_Type=true:=rfl
    rw[if_pos ha]at he
    rw[nT,cF,F7c3_eq (n:=3999999),F7c6_eq (n:=3999998),dT (show(0:Int)<=5 by decide),cT,q68 h hx,oB,show qqd v 0=_ from he]
    dsimp only
    rw[show(!decide ((0:Int)=0))=false from rfl,cF,show F26.run _ _ 4000000 (v,())=_ from F26_run _ _,oB]
    dsimp only
    rcases Classical.em (opOK p)with hop|hop
    ·rw[qt2 hv h hx ht (by omega) ha hop]
     unfold qsz
     rw[oB]
     dsimp only
     rw[show(!decide ((0:Int)=0))=false from rfl,cF,cF,F7c15_eq (n:=3999997),q00 (z:=(0:Int)+1) (by omega) (by omega)]
     exact qgv hv h hx ht hop 5 1 3999997 (by omega) (by omega) (by omega)
    ·rw[(z14h hop).1]
     unfold qsz
     rw[oB]
     dsimp only
     rw[show(!decide ((1:Int)=0))=true from rfl,cT,dT rfl,cT]
 ·rw[dF h,nF,cT]
theorem z13c {v:Vec}(h:okK NN 1 0 v):∀w∈v.texts,byt w:=by
 obtain⟨_,_,h3,_⟩:=h
 exact fun w hw x hx=>h3 w hw x hx
theorem law7 (x:HIn NN.ρ [.v (.nm 0),.v (.nm 3)])(hm:∀k,qae k [.v (.nm 0),.v (.nm 3)] x<=1048576)(ho:∀k,okI k [.v (.nm 0),.v (.nm 3)] x):
  ∃o,F7.run qq4 [.v .bool] 4000000 x=some ((true,()),o):=by
 obtain⟨v,p,u⟩:=x
 have h1:qqq NN 1 0 v+_<=1048576:=hm 1
 obtain⟨a,b⟩:=qyb (v:=v) (m:=1048576) (by omega)
 exact⟨(),z14i (by omega) (by omega) (z13e (ho 1).1) (z13c (ho 1).1)⟩
end Go.Proofs.Tryz
