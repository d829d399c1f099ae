/- Law 10: runs read and expanded; words read. -/
import Derived.Test.YtpnabclcnplchaaGreatL12Dec2
set_option linter.unusedVariables false
set_option linter.unusedSimpArgs false
namespace Go.Proofs.Tryz
open Go.Eng
open IntKind (i64 u64 u8)
def q0k:List Run->Int
 |[]=>0
 |r::t=>r.count+q0k t
def okC (l:List Run):Prop:=∀r∈l,1<=r.count/\r.count<=65536
theorem qcb {l:List Run}(h:okC l){j:Nat}(hj:j<l.length):1<=(l.getD j q0x).count/\(l.getD j q0x).count<=65536:=by
 rw[gQ,gE hj]
 exact h _ (gM hj)
theorem qhu {l:List Run}{i:Nat}(h:i<l.length):l.drop i=l.getD i q0x::l.drop (i+1):=by
 rw[List.drop_eq_getElem_cons h,gQ,gE h];rfl
def qm1 (l:List Run):Prop:=∀j,0<j->j<l.length->(l.getD j q0x).value≠(l.getD (j-1) q0x).value
theorem q2d:∀{l:List Run},okC l->(l.length:Int)<=q0k l
 |[],_=>by simp[q0k]
 |r::t,h=>by
  have h1:=h r mS
  have h2:=q2d (l:=t) (fun x hx=>h x (mC _ hx))
  rw[q0k,lC]
  omega
theorem qdx {l:List Run}(h:okC l)(i:Nat):okC (l.drop i):=fun r hr=>h r (List.mem_of_mem_drop hr)
/-! Valid runs. -/
set_option maxHeartbeats 1000000 in
theorem qhg {l:List Run}(hc:okC l)(hl:l.length<=100000):∀(d i t n m:Nat),l.length-i=d->i<=l.length->t<=65536->2*d<n->2*d<m->
  ∃v:Bool,F166c3 n l (t:Int) l (l.length:Int) i=some ((v,()),())/\F144c3 m l ((65536-t:Nat):Int) i=some ((v,()),())/\(v=true->(t:Int)+q0k (l.drop i)<=65536)/\(qm1 l->(t:Int)+q0k (l.drop i)<=65536->v=true)
 |0,i,t,n,m,hd,hi,ht,hn,hm=>by
  obtain⟨n,rfl⟩:∃n',n=n'+1:=⟨n-1,by omega⟩
  obtain⟨m,rfl⟩:∃m',m=m'+1:=⟨m-1,by omega⟩
  refine⟨true,?_,?_,fun _=>by rw[List.drop_eq_nil_of_le (by omega),q0k];omega,fun _ _=>rfl⟩
  ·rw[F166c3_eq,dF (by omega),cF]
  ·rw[F144c3_eq,dF (by omega),cF]
 | d +1,i,t,n,m,hd,hi,ht,hn,hm=>by
  obtain⟨n,rfl⟩:∃n',n=n'+2:=⟨n-2,by omega⟩
  obtain⟨m,rfl⟩:∃m',m=m'+2:=⟨m-2,by omega⟩
  have hlt:i<l.length:=by omega
  obtain⟨c1,c2⟩:=qcb hc hlt
  have hd1:=qhu hlt
  have hg:l.getD ((i:Int)).toNat q0x=l.getD i q0x:=by rw[tN]
  have hwt:i64.wrap ((65536:Int)-(t:Int))=((65536-t:Nat):Int):=by rw[q00 (by omega) (by omega)];omega
  rw[hd1,q0k,F166c3_eq,F144c3_eq,hwt]
  have go:∃v:Bool,(¬((65536-t:Nat):Int)<(l.getD i q0x).count->F166c7 (n+1) l (t:Int) l (l.length:Int) i (l.getD i q0x)=some ((v,()),())/\F144c7 (m+1) l ((65536-t:Nat):Int) i=some ((v,()),())/\(v=true->(t:Int)+((l.getD i q0x).count+q0k (l.drop (i+1)))<=65536)/\(qm1 l->(t:Int)+((l.getD i q0x).count+q0k (l.drop (i+1)))<=65536->v=true)):=by
   by_cases hov:((65536-t:Nat):Int)<(l.getD i q0x).count
   ·exact⟨true,fun h=>absurd hov h⟩
   obtain⟨v,v1,v2,v3,v4⟩:=qhg hc hl d (i+1) (t+(l.getD i q0x).count.toNat) n m (by omega) (by omega) (by omega) (by omega) (by omega)
   refine⟨v,fun _=>⟨?_,?_,fun h=>by have:=v3 h;omega,fun h h'=>v4 h (by omega)⟩⟩
   ·rw[F166c7_eq,q00 (z:=(t:Int)+(l.getD i q0x).count) (by omega) (by omega),q00 (by omega) (by omega),show(t:Int)+(l.getD i q0x).count=((t+(l.getD i q0x).count.toNat:Nat):Int) by omega]
    exact v1
   ·rw[F144c7_eq,if_pos (by omega),if_pos (by omega),hg,q00 (z:=((65536-t:Nat):Int)-(l.getD i q0x).count) (by omega) (by omega),q00 (by omega) (by omega),show((65536-t:Nat):Int)-(l.getD i q0x).count=((65536-(t+(l.getD i q0x).count.toNat):Nat):Int) by omega]
    exact v2
  obtain⟨v,go⟩:=go
  have hle:=q2d (qdx hc (i+1))
  have hdi:qm1 l->0<i->(l.getD i q0x).value≠(l.getD (i-1) q0x).value:=fun h h0=>h i h0 hlt
  generalize l.getD ((i:Int)).toNat (q0x:Run)=r at hg ⊢
  rw[<-hg]at go c1 c2 hdi ⊢
  clear hg
  by_cases h0:i=0
  ·simp only[dT (show(i:Int)<(l.length:Int) by omega),cT,if_pos (show(0:Int)<=(i:Int) by omega),if_pos (show(i:Int)<(l.length:Int) by omega),dF (show¬r.count<1 by omega),cF,dF (show¬(0:Int)<(i:Int) by omega)]
   by_cases hov:((65536-t:Nat):Int)<r.count
   ·rw[dT hov]
    exact⟨false,rfl,rfl,(fun h=>by cases h),(fun _ h=>by omega)⟩
   ·rw[dF hov,cF,cF]
    exact⟨v,go hov⟩
  ·have hwi:i64.wrap ((i:Int)-1)=((i-1:Nat):Int):=by rw[q00 (by omega) (by omega)];omega
   rw[hwi]
   have hg2:l.getD (((i-1:Nat):Int)).toNat q0x=l.getD (i-1) q0x:=by rw[tN]
   generalize l.getD (((i-1:Nat):Int)).toNat (q0x:Run)=r2 at hg2 ⊢
   rw[<-hg2]at hdi
   simp only[dT (show(i:Int)<(l.length:Int) by omega),cT,if_pos (show(0:Int)<=(i:Int) by omega),if_pos (show(i:Int)<(l.length:Int) by omega),dF (show¬r.count<1 by omega),cF,dT (show(0:Int)<(i:Int) by omega),if_pos (show(0:Int)<=((i-1:Nat):Int) by omega),if_pos (show((i-1:Nat):Int)<(l.length:Int) by omega)]
   by_cases hov:((65536-t:Nat):Int)<r.count
   ·rw[dT hov]
    exact⟨false,rfl,rfl,(fun h=>by cases h),(fun _ h=>by omega)⟩
   ·rw[dF hov,cF,cF]
    by_cases hv:r.value=r2.value
    ·rw[dT hv]
     exact⟨false,rfl,rfl,(fun h=>by cases h),(fun h _=>absurd hv (hdi h (by omega)))⟩
    ·rw[dF hv,cF,cF]
     exact⟨v,go hov⟩
/-! Runs expanded. -/
def qgl:List Run->List Int
 |[]=>[]
 |r::t=>List.replicate r.count.toNat r.value++qgl t
theorem qak:∀{l:List Run},okC l->((qgl l).length:Int)=q0k l
 |[],_=>rfl
 |r::t,h=>by
  have h1:=h r mS
  have h2:=qak (l:=t) (fun x hx=>h x (mC _ hx))
  rw[qgl,lA,List.length_replicate,q0k]
  omega
theorem qz7 {l:List Run}{i:Nat}{r:Run}(h1:1<=r.count)(h2:r.count<=65536)(hi:i<l.length)(hl:l.length<=100000):∀(d k n:Nat) (acc:List Int),r.count.toNat-k=d->k<=r.count.toNat->d<n->acc.length+d<=1000000->
  ∃m,n=m+d+1/\F123c8 n l (l.length:Int) i r.count k acc r=F123c5 m l (l.length:Int) ((i+1:Nat):Int) (acc++List.replicate d r.value)
 |0,k,n,acc,hd,hk,hn,ha=>by
  obtain⟨n,rfl⟩:∃n',n=n'+1:=⟨n-1,by omega⟩
  refine⟨n,rfl,?_⟩
  rw[F123c8_eq,dF (by omega),cF,q00 (by omega) (by omega),List.replicate_zero,List.append_nil]
  rfl
 |d+1,k,n,acc,hd,hk,hn,ha=>by
  obtain⟨n,rfl⟩:∃n',n=n'+1:=⟨n-1,by omega⟩
  obtain⟨m,m1,m2⟩:=qz7 h1 h2 hi hl d (k+1) n (acc++[r.value]) (by omega) (by omega) (by omega) (by rw[lA,List.length_singleton];omega)
  refine⟨m,by omega,?_⟩
  rw[F123c8_eq,dT (by omega),cT,if_pos (by simp only[lim];omega),q00 (by omega) (by omega),show((k:Int)+1)=((k+1:Nat):Int) by omega,m2,aA]
  rfl
theorem qvb {l:List Run}{i:Nat}(hc:okC l)(hi:i<l.length)(hl:l.length<=100000):∀(d k n:Nat) (acc:List Int),(l.getD i q0x).count.toNat-k=d->k<=(l.getD i q0x).count.toNat->d<n->acc.length+d<=1000000->
  ∃m,n=m+d+1/\F84c8 n l i k acc=F84c5 m l ((i+1:Nat):Int) (acc++List.replicate d (l.getD i q0x).value)
 |0,k,n,acc,hd,hk,hn,ha=>by
  obtain⟨n,rfl⟩:∃n',n=n'+1:=⟨n-1,by omega⟩
  obtain⟨c1,c2⟩:=qcb hc hi
  have hg:l.getD ((i:Int)).toNat q0x=l.getD i q0x:=by rw[tN]
  refine⟨n,rfl,?_⟩
  rw[F84c8_eq,if_pos (by omega),if_pos (by omega),hg,dF (by omega),cF,q00 (by omega) (by omega),List.replicate_zero,List.append_nil]
  rfl
 |d+1,k,n,acc,hd,hk,hn,ha=>by
  obtain⟨n,rfl⟩:∃n',n=n'+1:=⟨n-1,by omega⟩
  obtain⟨c1,c2⟩:=qcb hc hi
  have hg:l.getD ((i:Int)).toNat q0x=l.getD i q0x:=by rw[tN]
  obtain⟨m,m1,m2⟩:=qvb hc hi hl d (k+1) n (acc++[(l.getD i q0x).value]) (by omega) (by omega) (by omega) (by rw[lA,List.length_singleton];omega)
  refine⟨m,by omega,?_⟩
  rw[F84c8_eq,if_pos (by omega),if_pos (by omega),hg,dT (by omega),cT,if_pos (by omega),if_pos (by omega),if_pos (by simp only[lim];omega),q00 (by omega) (by omega),show((k:Int)+1)=((k+1:Nat):Int) by omega,m2,aA]
  rfl
theorem qz6 {l:List Run}(hc:okC l)(hl:l.length<=100000)(hs:q0k l<=65536):∀(d i n m:Nat) (acc:List Int),l.length-i=d->i<=l.length->(q0k (l.drop i)).toNat+2*d<n->(q0k (l.drop i)).toNat+2*d<m->(acc.length:Int)+q0k (l.drop i)<=100000->
  F123c5 n l (l.length:Int) i acc=some ((acc++qgl (l.drop i),((0:Int),())),())/\F84c5 m l i acc=some ((acc++qgl (l.drop i),((0:Int),())),())
 |0,i,n,m,acc,hd,hi,hn,hm,ha=>by
  obtain⟨n,rfl⟩:∃n',n=n'+1:=⟨n-1,by omega⟩
  obtain⟨m,rfl⟩:∃m',m=m'+1:=⟨m-1,by omega⟩
  rw[F123c5_eq,dF (by omega),cF,F84c5_eq,dF (by omega),cF,List.drop_eq_nil_of_le (by omega),qgl,List.append_nil]
  exact⟨rfl,rfl⟩
 |d+1,i,n,m,acc,hd,hi,hn,hm,ha=>by
  obtain⟨n,rfl⟩:∃n',n=n'+1:=⟨n-1,by omega⟩
  obtain⟨m,rfl⟩:∃m',m=m'+1:=⟨m-1,by omega⟩
  have hlt:i<l.length:=by omega
  obtain⟨c1,c2⟩:=qcb hc hlt
  have hd1:=qhu hlt
  have hle:=q2d (qdx hc (i+1))
  rw[hd1,q0k]at hn hm ha
  have hg:l.getD ((i:Int)).toNat q0x=l.getD i q0x:=by rw[tN]
  obtain⟨p,p1,p2⟩:=qz7 c1 c2 hlt hl (l.getD i q0x).count.toNat 0 n acc (by omega) (by omega) (by omega) (by omega)
  obtain⟨q,q1,q2⟩:=qvb hc hlt hl (l.getD i q0x).count.toNat 0 m acc (by omega) (by omega) (by omega) (by omega)
  have ih:=qz6 hc hl hs d (i+1) p q (acc++List.replicate (l.getD i q0x).count.toNat (l.getD i q0x).value) (by omega) (by omega) (by omega) (by omega) (by rw[lA,List.length_replicate];omega)
  rw[F123c5_eq,dT (by omega),cT,if_pos (by omega),if_pos (by omega),hg,F84c5_eq,dT (by omega),cT,hd1,qgl,<-aA]
  exact⟨p2.trans ih.1,q2.trans ih.2⟩
abbrev exA:List PK:=[PK.v (Ty.nm 5).sl]
abbrev exR:List RK:=[RK.own 2 (Ty.int .i64),RK.v (Ty.int .i64)]
theorem qc1 {l:List Run}(hc:okC l)(hl:l.length<=100000):
  ∃(x:List Int) (e:Nat),F123.run exA exR 4000000 (l,())=some ((x,((e:Int),())),())/\F84.run exA exR 4000000 (l,())=some ((x,((e:Int),())),())/\(e=0->x=qgl l/\q0k l<=65536)/\(qm1 l->q0k l<=65536->e=0):=by
 rw[show F123.run exA exR 4000000 (l,())=_ from F123_run _ _,show F84.run exA exR 4000000 (l,())=_ from F84_run _ _]
 rw[show F123c1 4000000 l=_ from F123c1_eq 3999999 _,show F84c1 4000000 l=_ from F84c1_eq 3999999 _]
 obtain⟨v,v1,v2,v3,v4⟩:=qhg hc hl l.length 0 0 4000000 4000000 (by omega) (by omega) (by omega) (by omega) (by omega)
 have r1:F166.run qji Rkl 4000000 (l,())=some ((v,()),()):=(F166_run _ _).trans v1
 have r2:F144.run qji Rkl 4000000 (l,())=some ((v,()),()):=(F144_run _ _).trans v2
 rw[r1,r2]
 cases v with
 |false=>exact⟨[],4,rfl,rfl,(fun h=>by cases h),(fun h h'=>by have:=v4 h (by rw[List.drop_zero];omega);cases this)⟩
 |true=>
  have hs:=v3 rfl
  rw[List.drop_zero]at hs
  have hle:=q2d hc
  obtain⟨e1,e2⟩:=qz6 hc hl (by omega) l.length 0 3999999 3999999 [] (by omega) (by omega) (by rw[List.drop_zero];omega) (by rw[List.drop_zero];omega) (by rw[List.drop_zero];simp;omega)
  rw[List.drop_zero,List.nil_append]at e1 e2
  exact⟨qgl l,0,e1,e2,fun _=>⟨rfl,by omega⟩,fun _ _=>rfl⟩
end Go.Proofs.Tryz
