/- Law 12: common heads, decoded. -/
import Derived.Test.YtpnabclcnplchaaGreatL12DDl2
import Derived.Test.YtpnabclcnplchaaGreatL12Ref
set_option linter.unusedVariables false
set_option linter.unusedSimpArgs false
namespace Go.Proofs.Tryz
open Go.Eng
open IntKind (i64 u64 u8)
theorem qy4 {t S:List Int}{k r:Nat}(hk:k<=t.length)(hS:S.length=r):qm4 (qdp (List.replicate (k+r) 0) (t.take k)) k r S=t.take k++S:=by
 have hl:(t.take k).length=k:=by rw[lT,Nat.min_eq_left hk]
 have h1:qdp (List.replicate (k+r) (0:Int)) (t.take k)=t.take k++List.replicate r 0:=by
  unfold qdp
  rw[hl,List.length_replicate,tL (by omega),List.drop_replicate,show k+r-k=r by omega]
 rw[h1]
 unfold qm4
 rw[hS,Nat.min_self,tL (l:=S) (by omega),List.take_append_of_le_length (by omega),tL (l:=t.take k) (by omega),List.drop_of_length_le (by rw[lA,hl,List.length_replicate];exact nR _),List.append_nil]
theorem qob (S:List Int):∀(t:List Int) (k:Nat),k<=t.length->k<=cpf t (t.take k++S)
 |t,0,_=>Nat.zero_le _
 |[],k+1,h=>by simp at h
 |a::t,k+1,h=>by
  rw[List.take_succ_cons,List.cons_append,cpf,if_pos rfl]
  have:=qob S t k (by simpa using h)
  omega
theorem qo9:∀(t s:List Int),s.take (cpf t s)=t.take (cpf t s)
 |[],s=>by rw[show cpf [] s=0 by cases s<;>rfl];rfl
 |a::t,[]=>rfl
 | a::t,c::s=>by
  unfold cpf
  split
  ·rename_i h
   rw[List.take_succ_cons,List.take_succ_cons,qo9 t s,h]
  ·rfl
abbrev nxA:List PK:=[PK.v (Ty.int u8).sl,PK.v (Ty.int .i64),PK.v (Ty.int .i64),PK.v Ty.str]
abbrev nxR:List RK:=[RK.v Ty.str,RK.v (Ty.int .i64),RK.v (Ty.int .i64)]
def byt (s:List Int):Prop:=∀x∈s,0<=x/\x<256
theorem qfk (i:Nat):((i:Int).tmod 16=0)<->i%16=0:=by
 rw[Int.tmod_eq_emod_of_nonneg (by omega)]
 omega
def fcP (k:Nat)(s:List Int):List Int:=q0f k++q0f (s.length-k)++s.drop k
theorem quj {b:List Int}(hb:okB b)(hl:b.length<=1000000){at_ i:Nat}{t:List Int}(ht:byt t)(htl:t.length<=at_)(hat:at_<=b.length):
  ∃(s:List Int) (q e:Nat),F131.run nxA nxR 4000000 (b,(at_:Int),(i:Int),t,())=some ((s,((q:Int),((e:Int),()))),())/\F135.run nxA nxR 4000000 (b,(at_:Int),(i:Int),t,())=some ((s,((q:Int),((e:Int),()))),())/\
   (e=0->byt s/\s.length<=q/\q<=b.length/\at_<q)/\(e≠0->s=[]/\q=0)/\
   (∀A R s' k,b=A++fcP k s'++R->A.length=at_->(k=if i%16=0 then 0 else cpf t s')->e=0/\s=s'/\q=at_+(fcP k s').length):=by
 rw[show F131.run nxA nxR 4000000 (b,(at_:Int),(i:Int),t,())=_ from F131_run _ _ _ _ _,show F135.run nxA nxR 4000000 (b,(at_:Int),(i:Int),t,())=_ from F135_run _ _ _ _ _,q1g hb (by omega)]
 obtain⟨k,q0,e0,r0,_,g0,_⟩:=q38 hb (by omega) (at_:Int)
 rw[r0,oB,oB]
 dsimp only
 -- what an encoding says of the two numbers
 have key:∀A R s' k',b=A++fcP k' s'++R->A.length=at_->(k'=if i%16=0 then 0 else cpf t s')->k'<=s'.length/\k'<=t.length/\e0=0/\k=k'/\q0=at_+(q0f k').length/\
   F121.run q99 qcq 4000000 (b,(q0:Int),())=some ((((s'.length-k':Nat):Int),(((q0+(q0f (s'.length-k')).length:Nat):Int),((0:Int),()))),())/\
   slice b (q0+(q0f (s'.length-k')).length) (q0+(q0f (s'.length-k')).length+(s'.length-k'))=s'.drop k'/\q0+(q0f (s'.length-k')).length+(s'.length-k')<=b.length:=by
  intro A R s' k' h1 h2 h3
  have hc:=qoa t s'
  have hk1:k'<=s'.length:=by rw[h3];split<;>omega
  have hk2:k'<=t.length:=by rw[h3];split<;>omega
  have hlen:=congrArg List.length h1
  unfold fcP at h1 hlen
  simp only[lA,lD]at hlen
  have d1:=q41 (b:=b) (pre:=A) (post:=q0f (s'.length-k')++s'.drop k'++R) (x:=k') (by omega) (by rw[h1];simp only[aA]) (by omega)
  rw[h2]at d1
  obtain⟨c1,c2,c3⟩:=q2p (e':=0) r0 d1
  have d2:=q41 (b:=b) (pre:=A++q0f k') (post:=s'.drop k'++R) (x:=s'.length-k') (by omega) (by rw[h1];simp only[aA]) (by omega)
  have hq:(A++q0f k').length=q0:=by rw[lA];omega
  rw[hq]at d2
  refine⟨hk1,hk2,c3,c1,by omega,d2,?_,by omega⟩
  have h4:b=(A++q0f k'++q0f (s'.length-k'))++s'.drop k'++R:=by rw[h1];simp only[aA]
  have h5:(A++q0f k'++q0f (s'.length-k')).length=q0+(q0f (s'.length-k')).length:=by rw[lA,hq]
  have h6:(s'.drop k').length=s'.length-k':=lD
  have h7:=q3o (A:=A++q0f k'++q0f (s'.length-k')) (M:=s'.drop k') (R:=R)
  rw[<-h4,h5,h6]at h7
  exact h7
 rcases Decidable.em (e0≠0)with he0|he0
 ·rw[ne0 he0,cT,cT]
  exact⟨[],0,e0,rfl,rfl,fun h=>absurd h he0,fun _=>⟨rfl,rfl⟩,fun A R s' k' h1 h2 h3=>absurd (key A R s' k' h1 h2 h3).2.2.1 he0⟩
 have he0:=Decidable.not_not.1 he0
 subst he0
 obtain⟨a1,a2,a3⟩:=g0 rfl
 rw[show(!decide (((0:Nat):Int)=0))=false from rfl,cF,cF,q01 (z:=(t.length:Int)) (by omega) (by omega)]
 -- the tests of the first number
 by_cases hbad:t.length<k\/(i%16=0/\k≠0)
 ·have h1:(bif decide ((t.length:Int)<(k:Int))then some (([],((0:Int),((4:Int),()))),())else bif decide ((i:Int).tmod (16:Int)=(0:Int))then bif decide ((0:Int)<(k:Int))then some (([],((0:Int),((4:Int),()))),())else F131c6 4000000 b i t k q0 else F131c6 4000000 b i t k q0)=some (([],((0:Int),((4:Int),()))),()):=by
   by_cases h:t.length<k
   ·rw[dT (by omega),cT]
   ·have h2:i%16=0/\k≠0:=by omega
    rw[dF (by omega),cF,dT ((qfk i).2 h2.1),cT,dT (by omega),cT]
  have h2:(bif decide ((i:Int).tmod (16:Int)=(0:Int))then bif !decide ((k:Int)=(0:Int))then some (([],((0:Int),((4:Int),()))),())else bif decide ((t.length:Int)<(k:Int))then some (([],((0:Int),((4:Int),()))),())else F135c6 4000000 b i t k q0
    else bif decide ((t.length:Int)<(k:Int))then some (([],((0:Int),((4:Int),()))),())else F135c6 4000000 b i t k q0)=some (([],((0:Int),((4:Int),()))),()):=by
   by_cases h:i%16=0
   ·rw[dT ((qfk i).2 h),cT]
    by_cases h3:k=0
    ·rw[dT (show(k:Int)=0 by omega),nT,cF,dT (by omega),cT]
    ·rw[dF (show¬(k:Int)=0 by omega),nF,cT]
   ·rw[dF (fun h'=>h ((qfk i).1 h')),cF,dT (by omega),cT]
  refine⟨[],0,4,h1,h2,fun h=>by omega,fun _=>⟨rfl,rfl⟩,fun A R s' k' t1 t2 t3=>?_⟩
  obtain⟨_,u2,_,u4,_⟩:=key A R s' k' t1 t2 t3
  exfalso
  by_cases h:i%16=0
  ·rw[if_pos h]at t3;omega
  ·omega
 have h1:(bif decide ((t.length:Int)<(k:Int))then some (([],((0:Int),((4:Int),()))),())else bif decide ((i:Int).tmod (16:Int)=(0:Int))then bif decide ((0:Int)<(k:Int))then some (([],((0:Int),((4:Int),()))),())else F131c6 4000000 b i t k q0 else F131c6 4000000 b i t k q0)=F131c6 4000000 b i t k q0:=by
  rw[dF (by omega),cF]
  by_cases h:i%16=0
  ·rw[dT ((qfk i).2 h),cT,dF (by omega),cF]
  ·rw[dF (fun h'=>h ((qfk i).1 h')),cF]
 have h2:(bif decide ((i:Int).tmod (16:Int)=(0:Int))then bif !decide ((k:Int)=(0:Int))then some (([],((0:Int),((4:Int),()))),())else bif decide ((t.length:Int)<(k:Int))then some (([],((0:Int),((4:Int),()))),())else F135c6 4000000 b i t k q0
   else bif decide ((t.length:Int)<(k:Int))then some (([],((0:Int),((4:Int),()))),())else F135c6 4000000 b i t k q0)=F135c6 4000000 b i t k q0:=by
  by_cases h:i%16=0
  ·rw[dT ((qfk i).2 h),cT,dT (show(k:Int)=0 by omega),nT,cF,dF (by omega),cF]
  ·rw[dF (fun h'=>h ((qfk i).1 h')),cF,dF (by omega),cF]
 rw[h1,h2]
 obtain⟨r,q1,e1,r1,_,g1,_⟩:=q38 hb (by omega) (q0:Int)
 rcases Decidable.em (e1≠0)with he1|he1
 ·refine⟨[],0,e1,?_,?_,fun h=>absurd h he1,fun _=>⟨rfl,rfl⟩,fun A R s' k' t1 t2 t3=>?_⟩
  ·rw[F131c6_eq (n:=3999999),r1,oB]
   dsimp only
   rw[ne0 he1,cT]
   rfl
  ·rw[F135c6_eq (n:=3999999),q1g hb (by omega),r1,oB]
   dsimp only
   rw[ne0 he1,cT]
   rfl
  ·obtain⟨_,_,_,_,_,u6,_⟩:=key A R s' k' t1 t2 t3
   exact absurd (q2p (e':=0) r1 u6).2.2 he1
 have he1:=Decidable.not_not.1 he1
 subst he1
 obtain⟨b1,b2,b3⟩:=g1 rfl
 have key2:∀A R s' k',b=A++fcP k' s'++R->A.length=at_->(k'=if i%16=0 then 0 else cpf t s')->k<=s'.length/\k=k'/\r=s'.length-k/\q1=q0+(q0f r).length/\q0=at_+(q0f k).length/\q1+r<=b.length/\slice b q1 (q1+r)=s'.drop k:=by
  intro A R s' k' t1 t2 t3
  obtain⟨u1,u2,u3,u4,u5,u6,u7,u8⟩:=key A R s' k' t1 t2 t3
  obtain⟨v1,v2,_⟩:=q2p (e':=0) r1 u6
  subst u4
  rw[<-v1]at v2 u7 u8
  rw[<-v2]at u7 u8
  exact⟨u1,rfl,v1,v2,u5,u8,u7⟩
 have hwl:u64.wrap (i64.wrap ((b.length:Int)-(q1:Int)))=(b.length:Int)-(q1:Int):=by rw[q00 (by omega) (by omega),q01 (by omega) (by omega)]
 by_cases hs:b.length-q1<r
 ·refine⟨[],0,2,?_,?_,fun h=>by omega,fun _=>⟨rfl,rfl⟩,fun A R s' k' t1 t2 t3=>?_⟩
  ·rw[F131c6_eq (n:=3999999),r1,oB]
   dsimp only
   rw[show(!decide (((0:Nat):Int)=0))=false from rfl,cF,hwl,dT (by omega),cT]
   rfl
  ·rw[F135c6_eq (n:=3999999),q1g hb (by omega),r1,oB]
   dsimp only
   rw[show(!decide (((0:Nat):Int)=0))=false from rfl,cF,hwl,dT (by omega),cT]
   rfl
  ·obtain⟨u1,u2,u3,u4,u5,u6,u7⟩:=key2 A R s' k' t1 t2 t3
   omega
 have hkt:k<=t.length:=by omega
 have e1:i64.wrap (i64.wrap (k:Int)+i64.wrap (r:Int))=((k+r:Nat):Int):=by
  rw[q00 (z:=(k:Int)) (by omega) (by omega),q00 (z:=(r:Int)) (by omega) (by omega),q00 (by omega) (by omega)]
  omega
 have e2:i64.wrap ((q1:Int)+i64.wrap (r:Int))=((q1+r:Nat):Int):=by
  rw[q00 (z:=(r:Int)) (by omega) (by omega),q00 (by omega) (by omega)]
  omega
 have hsl:=q1p (b:=b) (p:=q1) (q:=q1+r) (by omega)
 have hsb:=q4b hb q1 (q1+r)
 have hput:qm4 (qdp (List.replicate (k+r) (0:Int)) (t.take k)) k r (slice b q1 (q1+r))=t.take k++slice b q1 (q1+r):=qy4 hkt (by omega)
 have hTb:byt (t.take k++slice b q1 (q1+r)):=by
  intro x hx
  rcases mA.1 hx with h|h
  ·exact ht x (List.mem_of_mem_take h)
  ·exact hsb x h
 have hTl:(t.take k++slice b q1 (q1+r)).length=k+r:=by rw[lA,lT,Nat.min_eq_left hkt,hsl];omega
 have hcl:(qdp (List.replicate (k+r) (0:Int)) (t.take k)).length=k+r:=by rw[q25,List.length_replicate]
 have hz:List.drop (Int.toNat (0:Int)) (t.take k)=t.take k:=by
  show List.drop 0 (t.take k)=t.take k
  rw[List.drop_zero]
 have hcp:=qob (slice b q1 (q1+r)) t k hkt
 have hcle:=qoa t (t.take k++slice b q1 (q1+r))
 have hF:∀T,F131c17 3999999 (q1:Int) (r:Int) T=some ((T,(((q1+r:Nat):Int),((0:Int),()))),()):=fun T=>by
  rw[F131c17_eq (n:=3999998),e2]
 have hP:F131c6 4000000 b (i:Int) t (k:Int) (q0:Int)=if i%16=0\/cpf t (t.take k++slice b q1 (q1+r))=k then some ((t.take k++slice b q1 (q1+r),(((q1+r:Nat):Int),((0:Int),()))),())else some (([],((0:Int),((4:Int),()))),()):=by
  rw[F131c6_eq (n:=3999999),r1,oB]
  dsimp only
  rw[show(!decide (((0:Nat):Int)=0))=false from rfl,cF,hwl,dF (by omega),cF,e1,e2,q00 (z:=(k:Int)) (by omega) (by omega),tN,tN,tN,tN,hz,hcl,
   show((k+r:Nat):Int)-(k:Int)=(r:Int) by omega,tN,show List.drop q1 (List.take (q1+r) b)=slice b q1 (q1+r)from rfl,hput,q5d hTb]
  rw[if_pos (by omega),if_pos (by simp only[lim];omega),if_pos (by omega),if_pos (by omega),if_pos (by omega),if_pos (by omega),if_pos (by omega),if_pos (show(0:Int)<=(q1:Int) by omega),if_pos (show(q1:Int)<=((q1+r:Nat):Int) by omega),if_pos (show((q1+r:Nat):Int)<=(b.length:Int) by omega),qsp (by omega),oB]
  dsimp only
  by_cases h16:i%16=0
  ·rw[dT ((qfk i).2 h16),nT,cF,hF,if_pos (.inl h16)]
  ·rw[dF (fun h'=>h16 ((qfk i).1 h')),nF,cT]
   by_cases hc:cpf t (t.take k++slice b q1 (q1+r))=k
   ·rw[dF (by omega),cF,hF,if_pos (.inr hc)]
   ·rw[dT (by omega),cT,if_neg (fun h=>h.elim h16 hc)]
 have hR:F135c6 4000000 b (i:Int) t (k:Int) (q0:Int)=if i%16=0\/cpf t (t.take k++slice b q1 (q1+r))=k then some ((t.take k++slice b q1 (q1+r),(((q1+r:Nat):Int),((0:Int),()))),())else some (([],((0:Int),((4:Int),()))),()):=by
  rw[F135c6_eq (n:=3999999),q1g hb (by omega),r1,oB]
  dsimp only
  rw[show(!decide (((0:Nat):Int)=0))=false from rfl,cF,hwl,dF (by omega),cF,e2,q00 (z:=(k:Int)) (by omega) (by omega),tN,tN,tN,hz,
   show List.drop q1 (List.take (q1+r) b)=slice b q1 (q1+r)from rfl,q5d hsb]
  rw[if_pos (by omega),if_pos (by omega),if_pos (show(0:Int)<=(q1:Int) by omega),if_pos (show(q1:Int)<=((q1+r:Nat):Int) by omega),if_pos (show((q1+r:Nat):Int)<=(b.length:Int) by omega),if_pos (by rw[<-lA,hTl];simp only[lim];omega),qpd (by omega),oB]
  dsimp only
  by_cases h16:i%16=0
  ·rw[dT ((qfk i).2 h16),nT,cF,if_pos (.inl h16)]
  ·rw[dF (fun h'=>h16 ((qfk i).1 h')),nF,cT]
   by_cases hc:cpf t (t.take k++slice b q1 (q1+r))=k
   ·rw[dT (show((cpf t (t.take k++slice b q1 (q1+r)):Nat):Int)=(k:Int) by omega),nT,cF,if_pos (.inr hc)]
   ·rw[dF (show¬((cpf t (t.take k++slice b q1 (q1+r)):Nat):Int)=(k:Int) by omega),nF,cT,if_neg (fun h=>h.elim h16 hc)]
 have hP':F131c6 4000000 b (i:Int) t (k:Int) (q0:Int)=_:=hP
 rw[hP',hR]
 generalize hT:t.take k++slice b q1 (q1+r)=T at hTb hTl hcp hcle ⊢
 have hgood:∀A R s' k',b=A++fcP k' s'++R->A.length=at_->(k'=if i%16=0 then 0 else cpf t s')->T=s'/\q1+r=at_+(fcP k' s').length/\(i%16≠0->cpf t T=k):=by
  intro A R s' k' t1 t2 t3
  obtain⟨u1,u2,u3,u4,u5,u6,u7⟩:=key2 A R s' k' t1 t2 t3
  subst u2
  have hTs:T=s':=by
   rw[<-hT,u7]
   by_cases h:i%16=0
   ·rw[if_pos h]at t3
    subst t3
    rfl
   ·rw[if_neg h]at t3
    have:=qo9 t s'
    rw[<-t3]at this
    rw[<-this,List.take_append_drop]
  refine⟨hTs,?_,fun h=>?_⟩
  ·unfold fcP
   simp only[lA,lD]
   rw[<-u3]
   omega
  ·rw[hTs,t3,if_neg h]
 by_cases hc:i%16=0\/cpf t T=k
 ·rw[if_pos hc]
  refine⟨T,q1+r,0,rfl,rfl,fun _=>⟨hTb,by omega,by omega,by omega⟩,fun h=>absurd rfl h,fun A R s' k' t1 t2 t3=>?_⟩
  have:=hgood A R s' k' t1 t2 t3
  exact⟨rfl,this.1,this.2.1⟩
 ·rw[if_neg hc]
  refine⟨[],0,4,rfl,rfl,fun h=>by omega,fun _=>⟨rfl,rfl⟩,fun A R s' k' t1 t2 t3=>?_⟩
  have:=(hgood A R s' k' t1 t2 t3).2.2
  exfalso
  apply hc
  by_cases h16:i%16=0
  ·exact .inl h16
  ·exact .inr (this h16)
end Go.Proofs.Tryz
