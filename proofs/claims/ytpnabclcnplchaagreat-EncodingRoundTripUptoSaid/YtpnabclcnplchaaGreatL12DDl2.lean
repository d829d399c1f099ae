/- Law 12: differences, decoded. -/
import Derived.Test.YtpnabclcnplchaaGreatL12DDl
set_option linter.unusedVariables false
set_option linter.unusedSimpArgs false
namespace Go.Proofs.Tryz
open Go.Eng
open IntKind (i64 u64 u8)
theorem qsy {b A R l:List Int}(h:b=A++dlE l++R)(hx:okL l):∃(k:Nat) (Hs rest:List Int),b.getD A.length 0=(k:Int)/\A.length<b.length/\(k=1\/k=2/\2<=l.length)/\Hs.length=min k l.length/\rest.length=l.length-Hs.length/\okL Hs/\okL rest/\ups Hs rest=l/\
  b=(A++[(k:Int)])++hzs Hs++(frE rest++R)/\(dlE l).length=1+(hzs Hs).length+(frE rest).length:=by
 obtain⟨k,Hs,rest,h1,h2,h3,h4,h5,h6,h7⟩:=qsx hx
 have hb:b=A++(k:Int)::(hzs Hs++frE rest++R):=by rw[h,h1];simp
 obtain⟨g1,g2⟩:=qil hb
 refine⟨k,Hs,rest,g2,g1,h2,h3,h4,h5,h6,h7,by rw[hb];simp,?_⟩
 rw[h1,lC,lA]
 omega
set_option maxHeartbeats 1000000 in
theorem qsw {b:List Int}(hb:okB b)(hl:b.length<=100000000){p N k:Nat}(hp:p<b.length)(hN:N<=10000)(hk:k=1\/k=2/\2<=N)(hc:b.getD p 0=(k:Int)):
  ∃(l:List Int) (q e:Nat),F73c8 3999998 b p N k=some ((l,((q:Int),((e:Int),()))),())/\F81c8 3999998 b p N k=some ((l,((q:Int),((e:Int),()))),())/\
   (e=0->okL l/\l.length=N/\p<q/\q<=b.length/\dlE l=slice b p q)/\(e≠0->l=[]/\q=0)/\
   (∀A R l',b=A++dlE l'++R->A.length=p->l'.length=N->okL l'->e=0/\l=l'/\q=p+(dlE l').length):=by
 have hm:q9x (k:Int) (N:Int)=((min k N:Nat):Int):=by unfold q9x;split<;>omega
 have hmle:min k N<=2:=by omega
 rw[F73c8_eq (n:=3999997),F81c8_eq (n:=3999997),hm,q00 (z:=(p:Int)+1) (by omega) (by omega)]
 obtain⟨H,q,e,i1,i2,i3,i4⟩:=qkk hb hl (N:=N) (p:=(p:Int)) (m:=min k N) (by omega) (min k N) 0 (p+1) rfl (by omega) (by omega)
 have h1:=i1 3999997 [] (by omega) (by simp)
 have h2:=i2 3999999 [] (by omega) (by simp)
 have h142:F142.run Pk2 Rki 4000000 (b,((p+1:Nat):Int),((min k N:Nat):Int),())=_:=((F142_run _ _ _ _).trans (F142c1_eq 3999999 _ _ _)).trans h2
 rw[show(p:Int)+1=((p+1:Nat):Int) by omega,h142,show F73c11 3999997 b (p:Int) (N:Int) ((p+1:Nat):Int) ((min k N:Nat):Int) (0:Int) []=_ from h1,List.nil_append]
 -- what an encoding says
 have key:∀A R l',b=A++dlE l'++R->A.length=p->l'.length=N->okL l'->e=0/\∃rest,rest.length=N-min k N/\okL rest/\ups H rest=l'/\(∃A',b=A'++frE rest++R/\A'.length=q)/\q+(frE rest).length=p+(dlE l').length:=by
  intro A R l' t1 t2 t3 t4
  obtain⟨k',Hs,rest,s1,s2,s3,s4,s5,s6,s7,s8,s9,s10⟩:=qsy t1 t4
  rw[t2,hc]at s1
  have hkk:k'=k:=by omega
  subst hkk
  obtain⟨u1,u2,u3⟩:=i4 (A++[(k':Int)]) Hs (frE rest++R) s9 (by rw[lA,t2];rfl) (by rw[s4,t3]) s6
  refine⟨u1,rest,by omega,s7,by rw[u2];exact s8,⟨A++[(k':Int)]++hzs Hs,by rw[s9];simp,by simp only[lA,List.length_singleton];omega⟩,by omega⟩
 rcases Decidable.em (e≠0)with he|he
 ·rw[if_neg he,if_neg he,oB]
  dsimp only
  rw[ne0 he,cT]
  exact⟨[],0,e,rfl,rfl,fun h=>absurd h he,fun _=>⟨rfl,rfl⟩,fun A R l' t1 t2 t3 t4=>absurd (key A R l' t1 t2 t3 t4).1 he⟩
 have he:=Decidable.not_not.1 he
 subst he
 obtain⟨j1,j2,j3,j4⟩:=i3 rfl
 obtain⟨m0,hm0⟩:∃m0,3999997-min k N=m0+1:=⟨3999996-min k N,by omega⟩
 obtain⟨L,q2,e2,r1,r2,r3,r4,r5⟩:=qgw hb hl (p:=q) (N:=N-min k N) j3 (by omega)
 have hmx:qzs (i64.wrap ((N:Int)-(k:Int))) (0:Int)=((N-min k N:Nat):Int):=by
  rw[q00 (by omega) (by omega)]
  unfold qzs
  split<;>omega
 rw[if_pos rfl,if_pos rfl,oB,hm0,F73c11_eq,dF (by omega),cF,j1,q00 (z:=(N:Int)-((min k N:Nat):Int)) (by omega) (by omega),show(N:Int)-((min k N:Nat):Int)=((N-min k N:Nat):Int) by omega,r1,oB]
 dsimp only
 rw[show(!decide ((0:Int)=0))=false from rfl,cF,hmx,r2,oB]
 dsimp only
 rcases Decidable.em (e2≠0)with he2|he2
 ·rw[ne0 he2,cT,cT]
  refine⟨[],0,e2,rfl,rfl,fun h=>absurd h he2,fun _=>⟨rfl,rfl⟩,fun A R l' t1 t2 t3 t4=>?_⟩
  obtain⟨_,rest,v1,v2,v3,⟨A',v4,v5⟩,v6⟩:=key A R l' t1 t2 t3 t4
  exact absurd (r5 A' R rest v4 v5 v1 v2).1 he2
 have he2:=Decidable.not_not.1 he2
 subst he2
 obtain⟨w1,w2,w3,w4,w5⟩:=r3 rfl
 have hUl:=qw5 L H
 have hUo:=z17a w1 j4
 rw[show(!decide (((0:Nat):Int)=0))=false from rfl,cF,cF,q00 (z:=((min k N:Nat):Int)-1) (by omega) (by omega)]
 have c1:=qq6 (b:=b) (p:=(p:Int)) (q:=(q2:Int)) (H:=H) (by omega) (min k N) m0 L (by omega) (by omega) (by omega)
 have c2:=qll (b:=b) (p:=(p:Int)) (q:=(q2:Int)) (H:=H) (by omega) (min k N) 3999997 L (by omega) (by omega) (by omega)
 rw[tL (by omega)]at c1 c2
 obtain⟨m1,hm1⟩:∃m1,m0-min k N=m1+1:=⟨m0-min k N-1,by omega⟩
 obtain⟨m2,hm2⟩:∃m2,3999997-min k N=m2+1:=⟨3999996-min k N,by omega⟩
 have hdec:=qgu (qk3 hUo) (q4b hb p q2)
 rw[c1,c2,hm1,hm2,F73c22_eq,F81c16_eq,dF (by omega),cF,cF,qk2 (by omega) hUo,qh4 (by omega) hUo,oB,oB]
 dsimp only
 rw[if_pos (by omega),if_pos (by omega),if_pos (by omega),if_pos (by omega),if_pos (by omega),if_pos (by omega),tN,tN,show List.drop p (List.take q2 b)=slice b p q2 from rfl,
  show F40.run _ _ 4000000 (dlE (ups H L),slice b p q2,())=_ from F40_run _ _ _,oB]
 dsimp only
 rw[hdec]
 by_cases hf:dlE (ups H L)=slice b p q2
 ·rw[dT hf,nT,cF]
  refine⟨ups H L,q2,0,rfl,rfl,fun _=>⟨hUo,by omega,by omega,w4,hf⟩,fun h=>absurd rfl h,fun A R l' t1 t2 t3 t4=>?_⟩
  obtain⟨_,rest,v1,v2,v3,⟨A',v4,v5⟩,v6⟩:=key A R l' t1 t2 t3 t4
  obtain⟨_,x1,x2⟩:=r5 A' R rest v4 v5 v1 v2
  exact⟨rfl,by rw[x1];exact v3,by omega⟩
 ·rw[dF hf,nF,cT]
  refine⟨[],0,4,rfl,rfl,fun h=>by omega,fun _=>⟨rfl,rfl⟩,fun A R l' t1 t2 t3 t4=>?_⟩
  exfalso
  obtain⟨_,rest,v1,v2,v3,⟨A',v4,v5⟩,v6⟩:=key A R l' t1 t2 t3 t4
  obtain⟨_,x1,x2⟩:=r5 A' R rest v4 v5 v1 v2
  apply hf
  rw[x1,v3,show q2=A.length+(dlE l').length by omega,t1,<-t2]
  exact q3o.symm
theorem qqt {b:List Int}(hb:okB b)(hl:b.length<=100000000){p N:Nat}(hpl:p<=1000000000)(hN:N<=10000):
  ∃(l:List Int) (q e:Nat),F73.run frA frR 4000000 (b,(p:Int),(N:Int),())=some ((l,((q:Int),((e:Int),()))),())/\F81.run frA frR 4000000 (b,(p:Int),(N:Int),())=some ((l,((q:Int),((e:Int),()))),())/\
   (e=0->okL l/\l.length=N/\p<q/\q<=b.length/\dlE l=slice b p q)/\(e≠0->l=[]/\q=0)/\
   (∀A R l',b=A++dlE l'++R->A.length=p->l'.length=N->okL l'->e=0/\l=l'/\q=p+(dlE l').length):=by
 rw[show F73.run frA frR 4000000 (b,(p:Int),(N:Int),())=_ from(F73_run _ _ _ _).trans (F73c1_eq 3999999 _ _ _),show F81.run frA frR 4000000 (b,(p:Int),(N:Int),())=_ from(F81_run _ _ _ _).trans (F81c1_eq 3999999 _ _ _)]
 rw[dF (show¬(N:Int)<0 by omega),cF,cF,dF (show¬(65536:Int)<(N:Int) by omega),cF,cF,dF (show¬(p:Int)<0 by omega),cF,cF,
  F73c3_eq (n:=3999998),F81c3_eq (n:=3999998)]
 by_cases hp:b.length<=p
 ·rw[dT (show(b.length:Int)<=(p:Int) by omega),cT,cT]
  refine⟨[],0,2,rfl,rfl,fun h=>by omega,fun _=>⟨rfl,rfl⟩,fun A R l' t1 t2 t3 t4=>?_⟩
  obtain⟨k',Hs,rest,s1,s2,_⟩:=qsy t1 t4
  omega
 obtain⟨c,hc,hc8⟩:=hb p (by omega)
 have hfail:¬(c=1\/c=2/\2<=N)->∀A R l',b=A++dlE l'++R->A.length=p->l'.length=N->okL l'->False:=by
  intro h A R l' t1 t2 t3 t4
  obtain⟨k',Hs,rest,s1,s2,s3,_⟩:=qsy t1 t4
  rw[t2,hc]at s1
  omega
 rw[dF (show¬(b.length:Int)<=(p:Int) by omega),cF,cF,if_pos (by omega),if_pos (by omega),if_pos (by omega),if_pos (by omega),tN,hc,q00 (z:=(c:Int)) (by omega) (by omega)]
 by_cases h1:c=1
 ·rw[dT (show(c:Int)=1 by omega),nT,cF,cF]
  exact qsw hb hl (by omega) hN (.inl h1) hc
 rw[dF (show¬(c:Int)=1 by omega),nF,cT,cT]
 by_cases h2:c=2
 ·rw[dT (show(c:Int)=2 by omega),nT,cF,cF]
  by_cases h3:N<2
  ·rw[dT (show(N:Int)<2 by omega),cT,cT]
   exact⟨[],0,4,rfl,rfl,fun h=>by omega,fun _=>⟨rfl,rfl⟩,fun A R l' t1 t2 t3 t4=>(hfail (by omega) A R l' t1 t2 t3 t4).elim⟩
  ·rw[dF (show¬(N:Int)<2 by omega),cF,cF]
   exact qsw hb hl (by omega) hN (.inr ⟨h2,by omega⟩) hc
 ·rw[dF (show¬(c:Int)=2 by omega),nF,cT,cT]
  exact⟨[],0,4,rfl,rfl,fun h=>by omega,fun _=>⟨rfl,rfl⟩,fun A R l' t1 t2 t3 t4=>(hfail (by omega) A R l' t1 t2 t3 t4).elim⟩
end Go.Proofs.Tryz
