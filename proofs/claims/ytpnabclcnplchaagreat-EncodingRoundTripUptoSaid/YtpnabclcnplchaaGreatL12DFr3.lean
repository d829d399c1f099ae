/- Law 12: frames, decoded. -/
import Derived.Test.YtpnabclcnplchaaGreatL12DFr2
set_option linter.unusedVariables false
set_option linter.unusedSimpArgs false
namespace Go.Proofs.Tryz
open Go.Eng
open IntKind (i64 u64 u8)
theorem q2p {b:List Int}{p:Int}{x q e x' q' e':Nat}(h1:F121.run q99 qcq 4000000 (b,p,())=some (((x:Int),((q:Int),((e:Int),()))),()))
  (h2:F121.run q99 qcq 4000000 (b,p,())=some (((x':Int),((q':Int),((e':Int),()))),())):x=x'/\q=q'/\e=e':=by
 rw[h1]at h2
 injection h2 with h
 injection h with h _
 injection h with k1 h
 injection h with k2 h
 injection h with k3 _
 omega
/-! The exceptions put in. -/
def mix (D:List Int)(w n:Nat)(j:Nat):Int:=if j<n then D.getD j 0 else(((D.getD j 0).toNat%2^w:Nat):Int)
theorem qye (D:List Int)(w:Nat):unp (q27 D w) w D.length=qkw D w D.length:=by
 unfold unp qkw
 refine List.map_congr_left fun k hk=>?_
 have hk:=List.mem_range.1 hk
 rw[q8n,quy _ hk]
theorem qvm {g g':Nat->Int}{N n:Nat}(h:n<N)(hg:∀j,j≠n->g j=g' j):((List.range N).map g).set n (g' n)=(List.range N).map g':=by
 refine List.ext_getElem (by simp) fun j h1 h2=>?_
 simp only[List.length_set,List.length_map,List.length_range]at h1
 rw[List.getElem_set]
 split
 ·rename_i h'
  subst h'
  simp
 ·rename_i h'
  simp only[List.getElem_map,List.getElem_range]
  exact hg j (fun h=>h' h.symm)
theorem qo3 {D:List Int}(hu:okU D){w:Nat}(hw:w<=64)(hl:D.length<=65536):∀n,n<=D.length->apl (w:Int) (qia D w n) (qkw D w D.length)=(List.range D.length).map (mix D w n)
 |0,_=>by
  unfold qia apl qkw
  rw[List.foldl_nil]
  refine List.map_congr_left fun k _=>?_
  unfold mix
  rw[if_neg (by omega)]
 | n +1,hn=>by
  have ih:=qo3 hu hw hl n (by omega)
  obtain⟨v,hv,hv4⟩:=hu n (by omega)
  have hlo:v%2^w<2^w:=Nat.mod_lt _ (Nat.two_pow_pos w)
  have hsplit:=Nat.div_add_mod v (2^w)
  rw[qia]
  have hdiff:∀j,j≠n->mix D w n j=mix D w (n+1) j:=fun j hj=>by
   unfold mix
   by_cases h:j<n
   ·rw[if_pos h,if_pos (by omega)]
   ·rw[if_neg h,if_neg (by omega)]
  have hat:mix D w (n+1) n=(v:Int):=by unfold mix;rw[if_pos (by omega),hv]
  have hat0:mix D w n n=((v%2^w:Nat):Int):=by unfold mix;rw[if_neg (by omega),hv,tN]
  have hhi:hi D w n=v/2^w:=by unfold hi;rw[hv,tN]
  by_cases h:0<hi D w n
  ·rw[if_pos h]
   have hw64:w<64:=by
    rcases Nat.lt_or_ge w 64 with h'|h'
    ·exact h'
    ·have:w=64:=by omega
     subst this
     rw[hhi,Nat.div_eq_of_lt (by omega)]at h
     omega
   have hs:apl (w:Int) (qia D w n++[(n,hi D w n)]) (qkw D w D.length)=stp (w:Int) (apl (w:Int) (qia D w n) (qkw D w D.length)) (n,hi D w n):=by
    unfold apl
    rw[List.foldl_append]
    rfl
   rw[hs,ih]
   unfold stp
   rw[if_pos ⟨by simp only[List.length_map,List.length_range];omega,by omega⟩]
   have hle:v/2^w*2^w<=v:=Nat.div_mul_le_self _ _
   have hor:orv (w:Int) ((List.range D.length).map (mix D w n)) (n,hi D w n)=mix D w (n+1) n:=by
    unfold orv
    dsimp only
    rw[q31 (by omega),hat0,hat,hhi,q01 (z:=(w:Int)) (by omega) (by omega),tN,show u64.bits=64 from rfl,Nat.min_eq_left hw,q34,<-Int.natCast_mul,q01 (by omega) (by omega),qh2 (by omega) (by omega),qay hlo]
    rw[Nat.mul_comm]at hsplit
    omega
   rw[hor]
   exact qvm (by omega) hdiff
  ·rw[if_neg h,ih]
   refine List.map_congr_left fun j hj=>?_
   by_cases hjn:j=n
   ·subst hjn
    rw[hat,hat0]
    rw[hhi]at h
    have h0:v/2^w=0:=by omega
    rw[h0,Nat.mul_zero,Nat.zero_add]at hsplit
    rw[hsplit]
   ·exact hdiff j hjn
theorem qxu (D:List Int)(w:Nat):(List.range D.length).map (mix D w D.length)=D:=by
 refine List.ext_getElem (by simp) fun j h1 h2=>?_
 simp only[List.getElem_map,List.getElem_range]
 unfold mix
 rw[if_pos h2,gQ,gE h2]
 rfl
theorem qus {l:List Int}(hx:okL l)(z:Int):qh3 z (q1w l z)=l:=by
 refine List.ext_getElem (by rw[qaz,q0m]) fun j h1 h2=>?_
 have hj:(qh3 z (q1w l z))[j]=qwk z (q1w l z) j:=by simp[qh3]
 rw[hj]
 unfold qwk
 rw[q1w,q31 h2]
 unfold dif1
 rw[gQ,gE h2]
 obtain⟨a,b⟩:=hx _ (gM h2)
 show i64.wrap (u64.wrap (u64.wrap z+u64.wrap (u64.wrap l[j]-u64.wrap z)))=l[j]
 generalize l[j]=x at a b
 have hu:∀y:Int,u64.wrap y=y%18446744073709551616:=fun y=>by simp[IntKind.wrap,IntKind.bits,IntKind.signed]
 simp only[hu]
 rw[IntKind.wrap_i64]
 omega
/-! What stands in an encoding. -/
theorem qxh {b A R l:List Int}(hl:b.length<=100000000)(h:b=A++frE l++R)(hx:okL l)(hn:l.length<=10000):
  ∃w q0 q1 en:Nat,w<=64/\
   F121.run q99 qcq 4000000 (b,(A.length:Int),())=some ((((zz (bas l l.length):Nat):Int),((q0:Int),(((0:Nat):Int),()))),())/\
   F121.run q99 qcq 4000000 (b,(q0:Int),())=some ((((w:Nat):Int),((q1:Int),(((0:Nat):Int),()))),())/\
   F121.run q99 qcq 4000000 (b,(q1:Int),())=some ((((exc (q1w l (bas l l.length)) w l.length:Nat):Int),((en:Int),(((0:Nat):Int),()))),())/\
   en+q04 l.length w<=b.length/\slice b en (en+q04 l.length w)=q27 (q1w l (bas l l.length)) w/\
   (∃A',b=A'++qcs (qia (q1w l (bas l l.length)) w l.length)++R/\A'.length=en+q04 l.length w)/\
   en+q04 l.length w+(qcs (qia (q1w l (bas l l.length)) w l.length)).length=A.length+(frE l).length:=by
 have hw:=(qfl (gl l) 65).1
 generalize hww:nar (gl l) 65=w at hw
 have hb:=q9o hx l.length (nR _)
 have hz:=q8r hb.1 hb.2
 have hE:frE l=q0f (zz (bas l l.length))++q0f w++q0f (exc (q1w l (bas l l.length)) w l.length)++q27 (q1w l (bas l l.length)) w++qcs (qia (q1w l (bas l l.length)) w l.length):=by
  unfold frE
  rw[hww]
  unfold frT
  rw[qiy]
 have hexc:=qct (q1w l (bas l l.length)) w l.length
 have hpl:(q27 (q1w l (bas l l.length)) w).length=q04 l.length w:=by rw[q4r,q0m]
 generalize zz (bas l l.length)=z at hz hE ⊢
 obtain⟨x,ex⟩:∃x,exc (q1w l (bas l l.length)) w l.length=x:=⟨_,rfl⟩
 obtain⟨P,eP⟩:∃P,qia (q1w l (bas l l.length)) w l.length=P:=⟨_,rfl⟩
 obtain⟨T,eT⟩:∃T,q27 (q1w l (bas l l.length)) w=T:=⟨_,rfl⟩
 rw[ex,eP,eT]at hE
 rw[ex]at hexc
 rw[eT]at hpl
 have d1:=q41 (b:=b) (pre:=A) (post:=q0f w++q0f x++T++qcs P++R) (x:=z) (by omega) (by rw[h,hE];simp only[aA]) hz
 have d2:=q41 (b:=b) (pre:=A++q0f z) (post:=q0f x++T++qcs P++R) (x:=w) (by omega) (by rw[h,hE];simp only[aA]) (by omega)
 have d3:=q41 (b:=b) (pre:=A++q0f z++q0f w) (post:=T++qcs P++R) (x:=x) (by omega) (by rw[h,hE];simp only[aA]) (by omega)
 have hb4:b=(A++q0f z++q0f w++q0f x)++T++(qcs P++R):=by rw[h,hE];simp only[aA]
 refine⟨w,(A++q0f z).length,(A++q0f z++q0f w).length,(A++q0f z++q0f w++q0f x).length,by omega,?_,?_,?_,?_,?_,⟨A++q0f z++q0f w++q0f x++T,?_,?_⟩,?_⟩
 ·rw[show(A++q0f z).length=A.length+(q0f z).length from lA];exact d1
 ·rw[show(A++q0f z++q0f w).length=(A++q0f z).length+(q0f w).length from lA];exact d2
 ·rw[show(A++q0f z++q0f w++q0f x).length=(A++q0f z++q0f w).length+(q0f x).length from lA,ex];exact d3
 ·have:=congrArg List.length hb4
  rw[show((A++q0f z++q0f w++q0f x)++T++(qcs P++R)).length=(A++q0f z++q0f w++q0f x).length+T.length+(qcs P++R).length by rw[lA,lA],hpl]at this
  omega
 ·unfold slice
  rw[<-hpl,hb4,eT]
  exact q3o
 ·rw[eP,hb4];simp only[aA]
 ·rw[lA,hpl]
 ·rw[hE,eP]
  simp only[lA]
  omega
abbrev frA:List PK:=[PK.v (Ty.int u8).sl,PK.v (Ty.int .i64),PK.v (Ty.int .i64)]
abbrev frR:List RK:=[RK.own 2 (Ty.int .i64),RK.v (Ty.int .i64),RK.v (Ty.int .i64)]
theorem qno {b:List Int}{p q:Nat}(hpq:p<=q)(hq:q<=b.length):b=b.take p++slice b p q++b.drop q:=by
 have h1:b.take p++slice b p q=b.take q:=by
  unfold slice
  have:=List.take_append_drop p (b.take q)
  rw[List.take_take,Nat.min_eq_left hpq]at this
  exact this
 rw[h1,List.take_append_drop]
set_option maxHeartbeats 1000000 in
theorem qgw {b:List Int}(hb:okB b)(hl:b.length<=100000000){p N:Nat}(hp:p<=b.length)(hN:N<=10000):
  ∃(l:List Int) (q e:Nat),F72.run frA frR 4000000 (b,(p:Int),(N:Int),())=some ((l,((q:Int),((e:Int),()))),())/\F80.run frA frR 4000000 (b,(p:Int),(N:Int),())=some ((l,((q:Int),((e:Int),()))),())/\
   (e=0->okL l/\l.length=N/\p<=q/\q<=b.length/\frE l=slice b p q)/\(e≠0->l=[]/\q=0)/\
   (∀A R l',b=A++frE l'++R->A.length=p->l'.length=N->okL l'->e=0/\l=l'/\q=p+(frE l').length):=by
 have key:∀A R l',b=A++frE l'++R->l'.length=N->okL l'->_:=fun A R l' h1 h3 h4=>qxh (b:=b) (A:=A) (R:=R) (l:=l') hl h1 h4 (by omega)
 rw[show F72.run frA frR 4000000 (b,(p:Int),(N:Int),())=_ from(F72_run _ _ _ _).trans (F72c1_eq 3999999 _ _ _),show F80.run frA frR 4000000 (b,(p:Int),(N:Int),())=_ from(F80_run _ _ _ _).trans (F80c1_eq 3999999 _ _ _)]
 rw[dF (show¬(p:Int)<0 by omega),cF,cF,dF (show¬(b.length:Int)<(p:Int) by omega),cF,cF,dF (show¬(N:Int)<0 by omega),cF,cF,dF (show¬(65536:Int)<(N:Int) by omega),cF,cF,
  F72c3_eq (n:=3999998),F80c3_eq (n:=3999998),show F124.run _ _ 4000000 (b,(p:Int),(N:Int),())=_ from F124_run _ _ _ _,q1g hb (by omega)]
 obtain⟨x0,q0,e0,r0,_,g0,_⟩:=q38 hb (by omega) (p:Int)
 rw[r0,oB,oB]
 dsimp only
 rcases Decidable.em (e0≠0)with he0|he0
 ·rw[ne0 he0,cT,cT,oB]
  dsimp only
  rw[ne0 he0,cT]
  refine⟨[],0,e0,rfl,rfl,fun h=>absurd h he0,fun _=>⟨rfl,rfl⟩,fun A R l' h1 h2 h3 h4=>?_⟩
  obtain⟨w,k0,k1,en,hw,t0,t1,t2,_⟩:=key A R l' h1 h3 h4
  rw[h2]at t0
  exact absurd (q2p r0 t0).2.2 he0
 have he0:=Decidable.not_not.1 he0
 subst he0
 obtain⟨a1,a2,a3⟩:=g0 rfl
 obtain⟨x1,q1,e1,r1,_,g1,_⟩:=q38 hb (by omega) (q0:Int)
 rw[show(!decide (((0:Nat):Int)=0))=false from rfl,cF,cF,q1g hb (by omega),r1,oB,oB]
 dsimp only
 rcases Decidable.em (e1≠0)with he1|he1
 ·rw[ne0 he1,cT,cT,oB]
  dsimp only
  rw[ne0 he1,cT]
  refine⟨[],0,e1,rfl,rfl,fun h=>absurd h he1,fun _=>⟨rfl,rfl⟩,fun A R l' h1 h2 h3 h4=>?_⟩
  obtain⟨w,k0,k1,en,hw,t0,t1,t2,_⟩:=key A R l' h1 h3 h4
  rw[h2]at t0
  rw[<-(q2p r0 t0).2.1]at t1
  exact absurd (q2p r1 t1).2.2 he1
 have he1:=Decidable.not_not.1 he1
 subst he1
 obtain⟨b1,b2,b3⟩:=g1 rfl
 rw[show(!decide (((0:Nat):Int)=0))=false from rfl,cF,cF]
 by_cases hw:64<x1
 ·rw[dT (show(64:Int)<(x1:Int) by omega),cT,cT,oB]
  dsimp only
  rw[show(!decide ((4:Int)=0))=true from rfl,cT]
  refine⟨[],0,4,rfl,rfl,fun h=>by omega,fun _=>⟨rfl,rfl⟩,fun A R l' h1 h2 h3 h4=>?_⟩
  obtain⟨w,k0,k1,en,hw',t0,t1,t2,_⟩:=key A R l' h1 h3 h4
  rw[h2]at t0
  rw[<-(q2p r0 t0).2.1]at t1
  have:=(q2p r1 t1).1
  omega
 rw[dF (show¬(64:Int)<(x1:Int) by omega),cF,cF]
 obtain⟨x2,q2,e2,r2,_,g2,_⟩:=q38 hb (by omega) (q1:Int)
 rw[q1g hb (by omega),r2,oB,oB]
 dsimp only
 rcases Decidable.em (e2≠0)with he2|he2
 ·rw[ne0 he2,cT,cT,oB]
  dsimp only
  rw[ne0 he2,cT]
  refine⟨[],0,e2,rfl,rfl,fun h=>absurd h he2,fun _=>⟨rfl,rfl⟩,fun A R l' h1 h2 h3 h4=>?_⟩
  obtain⟨w,k0,k1,en,hw,t0,t1,t2,_⟩:=key A R l' h1 h3 h4
  rw[h2]at t0
  rw[<-(q2p r0 t0).2.1]at t1
  rw[<-(q2p r1 t1).2.1]at t2
  exact absurd (q2p r2 t2).2.2 he2
 have he2:=Decidable.not_not.1 he2
 subst he2
 obtain⟨c1,c2,c3⟩:=g2 rfl
 -- from now on an encoding that stands at the place is read as it was written
 have key2:∀A R l',b=A++frE l'++R->A.length=p->l'.length=N->okL l'->x0=zz (bas l' l'.length)/\x2=exc (q1w l' (bas l' l'.length)) x1 l'.length/\
   q2+q04 l'.length x1<=b.length/\slice b q2 (q2+q04 l'.length x1)=q27 (q1w l' (bas l' l'.length)) x1/\
   (∃A',b=A'++qcs (qia (q1w l' (bas l' l'.length)) x1 l'.length)++R/\A'.length=q2+q04 l'.length x1)/\
   q2+q04 l'.length x1+(qcs (qia (q1w l' (bas l' l'.length)) x1 l'.length)).length=p+(frE l').length:=by
  intro A R l' h1 h2 h3 h4
  obtain⟨w,k0,k1,en,hw,t0,t1,t2,t3⟩:=key A R l' h1 h3 h4
  rw[h2]at t0
  have j0:=q2p r0 t0
  rw[<-j0.2.1]at t1
  have j1:=q2p r1 t1
  rw[<-j1.2.1]at t2
  have j2:=q2p r2 t2
  rw[<-j1.1,<-j2.2.1,h2]at t3
  refine⟨j0.1,?_,t3⟩
  rw[j2.1,<-j1.1]
 rw[show(!decide (((0:Nat):Int)=0))=false from rfl,cF,cF,q01 (z:=(N:Int)) (by omega) (by omega)]
 by_cases hk:N<x2
 ·rw[dT (show(N:Int)<(x2:Int) by omega),cT,cT,oB]
  dsimp only
  rw[show(!decide ((4:Int)=0))=true from rfl,cT]
  refine⟨[],0,4,rfl,rfl,fun h=>by omega,fun _=>⟨rfl,rfl⟩,fun A R l' h1 h2 h3 h4=>?_⟩
  obtain⟨_,h5,_⟩:=key2 A R l' h1 h2 h3 h4
  have:=qct (q1w l' (bas l' l'.length)) x1 l'.length
  omega
 obtain⟨z,hz,z1,z2,z3⟩:=q97 a3
 rw[dF (show¬(N:Int)<(x2:Int) by omega),cF,cF,z1,oB,oB]
 dsimp only
 rw[show(!decide ((0:Int)=0))=false from rfl,cF,q00 (z:=(x1:Int)) (by omega) (by omega),q00 (z:=(x2:Int)) (by omega) (by omega),q5n (by omega) (by omega),q6u (by omega) (by omega),oB,oB]
 dsimp only
 rw[q00 (z:=(b.length:Int)-(q2:Int)) (by omega) (by omega)]
 by_cases hsh:b.length-q2<q04 N x1
 ·rw[dT (show(b.length:Int)-(q2:Int)<((q04 N x1:Nat):Int) by omega),cT,cT]
  refine⟨[],0,2,rfl,rfl,fun h=>by omega,fun _=>⟨rfl,rfl⟩,fun A R l' h1 h2 h3 h4=>?_⟩
  obtain⟨_,_,h5,_⟩:=key2 A R l' h1 h2 h3 h4
  rw[h3]at h5
  omega
 have hps:q04 N x1<=100000000:=by omega
 rw[dF (show¬(b.length:Int)-(q2:Int)<((q04 N x1:Nat):Int) by omega),cF,cF,q00 (z:=(q2:Int)+((q04 N x1:Nat):Int)) (by omega) (by omega),<-Int.natCast_add]
 obtain⟨P,q,e,i1,i2,i3,i4⟩:=qom hb hl (N:=N) (w:=x1) (cnt:=x2) (by omega) (by omega) (by omega) x2 0 (q2+q04 N x1) (by omega) (by omega) (by omega)
 have hsl:=q1p (b:=b) (p:=q2) (q:=q2+q04 N x1) (by omega)
 have hun:(unp (slice b q2 (q2+q04 N x1)) x1 N).length=N:=q6f _ _ _
 have hc21:=qz9 hb (p:=p) (N:=N) (w:=x1) (en:=q2) (cnt:=x2) (x:=x0) (by omega) (by omega) (by omega) hl N 0 3999998 (by omega) (by omega) (by omega)
 rw[show unp (slice b q2 (q2+q04 N x1)) x1 0=[]from rfl]at hc21
 obtain⟨D',s1,s2⟩:=i2 4000000 (unp (slice b q2 (q2+q04 N x1)) x1 N) (by omega) hun
 have hrun140:F140.run Pk1v Rk26 4000000 (b,((q2+q04 N x1:Nat):Int),(x2:Int),(x1:Int),unp (slice b q2 (q2+q04 N x1)) x1 N,())=_:=
  (F140_run _ _ _ _ _ _).trans s1
 obtain⟨n0,hn0⟩:∃n0,3999998-N=n0+1:=⟨3999997-N,by omega⟩
 have href:F80c21 3999998 b (p:Int) (N:Int) (x0:Int) (q2:Int) (x1:Int) (x2:Int) ((q04 N x1:Nat):Int) (0:Int) []=
   if e=0 then qij b p q (qh3 z (apl (x1:Int) P (unp (slice b q2 (q2+q04 N x1)) x1 N)))else some (([],((0:Int),((e:Int),()))),()):=by
  refine hc21.trans ?_
  rw[hn0,F80c21_eq,dF (by omega),cF,q00 (z:=(q2:Int)+((q04 N x1:Nat):Int)) (by omega) (by omega),<-Int.natCast_add,q00 (z:=(x1:Int)) (by omega) (by omega),q00 (z:=(x2:Int)) (by omega) (by omega),hrun140,oB]
  dsimp only
  by_cases he:e=0
  ·obtain⟨j1,j2,j3⟩:=i3 he
   subst he
   rw[if_pos rfl,if_pos rfl,show(!decide (((0:Nat):Int)=0))=false from rfl,cF,z2,oB,s2 rfl]
   dsimp only
   have hal:(apl (x1:Int) P (unp (slice b q2 (q2+q04 N x1)) x1 N)).length=N:=by rw[qeb,hun]
   have:=qzb (b:=b) (p:=p) (q:=q) (z:=z) (D:=apl (x1:Int) P (unp (slice b q2 (q2+q04 N x1)) x1 N)) (by omega) hl (by omega) j3 N 0 n0 (by omega) (by omega) (by omega)
   rw[hal]at this
   exact this
  ·rw[ne0 he,cT,if_neg he]
 rw[href]
 have hprog:=i1 3999998 true [] (p:Int) ((q04 N x1:Nat):Int) {base:=z,width:=(x1:Int),exceptions:=(x2:Int),f_end:=(q2:Int)} (by omega) (by simp)
 rw[show F72c13 3999998 b (p:Int) (N:Int) ((q04 N x1:Nat):Int) ((q2+q04 N x1:Nat):Int) true (x2:Int) (0:Int) {base:=z,width:=(x1:Int),exceptions:=(x2:Int),f_end:=(q2:Int)} []=_ from hprog,Bool.true_and,List.nil_append]
 rcases Decidable.em (e≠0)with he|he
 ·rw[if_neg he,if_neg he]
  refine⟨[],0,e,rfl,rfl,fun h=>absurd h he,fun _=>⟨rfl,rfl⟩,fun A R l' h1 h2 h3 h4=>?_⟩
  obtain⟨_,h6,_,_,⟨A',h7,h8⟩,_⟩:=key2 A R l' h1 h2 h3 h4
  rw[h3]at h8
  have hex:=qic (q5x l' (bas l' l'.length)) (w:=x1) l'.length (by rw[q0m];exact nR _)
  exact absurd (i4 A' _ R h7 h8 (by rw[qib];exact h6.symm) (fun x hx=>⟨by have:=(hex x hx).1;omega,(hex x hx).2.2⟩)).1 he
 have he:=Decidable.not_not.1 he
 obtain⟨j1,j2,j3⟩:=i3 he
 subst he
 rw[if_pos rfl,if_pos rfl]
 obtain⟨m0,hm0⟩:∃m0,3999998-2*x2=m0+1:=⟨3999997-2*x2,by omega⟩
 obtain⟨U,eu,u1,_,u2,u3,u4⟩:=q96 (qbb hb q2 (q2+q04 N x1)) (w:=x1) (N:=N) (by omega) (by omega) (by rw[hsl];omega)
 -- an encoding at the place: what follows of it
 have claim:∀A R l',b=A++frE l'++R->A.length=p->l'.length=N->okL l'->eu=0/\(P.all fun x=>decide (x.1<N))=true/\qh3 z (apl (x1:Int) P (unp (slice b q2 (q2+q04 N x1)) x1 N))=l'/\q=p+(frE l').length:=by
  intro A R l' h1 h2 h3 h4
  obtain⟨h5,h6,h7,h8,⟨A',h9,h10⟩,h11⟩:=key2 A R l' h1 h2 h3 h4
  have hdl:=q0m l' (bas l' l'.length)
  have hex:=qic (q5x l' (bas l' l'.length)) (w:=x1) l'.length (by rw[q0m];exact nR _)
  obtain⟨_,hP,hq⟩:=i4 A' _ R h9 (by rw[h10,h3]) (by rw[qib];exact h6.symm) (fun x hx=>⟨by have:=(hex x hx).1;omega,(hex x hx).2.2⟩)
  rw[h3]at h8 hP h11 hq
  have hD3:(q1w l' (bas l' N)).length=N:=by rw[q0m,h3]
  refine⟨u4 ?_,?_,?_,?_⟩
  ·rw[h8,q8n]
   have hlt:=ql1 x1 (q1w l' (bas l' N)) (q1w l' (bas l' N)).length
   rw[hD3]at hlt ⊢
   exact Nat.div_eq_of_lt hlt
  ·rw[List.all_eq_true,hP]
   intro x hx
   have:=(hex x (by rw[h3];exact hx)).1
   exact dT (by omega)
  ·have hzb:z=bas l' N:=by
    rw[z3,h5,h3]
    exact qqg
   have h12:=qye (q1w l' (bas l' N)) x1
   have h13:=qo3 (q5x l' (bas l' N)) (w:=x1) (by omega) (by omega) N (by omega)
   have h14:=qxu (q1w l' (bas l' N)) x1
   rw[hD3]at h12 h13 h14
   rw[h8,h12,hP,h13,h14,hzb]
   exact qus h4 _
  ·rw[hq,<-h11]
 have hout:qh3 z (apl (x1:Int) P (unp (slice b q2 (q2+q04 N x1)) x1 N))=qh3 z (apl (x1:Int) P (unp (slice b q2 (q2+q04 N x1)) x1 N)):=rfl
 generalize hOUT:qh3 z (apl (x1:Int) P (unp (slice b q2 (q2+q04 N x1)) x1 N))=OUT at claim ⊢
 have hOl:OUT.length=N:=by rw[<-hOUT,qaz,qeb,hun]
 have hOk:okL OUT:=by rw[<-hOUT];exact qiw _ _
 have hgood:frE OUT=slice b p q->eu=0/\(P.all fun x=>decide (x.1<N))=true:=by
  intro h
  have h':=qno (b:=b) (p:=p) (q:=q) (by omega) j3
  rw[<-h]at h'
  have:=claim _ _ OUT h' (by rw[lT];omega) hOl hOk
  exact⟨this.1,this.2.1⟩
 have hprog2:F72c13 (3999998-2*x2) b (p:Int) (N:Int) ((q04 N x1:Nat):Int) (q:Int) (P.all fun x=>decide (x.1<N)) (x2:Int) (x2:Int) {base:=z,width:=(x1:Int),exceptions:=(x2:Int),f_end:=(q2:Int)} (P.map (pch N))=qij b p q OUT:=by
  rw[hm0,F72c13_eq,dF (by omega),cF]
  dsimp only
  rw[q00 (z:=(q2:Int)+((q04 N x1:Nat):Int)) (by omega) (by omega),<-Int.natCast_add,if_pos (by omega),if_pos (by omega),if_pos (by omega),tN,tN,show List.drop q2 (List.take (q2+q04 N x1) b)=slice b q2 (q2+q04 N x1)from rfl,u1,oB]
  dsimp only
  rcases Decidable.em (eu≠0)with hu0|hu0
  ·rw[ne0 hu0,cT]
   unfold qij
   rw[if_neg fun h=>hu0 (hgood h).1]
  have hu0:=Decidable.not_not.1 hu0
  subst hu0
  rw[show(!decide (((0:Nat):Int)=0))=false from rfl,cF]
  cases hv:P.all fun x=>decide (x.1<N)with
  |false=>
   rw[nF,cT]
   unfold qij
   rw[if_neg fun h=>by rw[(hgood h).2]at hv;cases hv]
  | true=>
   rw[nT,cF]
   have hv':∀x∈P,x.1<N:=fun x hx=>by
    have:=List.all_eq_true.1 hv x hx
    exact of_decide_eq_true this
   have hm0':∃m1,m0=m1+2:=⟨m0-2,by omega⟩
   obtain⟨m1,rfl⟩:=hm0'
   rw[F72c27_eq,List.length_map,u2 rfl]
   have h28:=qza (b:=b) (p:=p) (N:=N) (q:=q) (w:=x1) (h:={base:=z,width:=(x1:Int),exceptions:=(x2:Int),f_end:=(q2:Int)}) (P:=P) hun rfl (by omega) hv' (by omega) (by omega) P.length 0 (m1+1) (by omega) (by omega) (by omega)
   rw[List.take_zero,show apl (x1:Int) [] (unp (slice b q2 (q2+q04 N x1)) x1 N)=unp (slice b q2 (q2+q04 N x1)) x1 N from rfl]at h28
   refine Eq.trans h28 ?_
   obtain⟨m2,hm2⟩:∃m2,m1+1-P.length=m2+1:=⟨m1-P.length,by omega⟩
   have hal:(apl (x1:Int) P (unp (slice b q2 (q2+q04 N x1)) x1 N)).length=N:=by rw[qeb,hun]
   rw[hm2,F72c28_eq,dF (by omega),cF,if_pos (by omega),if_pos (by simp only[lim];omega),tN]
   have h35:=qzc hb (p:=p) (q:=q) (h:={base:=z,width:=(x1:Int),exceptions:=(x2:Int),f_end:=(q2:Int)}) (D:=apl (x1:Int) P (unp (slice b q2 (q2+q04 N x1)) x1 N)) (by omega) (by omega) j3 N 0 m2 (by omega) (by omega) (by omega)
   rw[q77,hal]at h35
   rw[hal,<-hOUT]
   exact h35
 rw[hprog2]
 unfold qij
 by_cases hf:frE OUT=slice b p q
 ·rw[if_pos hf]
  refine⟨OUT,q,0,rfl,rfl,fun _=>⟨hOk,hOl,by omega,j3,hf⟩,fun h=>absurd rfl h,fun A R l' h1 h2 h3 h4=>?_⟩
  have:=claim A R l' h1 h2 h3 h4
  exact⟨rfl,this.2.2.1,this.2.2.2⟩
 ·rw[if_neg hf]
  refine⟨[],0,4,rfl,rfl,fun h=>by omega,fun _=>⟨rfl,rfl⟩,fun A R l' h1 h2 h3 h4=>?_⟩
  have:=claim A R l' h1 h2 h3 h4
  exfalso
  apply hf
  rw[this.2.2.1,this.2.2.2,h1,<-h2]
  exact q3o.symm
end Go.Proofs.Tryz
