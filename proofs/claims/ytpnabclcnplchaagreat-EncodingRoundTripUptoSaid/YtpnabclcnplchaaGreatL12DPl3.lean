/- Law 12: the payload, decoded. -/
import Derived.Test.YtpnabclcnplchaaGreatL12DPl2
set_option linter.unusedVariables false
set_option linter.unusedSimpArgs false
namespace Go.Proofs.Tryz
open Go.Eng
abbrev pvR:List RK:=[RK.v (Ty.nm 0),RK.v (Ty.int .i64),RK.v (Ty.int .i64)]
theorem qfm (q e:Int)(t:Int)(N:List Bool)(l:List Int):F39c19 4000000 q e t [] N l=some (({f_Type:=t,ints:=l,texts:=[],nulls:=N:Vec},(q,(e,()))),()):=F39c19_eq 3999999 _ _ _ _ _ _
theorem qvy (q e:Int)(t:Int)(N:List Bool)(W:List (List Int)):F39c19' 4000000 q e t [] N W=some (({f_Type:=t,ints:=[],texts:=W,nulls:=N:Vec},(q,(e,()))),()):=F39c19'_eq 3999999 _ _ _ _ _ _
theorem qy1 {b:List Int}(hb:okB b)(hl:b.length<=100000000){N c:Nat}(h1:1<=b.length)(hN:N<=10000){t:Int}(ht:t=1\/t=2)(hc:b.getD 0 0=(c:Int))(hc3:c<=3):
  ∃(l l':List Int) (q q' e:Nat),F39.run frA pvR 4000000 (b,t,(N:Int),())=some (({f_Type:=t,ints:=l,texts:=[],nulls:=List.replicate N false:Vec},((q:Int),((e:Int),()))),())/\
   F42.run frA frR 4000000 (b,t,(N:Int),())=some ((l',((q':Int),((e:Int),()))),())/\(e=0->l'=l/\q'=q/\z10g b N l q)/\
   (∀R v,b=((c:Int)::q0h v c)++R->v.f_Type=t->v.ints.length=N->okL v.ints->(t=1->∀x∈v.ints,x=0\/x=1)->e=0/\l=v.ints/\q=1+(q0h v c).length):=by
 have hc':b.getD (Int.toNat (0:Int)) 0=(c:Int):=hc
 rw[show F39.run frA pvR 4000000 (b,t,(N:Int),())=_ from F39_run _ _ _ _,show F42.run frA frR 4000000 (b,t,(N:Int),())=_ from(F42_run _ _ _ _).trans (F42c1_eq 3999999 _ _ _)]
 rw[if_pos (show(0:Int)<=(N:Int) by omega),if_pos (show(N:Int)<=(lim:Int) by simp only[lim];omega),if_pos (show(0:Int)<(b.length:Int) by omega),if_pos (show(0:Int)<(b.length:Int) by omega),hc',q00 (z:=(c:Int)) (by omega) (by omega),tN]
 by_cases c0:c=0
 ·have hbody:∀v:Vec,q0h v c=plE v:=fun v=>by unfold q0h;rw[if_pos (by omega)]
  rw[dT (show(c:Int)=0 by omega),cT,cT]
  rcases ht with t1|t2
  ·subst t1
   rw[dT (show(1:Int)=1 from rfl),cT]
   obtain⟨l,l',q,q',e,r1,r2,r3,r4,r5⟩:=qqr hb hl (N:=N) h1 (by omega)
   rw[r1,r2,oB,oB]
   dsimp only
   rw[qfm]
   refine⟨l,l',q,q',e,rfl,rfl,r3,fun R v t1 t2 t3 t4 t5=>?_⟩
   have hp:plE v=q27 (us v.ints) 1:=by unfold plE;rw[if_pos t2]
   rw[hbody,hp]at t1 ⊢
   exact r5 [(c:Int)] R v.ints (by rw[t1];rfl) rfl t3 (t5 rfl)
  ·subst t2
   rw[dF (show¬(2:Int)=1 by decide),cF,dT (show(2:Int)=2 from rfl),cT]
   obtain⟨l,q,e,r1,r2,r3,r4,r5⟩:=qu9 hb hl (N:=N) h1 (by omega) (t:=2) (by decide)
   rw[r1,r2,oB,oB]
   dsimp only
   rw[qfm]
   refine⟨l,l,q,q,e,rfl,rfl,fun h=>⟨rfl,rfl,r3 h⟩,fun R v t1 t2 t3 t4 t5=>?_⟩
   have hp:plE v=nmB v.ints v.ints.length:=by unfold plE;rw[if_neg (by omega),if_pos t2]
   rw[hbody,hp]at t1 ⊢
   exact r5 [(c:Int)] R v.ints (by rw[t1];rfl) rfl t3 t4
 rw[dF (show¬(c:Int)=0 by omega),cF,cF]
 by_cases c1:c=1
 ·have hbody:∀v:Vec,q0h v c=q9b (q12 v.ints):=fun v=>by unfold q0h;rw[if_neg (by omega),if_pos (by omega)]
  rw[dT (show(c:Int)=1 by omega),cT,dF (show¬(c:Int)=2 by omega),cF,dF (show¬(c:Int)=3 by omega),cF,
   show F71.run frB frR 4000000 (b,(N:Int),())=_ from(F71_run _ _ _).trans (F71c1_eq 3999999 _ _)]
  obtain⟨L,q,e,r1,r2,r3,r4⟩:=qpe hb (by omega) (1:Int)
  have key:∀R v,b=((c:Int)::q0h v c)++R->v.ints.length=N->okL v.ints->e=0/\L=q12 v.ints/\q=1+(q0h v c).length:=by
   intro R v t1 t3 t4
   obtain⟨f1,f2,f3,f4,f5,f6⟩:=qa4 t4 (by omega)
   rw[hbody]at t1 ⊢
   have:=qpr (b:=b) (P:=[(c:Int)]) (R:=R) (l:=q12 v.ints) (by omega) (by rw[t1];rfl) f1 f3 (by omega) f2
   rw[show(([(c:Int)].length:Nat):Int)=(1:Int)from rfl,r1]at this
   injection this with h
   injection h with h _
   injection h with k1 h
   injection h with k2 h
   injection h with k3 _
   refine⟨?_,k1,?_⟩
   ·have:(e:Int)=0:=k3
    omega
   ·have:(q:Int)=(([(c:Int)].length+(q9b (q12 v.ints)).length:Nat):Int):=k2
    rw[List.length_singleton]at this
    omega
  rw[r1,r2,oB,oB]
  dsimp only
  rcases Decidable.em (e≠0)with he|he
  ·rw[ne0 he,cT,cT,oB]
   dsimp only
   rw[qfm]
   exact⟨[],[],0,0,e,rfl,rfl,fun h=>absurd h he,fun R v t1 t2 t3 t4 t5=>absurd (key R v t1 t3 t4).1 he⟩
  have he:=Decidable.not_not.1 he
  subst he
  obtain⟨g1,g2,g3,g4,g5,g6,g7⟩:=r3 rfl
  obtain⟨x,f,x1,x2,x3,x4⟩:=qc1 g1 (by omega)
  have hf:=x4 g4 g5
  subst hf
  obtain⟨x5,_⟩:=x3 rfl
  have hxl:(x.length:Int)=q0k L:=by rw[x5];exact qak g1
  have hcnt:=qyu g1 g2 g5 L.length 0 4000000 (by omega) (by omega) (by omega)
  rw[List.take_zero]at hcnt
  rw[show(!decide (((0:Nat):Int)=0))=false from rfl,cF,cF,show F123.run exA exR 4000000 (L,())=_ from x1,show F84.run exA exR 4000000 (L,())=_ from x2,oB,
   show F83.run qji Rk6 4000000 (L,())=some ((q0k L,()),())from(F83_run _ _).trans hcnt,oB]
  dsimp only
  rw[show(!decide (((0:Nat):Int)=0))=false from rfl,cF,<-hxl]
  by_cases hn:x.length=N
  ·rw[dT (show(x.length:Int)=(N:Int) by omega),nT,cF,cF,oB,oB]
   dsimp only
   rw[qfm]
   refine⟨x,x,q,q,0,rfl,rfl,fun _=>⟨rfl,rfl,?_,hn,?_,g3⟩,fun R v t1 t2 t3 t4 t5=>?_⟩
   ·rw[x5];exact qta g7
   ·have:(1:Int)<=(q:Int):=g6
    omega
   ·obtain⟨_,k2,k3⟩:=key R v t1 t3 t4
    refine⟨rfl,?_,k3⟩
    rw[x5,k2]
    exact(qa4 t4 (by omega)).2.2.2.1
  ·rw[dF (show¬(x.length:Int)=(N:Int) by omega),nF,cT,cT,oB]
   dsimp only
   rw[qfm]
   refine⟨[],[],0,0,18,rfl,rfl,fun h=>by omega,fun R v t1 t2 t3 t4 t5=>?_⟩
   obtain⟨_,k2,k3⟩:=key R v t1 t3 t4
   exfalso
   apply hn
   rw[x5,k2,(qa4 t4 (by omega)).2.2.2.1,t3]
 rw[dF (show¬(c:Int)=1 by omega),cF]
 by_cases c2:c=2
 ·have hbody:∀v:Vec,q0h v c=frE v.ints:=fun v=>by unfold q0h;rw[if_neg (by omega),if_neg (by omega),if_pos (by omega)]
  rw[dT (show(c:Int)=2 by omega),cT,cT]
  obtain⟨l,q,e,r1,r2,r3,r4,r5⟩:=qgw hb hl (p:=1) (N:=N) h1 hN
  rw[show F72.run frA frR 4000000 (b,(1:Int),(N:Int),())=_ from r1,show F80.run frA frR 4000000 (b,(1:Int),(N:Int),())=_ from r2,oB,oB]
  dsimp only
  rw[qfm]
  refine⟨l,l,q,q,e,rfl,rfl,fun h=>⟨rfl,rfl,(r3 h).1,(r3 h).2.1,(r3 h).2.2.1,(r3 h).2.2.2.1⟩,fun R v t1 t2 t3 t4 t5=>?_⟩
  rw[hbody]at t1 ⊢
  exact r5 [(c:Int)] R v.ints (by rw[t1];rfl) rfl t3 t4
 rw[dF (show¬(c:Int)=2 by omega),cF,cF]
 have hbody:∀v:Vec,q0h v c=dlE v.ints:=fun v=>by unfold q0h;rw[if_neg (by omega),if_neg (by omega),if_neg (by omega),if_pos (by omega)]
 rw[dT (show(c:Int)=3 by omega),cT,cT]
 obtain⟨l,q,e,r1,r2,r3,r4,r5⟩:=qqt hb hl (p:=1) (N:=N) (by omega) hN
 rw[show F73.run frA frR 4000000 (b,(1:Int),(N:Int),())=_ from r1,show F81.run frA frR 4000000 (b,(1:Int),(N:Int),())=_ from r2,oB,oB]
 dsimp only
 rw[qfm]
 refine⟨l,l,q,q,e,rfl,rfl,fun h=>⟨rfl,rfl,(r3 h).1,(r3 h).2.1,?_,(r3 h).2.2.2.1⟩,fun R v t1 t2 t3 t4 t5=>?_⟩
 ·have:=(r3 h).2.2.1
  omega
 ·rw[hbody]at t1 ⊢
  exact r5 [(c:Int)] R v.ints (by rw[t1];rfl) rfl t3 t4
theorem qyd {b:List Int}(hb:okB b)(hl:b.length<=100000000){N c:Nat}(h1:1<=b.length)(hN:N<=10000)(hc:b.getD 0 0=(c:Int))(hc3:c=0\/c=4\/c=5)(h5:c=5->b.length<=1000000):
  ∃(W:List (List Int)) (q e:Nat),F39.run frA pvR 4000000 (b,(3:Int),(N:Int),())=some (({f_Type:=3,ints:=[],texts:=W,nulls:=List.replicate N false:Vec},((q:Int),((e:Int),()))),())/\
   F41.run frB dtR 4000000 (b,(N:Int),())=some ((W,((q:Int),((e:Int),()))),())/\(e=0->W.length=N/\1<=q/\q<=b.length)/\
   (∀R v,b=((c:Int)::q0h v c)++R->v.f_Type=3->v.texts.length=N->okT v.texts->(∀w∈v.texts,byt w)->e=0/\W=v.texts/\q=1+(q0h v c).length):=by
 have hc':b.getD (Int.toNat (0:Int)) 0=(c:Int):=hc
 rw[show F39.run frA pvR 4000000 (b,(3:Int),(N:Int),())=_ from F39_run _ _ _ _,show F41.run frB dtR 4000000 (b,(N:Int),())=_ from(F41_run _ _ _).trans (F41c1_eq 3999999 _ _)]
 rw[if_pos (show(0:Int)<=(N:Int) by omega),if_pos (show(N:Int)<=(lim:Int) by simp only[lim];omega),if_pos (show(0:Int)<(b.length:Int) by omega),if_pos (show(0:Int)<(b.length:Int) by omega),hc',q00 (z:=(c:Int)) (by omega) (by omega),tN]
 by_cases c0:c=0
 ·have hbody:∀v:Vec,v.f_Type=3->q0h v c=txB v.texts v.texts.length:=fun v t3=>by unfold q0h;rw[if_pos (by omega)];unfold plE;rw[if_neg (by omega),if_neg (by omega)]
  rw[dT (show(c:Int)=0 by omega),cT,cT,dF (show¬(3:Int)=1 by decide),cF,dF (show¬(3:Int)=2 by decide),cF]
  obtain⟨W,q,e,r1,r2,r3,r4,r5⟩:=z138 hb hl (N:=N) h1 (by omega)
  rw[r1,r2,oB,oB]
  dsimp only
  rw[qvy]
  refine⟨W,q,e,rfl,rfl,fun h=>⟨(r3 h).1,(r3 h).2.2⟩,fun R v t1 t2 t3 t4 t5=>?_⟩
  rw[hbody v t2]at t1 ⊢
  exact r5 [(c:Int)] R v.texts (by rw[t1];rfl) rfl t3 t4 t5
 rw[dF (show¬(c:Int)=0 by omega),cF,cF,dF (show¬(c:Int)=1 by omega),cF,dF (show¬(c:Int)=2 by omega),cF,dF (show¬(c:Int)=3 by omega),cF]
 by_cases c4:c=4
 ·have hbody:∀v:Vec,q0h v c=q86 v.texts:=fun v=>by unfold q0h;rw[if_neg (by omega),if_neg (by omega),if_neg (by omega),if_neg (by omega),if_pos (by omega)]
  rw[dT (show(c:Int)=4 by omega),cT,cT]
  obtain⟨W,q,e,r1,r2,r3,r4⟩:=qmb hb hl (o:=1) (N:=N) hN
  rw[show F74.run frA dtR 4000000 (b,(1:Int),(N:Int),())=_ from r1,show F77.run frA dtR 4000000 (b,(1:Int),(N:Int),())=_ from r2,oB,oB]
  dsimp only
  rw[qvy]
  refine⟨W,q,e,rfl,rfl,fun h=>⟨(r3 h).2.2.1,(r3 h).1,(r3 h).2.1⟩,fun R v t1 t2 t3 t4 t5=>?_⟩
  rw[hbody v]at t1 ⊢
  have hb1:b=[(c:Int)]++q86 v.texts++R:=by rw[t1];rfl
  have:=qst (P:=[(c:Int)]) (R:=R) (l:=v.texts) (by omega) (fun w hw=>⟨t4 w hw,t5 w hw⟩) (by rw[<-hb1];exact hl)
  rw[<-hb1,t3,show F74.run wdA dcR 4000000 (b,(([(c:Int)].length:Nat):Int),(N:Int),())=_ from r1]at this
  injection this with h
  injection h with h _
  injection h with k1 h
  injection h with k2 h
  injection h with k3 _
  refine⟨?_,k1,?_⟩
  ·have:(e:Int)=0:=k3
   omega
  ·have:(q:Int)=(([(c:Int)].length+(q86 v.texts).length:Nat):Int):=k2
   rw[List.length_singleton]at this
   omega
 have hbody:∀v:Vec,q0h v c=fcB v.texts v.texts.length:=fun v=>by unfold q0h;rw[if_neg (by omega),if_neg (by omega),if_neg (by omega),if_neg (by omega),if_neg (by omega)]
 rw[dF (show¬(c:Int)=4 by omega),cF,cF]
 obtain⟨W,q,e,r1,r2,r3,r4,r5⟩:=qr1 hb (h5 (by omega)) (p:=1) (N:=N) h1 (by omega)
 rw[show F75.run frA dtR 4000000 (b,(1:Int),(N:Int),())=_ from r1,show F78.run frA dtR 4000000 (b,(1:Int),(N:Int),())=_ from r2,oB,oB]
 dsimp only
 rw[qvy]
 refine⟨W,q,e,rfl,rfl,fun h=>⟨(r3 h).1,(r3 h).2.2⟩,fun R v t1 t2 t3 t4 t5=>?_⟩
 rw[hbody v]at t1 ⊢
 exact r5 [(c:Int)] R v.texts (by rw[t1];rfl) rfl t3
end Go.Proofs.Tryz
