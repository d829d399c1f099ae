/- Law 12: Decode, of the program and of the reference. -/
import Derived.Test.YtpnabclcnplchaaGreatL12Dec5
set_option linter.unusedVariables false
set_option linter.unusedSimpArgs false
namespace Go.Proofs.Tryz
open Go.Eng
def z10p (t n:Int)(v:Vec)(q e:Nat):Prop:=(e=0->1<=t/\t<=3/\okV v=true/\Fit v/\v.f_Type=t/\((v.nulls.length:Nat):Int)=n)/\(e≠0->v=q3k/\q=0)
theorem q29 {t n:Int}{e:Nat}(h:e≠0):z10p t n q3k 0 e:=⟨fun h'=>absurd h' h,fun _=>⟨rfl,rfl⟩⟩
def z142 (b:List Int)(t n:Int)(v:Vec)(q e:Nat):Prop:=∀R (v':Vec) (k:Nat),b=((k:Int)::q0h v' k)++R->okV v'=true->Fit v'->(∀w∈v'.texts,byt w)->v'.f_Type=t->((v'.nulls.length:Nat):Int)=n->k<=5->app k t=true->e=0/\v=v'/\q=1+(q0h v' k).length
theorem qp9 {v:Vec}(h:okV v=true):v.nulls=List.replicate v.nulls.length false:=by
 obtain⟨_,_,_,_,h5⟩:=q33 h
 refine List.ext_getElem (by simp) fun j h1 h2=>?_
 have:=qax _ _ h5 j (by omega) (by omega)
 unfold qwj at this
 simp only[Bool.and_eq_true]at this
 have h3:=this.1
 rw[gQ,gE h1]at h3
 rw[List.getElem_replicate]
 cases hb:v.nulls[j]with
 |false=>rfl
 |true=>rw[hb]at h3;simp at h3
theorem qsj {v:Vec}(h:okV v=true)(t1:v.f_Type=1):qwu v.ints:=by
 obtain⟨_,_,_,h4,h5⟩:=q33 h
 obtain⟨l1,l2⟩:=q4a h4
 intro x hx
 obtain⟨j,hj,rfl⟩:=List.mem_iff_getElem.1 hx
 have:=qax _ _ h5 j (by omega) (by have:=(l2 (by omega)).2;omega)
 unfold qwj at this
 rw[dT t1,gQ (l:=v.ints),gE hj]at this
 simp only[Bool.and_eq_true,nT,Bool.false_or,Bool.or_eq_true,decide_eq_true_eq]at this
 exact this.2.1
theorem z13d {v:Vec}(h:okV v=true)(t3:v.f_Type≠3):v={f_Type:=v.f_Type,ints:=v.ints,texts:=[],nulls:=List.replicate v.nulls.length false}/\v.ints.length=v.nulls.length:=by
 obtain⟨_,_,_,h4,_⟩:=q33 h
 obtain⟨_,l2⟩:=q4a h4
 have h5:=qp9 h
 obtain⟨a,b⟩:=l2 t3
 have h6:v.texts=[]:=List.eq_nil_of_length_eq_zero a
 cases v with
 |mk f i t n=>
  dsimp only at h5 h6 b ⊢
  subst h6
  exact⟨by rw[<-h5],by omega⟩
theorem z13f {v:Vec}(h:okV v=true)(t3:v.f_Type=3):v={f_Type:=3,ints:=[],texts:=v.texts,nulls:=List.replicate v.nulls.length false}/\v.texts.length=v.nulls.length:=by
 obtain⟨_,_,_,h4,_⟩:=q33 h
 obtain⟨l1,_⟩:=q4a h4
 have h5:=qp9 h
 obtain⟨a,b⟩:=l1 t3
 have h6:v.ints=[]:=List.eq_nil_of_length_eq_zero a
 cases v with
 |mk f i t n=>
  dsimp only at h5 h6 b t3 ⊢
  subst h6
  subst t3
  exact⟨by rw[<-h5],by omega⟩
theorem qqe {b:List Int}{c q:Nat}{v:Vec}{t n:Int}(g:1<=t/\t<=3/\okV v=true/\Fit v/\v.f_Type=t/\((v.nulls.length:Nat):Int)=n)(hc:b.getD 0 0=(c:Int))
  (trip:∀R (v':Vec) (k:Nat),b=((k:Int)::q0h v' k)++R->okV v'=true->Fit v'->(∀w∈v'.texts,byt w)->v'.f_Type=t->((v'.nulls.length:Nat):Int)=n->k<=5->app k t=true->v=v'/\q=1+(q0h v' k).length):
  ∃(w:Vec) (q' e:Nat),vFin b c q v=some ((w,((q':Int),((e:Int),()))),())/\z10p t n w q' e/\z142 b t n w q' e:=by
 unfold vFin
 by_cases h:List.map Eng.q0n ((c:Int)::q0h v c)=List.map Eng.q0n (slice b 0 q)
 ·rw[dT h,nT,cF]
  exact⟨v,q,0,rfl,⟨fun _=>g,fun h=>absurd rfl h⟩,fun R v' k h1 h2 h3 h4 h5 h6 h7 h8=>⟨rfl,trip R v' k h1 h2 h3 h4 h5 h6 h7 h8⟩⟩
 ·rw[dF h,nF,cT]
  refine⟨q3k,0,4,rfl,q29 (by decide),fun R v' k h1 h2 h3 h4 h5 h6 h7 h8=>?_⟩
  exfalso
  apply h
  obtain⟨t1,t2⟩:=trip R v' k h1 h2 h3 h4 h5 h6 h7 h8
  have hk:(k:Int)=(c:Int):=by
   rw[<-hc,h1]
   rfl
  have hs:slice b 0 q=(k:Int)::q0h v' k:=by
   have h7:=q3o (A:=[]) (M:=(k:Int)::q0h v' k) (R:=R)
   rw[List.nil_append,<-h1,lC]at h7
   rw[t2,show 1+(q0h v' k).length=([]:List Int).length+((q0h v' k).length+1) by rw[List.length_nil];omega]
   exact h7
  rw[hs,t1,<-hk]
theorem qw7 {b:List Int}(hb:okB b)(hl:b.length<=100000000)(h5:b.getD 0 0=5->b.length<=1000000){t n:Int}(hn:n<=10000\/65536<n):
  ∃(v:Vec) (q e:Nat),F18.run frA pvR 4000000 (b,t,n,())=some ((v,((q:Int),((e:Int),()))),())/\F19.run frA pvR 4000000 (b,t,n,())=some ((v,((q:Int),((e:Int),()))),())/\z10p t n v q e/\z142 b t n v q e:=by
 rw[show F18.run frA pvR 4000000 (b,t,n,())=_ from F18_run _ _ _ _,show F19.run frA pvR 4000000 (b,t,n,())=_ from F19_run _ _ _ _]
 by_cases t1:t<1
 ·rw[dT t1,cT,cT]
  refine⟨q3k,0,1,rfl,rfl,q29 (by decide),fun R v' k g1 g2 g3 g4 g5 g6 g7 g8=>?_⟩
  have:=q33 g2
  omega
 rw[dF t1,cF,cF]
 by_cases t3:3<t
 ·rw[dT t3,cT,cT]
  refine⟨q3k,0,1,rfl,rfl,q29 (by decide),fun R v' k g1 g2 g3 g4 g5 g6 g7 g8=>?_⟩
  have:=q33 g2
  omega
 rw[dF t3,cF,cF]
 by_cases n0:n<0
 ·rw[dT n0,cT,cT]
  refine⟨q3k,0,1,rfl,rfl,q29 (by decide),fun R v' k g1 g2 g3 g4 g5 g6 g7 g8=>?_⟩
  omega
 rw[dF n0,cF,cF]
 by_cases n6:65536<n
 ·rw[dT n6,cT,cT]
  refine⟨q3k,0,1,rfl,rfl,q29 (by decide),fun R v' k g1 g2 g3 g4 g5 g6 g7 g8=>?_⟩
  have:=q33 g2
  omega
 rw[dF n6,cF,cF,F19c3_eq (n:=3999999)]
 obtain⟨N,rfl⟩:=Int.eq_ofNat_of_zero_le (by omega:0<=n)
 have hN:N<=10000:=by omega
 by_cases b0:b.length=0
 ·rw[dT (show(b.length:Int)=0 by omega),cT,cT]
  refine⟨q3k,0,2,rfl,rfl,q29 (by decide),fun R v' k g1 g2 g3 g4 g5 g6 g7 g8=>?_⟩
  have:=congrArg List.length g1
  simp at this
  omega
 have h1:1<=b.length:=by omega
 obtain⟨c,hc,hc8⟩:=hb 0 (by omega)
 have hc':b.getD (Int.toNat (0:Int)) 0=(c:Int):=hc
 rw[dF (show¬(b.length:Int)=0 by omega),cF,cF,if_pos (show(0:Int)<(b.length:Int) by omega),if_pos (show(0:Int)<(b.length:Int) by omega),hc',q00 (z:=(c:Int)) (by omega) (by omega)]
 have hck:∀R (v':Vec) (k:Nat),b=((k:Int)::q0h v' k)++R->k=c:=by
  intro R v' k h
  have:(k:Int)=(c:Int):=by
   rw[<-hc,h]
   rfl
  omega
 by_cases c5:5<c
 ·obtain⟨e1,e2⟩:=z143 c5 t
  rw[e1,e2,oB,oB]
  dsimp only
  rw[nF,cT,cT]
  refine⟨q3k,0,4,rfl,rfl,q29 (by decide),fun R v' k g1 g2 g3 g4 g5 g6 g7 g8=>?_⟩
  have:=hck R v' k g1
  omega
 rw[qm7 (by omega) (by omega) (by omega) (by omega),qpc (by omega) (by omega) (by omega) (by omega),oB,oB]
 dsimp only
 cases ha:app (c:Int) t with
 |false=>
  rw[nF,cT,cT]
  refine⟨q3k,0,4,rfl,rfl,q29 (by decide),fun R v' k g1 g2 g3 g4 g5 g6 g7 g8=>?_⟩
  rw[hck R v' k g1,ha]at g8
  cases g8
 | true=>
  rw[nT,cF,cF,F18c7_eq (n:=3999999),if_pos (show(0:Int)<=(N:Int) by omega),if_pos (show(N:Int)<=(lim:Int) by simp only[lim];omega),tN]
  by_cases tt:t=3
  ·subst tt
   have hca:c=0\/c=4\/c=5:=by
    unfold app at ha
    by_cases h:(c:Int)=0
    ·omega
    ·rw[if_neg h]at ha
     by_cases h':(c:Int)<=3
     ·rw[if_pos h']at ha;simp at ha
     ·omega
   obtain⟨W,q,e,r1,r2,r3,r4⟩:=qyd hb hl (N:=N) h1 hN hc hca (fun h=>h5 (by rw[hc];omega))
   have trip:∀R (v':Vec) (k:Nat),b=((k:Int)::q0h v' k)++R->okV v'=true->Fit v'->(∀w∈v'.texts,byt w)->v'.f_Type=3->((v'.nulls.length:Nat):Int)=(N:Int)->e=0/\({f_Type:=3,ints:=[],texts:=W,nulls:=List.replicate N false}:Vec)=v'/\q=1+(q0h v' k).length/\W=v'.texts:=by
    intro R v' k g1 g2 g3 g4 g5 g6
    have hk:=hck R v' k g1
    subst hk
    obtain⟨x1,x2⟩:=z13f g2 g5
    obtain⟨y1,y2,y3⟩:=r4 R v' g1 g5 (by omega) g3.okT g4
    refine⟨y1,?_,y3,y2⟩
    rw[y2,show N=v'.nulls.length by omega]
    exact x1.symm
   rw[dT (show(3:Int)=3 from rfl),cT,r1,r2,oB,oB]
   dsimp only
   rw[F19c18_eq (n:=3999998)]
   rcases Decidable.em (e≠0)with he|he
   ·rw[ne0 he,cT,cT]
    exact⟨q3k,0,e,rfl,rfl,q29 he,fun R v' k g1 g2 g3 g4 g5 g6 g7 g8=>absurd (trip R v' k g1 g2 g3 g4 g5 g6).1 he⟩
   have he:=Decidable.not_not.1 he
   subst he
   obtain⟨w1,w2,w3⟩:=r3 rfl
   rw[show(!decide (((0:Nat):Int)=0))=false from rfl,cF,cF,F18c11_eq (n:=3999998),F19c21_eq (n:=3999997),show decide ((0:Int)<((([]:List Int).length:Nat):Int))=false from rfl,cF,cF]
   rcases qq9 (b:=b) (q:=(q:Int)) (v:={f_Type:=3,ints:=[],texts:=W,nulls:=List.replicate N false}) (t':=3) (l:=[]) (N:=List.replicate N false) (W:=W) (by omega) N 0 3999998 3999997 (by omega) (by omega) (by omega) (by omega)with⟨s1,s2,s3⟩|⟨s1,s2,s3⟩
   ·rw[List.drop_zero]at s1
    have hok:=z128 w1 (by omega) s1
    have hF:Fit {f_Type:=3,ints:=[],texts:=W,nulls:=List.replicate N false}:=⟨by simp,by show W.length<=10000;omega,(fun x hx=>by cases hx),s1⟩
    obtain⟨m1,hm1⟩:∃m1,3999998-N=m1+1:=⟨3999997-N,by omega⟩
    obtain⟨m2,hm2⟩:∃m2,3999997-N=m2+1:=⟨3999996-N,by omega⟩
    rw[hm1]at s2
    rw[hm2]at s3
    have f1:=s2.trans (z106 (b:=b) (c:=c) (q:=q) hok hF hc (by omega) ha h1 w3 m1)
    have f2:=s3.trans (z107 (b:=b) (c:=c) (q:=q) hok hF hc (by omega) h1 w3 m2).1
    obtain⟨u,q',e',v1,v2,v3⟩:=qqe (b:=b) (c:=c) (q:=q) (v:={f_Type:=3,ints:=[],texts:=W,nulls:=List.replicate N false}) (t:=3) (n:=(N:Int)) ⟨by omega,by omega,hok,hF,rfl,by rw[List.length_replicate]⟩ hc
     (fun R v' k g1 g2 g3 g4 g5 g6 g7 g8=>⟨(trip R v' k g1 g2 g3 g4 g5 g6).2.1,(trip R v' k g1 g2 g3 g4 g5 g6).2.2.1⟩)
    exact⟨u,q',e',f1.trans v1,f2.trans v1,v2,v3⟩
   ·refine⟨q3k,0,3,s2,s3,q29 (by decide),fun R v' k g1 g2 g3 g4 g5 g6 g7 g8=>?_⟩
    exfalso
    apply s1
    rw[List.drop_zero,(trip R v' k g1 g2 g3 g4 g5 g6).2.2.2]
    exact g3.okT
  ·have ht:t=1\/t=2:=by omega
   have hca:c<=3:=by
    unfold app at ha
    by_cases h:(c:Int)=0
    ·omega
    ·rw[if_neg h]at ha
     by_cases h':(c:Int)<=3
     ·omega
     ·rw[if_neg h']at ha;simp[tt]at ha
   obtain⟨l,l',q,q',e,r1,r2,r3,r4⟩:=qy1 hb hl (N:=N) h1 hN ht hc hca
   have trip:∀R (v':Vec) (k:Nat),b=((k:Int)::q0h v' k)++R->okV v'=true->Fit v'->v'.f_Type=t->((v'.nulls.length:Nat):Int)=(N:Int)->e=0/\({f_Type:=t,ints:=l,texts:=[],nulls:=List.replicate N false}:Vec)=v'/\q=1+(q0h v' k).length/\l=v'.ints:=by
    intro R v' k g1 g2 g3 g5 g6
    have hk:=hck R v' k g1
    subst hk
    obtain⟨x1,x2⟩:=z13d g2 (by omega)
    obtain⟨y1,y2,y3⟩:=r4 R v' g1 g5 (by omega) g3.okL (fun h=>qsj g2 (by omega))
    refine⟨y1,?_,y3,y2⟩
    rw[y2,show N=v'.nulls.length by omega,<-g5]
    exact x1.symm
   rw[dF tt,cF,r1,r2,oB,oB]
   dsimp only
   rw[F19c18'_eq (n:=3999998)]
   rcases Decidable.em (e≠0)with he|he
   ·rw[ne0 he,cT,cT]
    exact⟨q3k,0,e,rfl,rfl,q29 he,fun R v' k g1 g2 g3 g4 g5 g6 g7 g8=>absurd (trip R v' k g1 g2 g3 g5 g6).1 he⟩
   have he:=Decidable.not_not.1 he
   subst he
   obtain⟨w1,w2,w3,w4,w5,w6⟩:=r3 rfl
   subst w1
   subst w2
   rw[show(!decide (((0:Nat):Int)=0))=false from rfl,cF,cF]
   rcases qp1 (b:=b) (l:=l') (t:=t) (q:=(q':Int)) (v:={f_Type:=t,ints:=l',texts:=[],nulls:=List.replicate N false}) (t':=t) (W:=[]) (N:=List.replicate N false) (by omega) w3 N 0 3999999 3999998 (by omega) (by omega) (by omega) (by omega)with⟨s1,s2,s3⟩|⟨s1,s2,s3⟩
   ·rw[List.drop_zero]at s1
    have hok:=z127 ht w4 (by omega) s1
    have hF:Fit {f_Type:=t,ints:=l',texts:=[],nulls:=List.replicate N false}:=⟨by show l'.length<=10000;omega,by simp,w3,(fun x hx=>by cases hx)⟩
    obtain⟨m1,hm1⟩:∃m1,3999999-N=m1+2:=⟨3999997-N,by omega⟩
    obtain⟨m2,hm2⟩:∃m2,3999998-N=m2+2:=⟨3999996-N,by omega⟩
    rw[hm1]at s2
    rw[hm2]at s3
    have k1:=F18c11_eq (m1+1) b t (q':Int) l' (l'.length:Int) (l'.length:Int) q3k {f_Type:=t,ints:=l',texts:=[],nulls:=List.replicate N false}
    have k2:=F19c21'_eq (m2+1) b t (q':Int) (l'.length:Int) q3k t [] (List.replicate N false) l'
    rw[dF (show¬(l'.length:Int)<(l'.length:Int) by omega),cF]at k1 k2
    have f1:=(s2.trans k1).trans (z106 (b:=b) (c:=c) (q:=q') (v:={f_Type:=t,ints:=l',texts:=[],nulls:=List.replicate N false}) hok hF hc (by omega) ha h1 w6 m1)
    have f2:=(s3.trans k2).trans (z107 (b:=b) (c:=c) (q:=q') hok hF hc (by omega) h1 w6 m2).2
    obtain⟨u,q2,e',v1,v2,v3⟩:=qqe (b:=b) (c:=c) (q:=q') (v:={f_Type:=t,ints:=l',texts:=[],nulls:=List.replicate N false}) (t:=t) (n:=(N:Int)) ⟨by omega,by omega,hok,hF,rfl,by rw[List.length_replicate]⟩ hc
     (fun R v' k g1 g2 g3 g4 g5 g6 g7 g8=>⟨(trip R v' k g1 g2 g3 g5 g6).2.1,(trip R v' k g1 g2 g3 g5 g6).2.2.1⟩)
    exact⟨u,q2,e',f1.trans v1,f2.trans v1,v2,v3⟩
   ·refine⟨q3k,0,4,s2,s3,q29 (by decide),fun R v' k g1 g2 g3 g4 g5 g6 g7 g8=>?_⟩
    exfalso
    apply s1
    intro h
    rw[List.drop_zero,(trip R v' k g1 g2 g3 g5 g6).2.2.2]
    exact qsj g2 (by omega)
end Go.Proofs.Tryz
