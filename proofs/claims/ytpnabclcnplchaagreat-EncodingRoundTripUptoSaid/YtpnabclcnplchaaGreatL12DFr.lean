/- Law 12: the exceptions of a frame, decoded. -/
import Derived.Test.YtpnabclcnplchaaGreatL12Trip2
set_option linter.unusedVariables false
set_option linter.unusedSimpArgs false
namespace Go.Proofs.Tryz
open Go.Eng
open IntKind (i64 u64 u8)
theorem q1g {b:List Int}(hb:okB b)(hl:b.length<=4000000000)(at_:Int):F132.run q99 qcq 4000000 (b,at_,())=F121.run q99 qcq 4000000 (b,at_,()):=by
 obtain⟨x,q,e,h1,h2,_⟩:=q38 hb hl at_
 rw[h1,h2]
theorem q1a:∀n:Nat,∀x∈q0f n,0<=x/\x<256:=by
 intro n
 induction n using Nat.strongRecOn with
 | ind n ih=>
  intro x hx
  rw[q0f]at hx
  split at hx
  ·rename_i h
   rw[List.mem_singleton]at hx
   omega
  ·rcases List.mem_cons.1 hx with h|h
   ·omega
   ·exact ih (n/128) (by omega) x h
def qcs (P:List (Nat×Nat)):List Int:=(P.map fun x=>q0f x.1++q0f x.2).flatten
theorem qes (x:Nat×Nat)(P:List (Nat×Nat)):qcs (x::P)=q0f x.1++(q0f x.2++qcs P):=by
 simp only[qcs,List.map_cons,List.flatten_cons,aA]
theorem qt9 (P:List (Nat×Nat))(x:Nat×Nat):qcs (P++[x])=qcs P++q0f x.1++q0f x.2:=by
 simp only[qcs,List.map_append,List.flatten_append,List.map_cons,List.map_nil,List.flatten_cons,List.flatten_nil,List.append_nil,aA]
def qia (D:List Int)(w:Nat):Nat->List (Nat×Nat)
 |0=>[]
 |i+1=>if 0<hi D w i then qia D w i++[(i,hi D w i)]else qia D w i
theorem qiy (D:List Int)(w:Nat):∀i,pat D w i=qcs (qia D w i)
 |0=>rfl
 |i+1=>by
  rw[pat,qia,qiy D w i]
  split
  ·rw[qt9]
  ·rfl
theorem qib (D:List Int)(w:Nat):∀i,(qia D w i).length=exc D w i
 |0=>rfl
 |i+1=>by
  rw[exc,qia,<-qib D w i]
  split
  ·rw[lA];rfl
  ·rfl
theorem qic {D:List Int}(hu:okU D){w:Nat}:∀i,i<=D.length->∀x∈qia D w i,x.1<i/\0<x.2/\x.2<18446744073709551616
 |0,_,x,hx=>by cases hx
 | i+1,h,x,hx=>by
  rw[qia]at hx
  split at hx
  ·rcases mA.1 hx with h'|h'
   ·have:=qic hu i (by omega) x h'
    exact⟨by omega,this.2⟩
   ·rw[List.mem_singleton]at h'
    subst h'
    exact⟨Nat.lt_succ_self _,by assumption,qu4 hu (by omega)⟩
  ·have:=qic hu i (by omega) x hx
   exact⟨by omega,this.2⟩
/-! The loops over the exceptions. -/
def pch (N:Nat)(x:Nat×Nat):Patch:={index:=i64.wrap (q9x (x.1:Int) (N:Int)),high:=(x.2:Int)}
def orv (w:Int)(D:List Int)(x:Nat×Nat):Int:=Go.bits BinOp.or u64 (D.getD x.1 0) (u64.wrap ((x.2:Int)*(2:Int)^min (u64.wrap w).toNat u64.bits))
def stp (w:Int)(D:List Int)(x:Nat×Nat):List Int:=if x.1<D.length/\w<64 then D.set x.1 (orv w D x)else D
def apl (w:Int)(P:List (Nat×Nat))(D:List Int):List Int:=P.foldl (stp w) D
theorem qvw (w:Int)(D:List Int)(x:Nat×Nat):(stp w D x).length=D.length:=by
 unfold stp
 split
 ·rw[List.length_set]
 ·rfl
theorem qeb (w:Int):∀(P:List (Nat×Nat)) (D:List Int),(apl w P D).length=D.length
 |[],D=>rfl
 |x::P,D=>by
  rw[show apl w (x::P) D=apl w P (stp w D x)from rfl,qeb w P,qvw]
theorem z12n {b:List Int}{q cnt w j m N x y:Nat}{D:List Int}(hD:D.length=N)(hN:N<=65536)(hw:w<=64)(hj:j<65536):
  (bif decide ((x:Int)<u64.wrap (↑D.length:Int))then
       bif decide ((w:Int)<(64:Int))then
        if (0:Int)<=i64.wrap (x:Int)then
         if i64.wrap (x:Int)<(↑D.length:Int)then
          if (0:Int)<=u64.wrap (w:Int)then
           if(0:Int)<=i64.wrap (x:Int)then
            if i64.wrap (x:Int)<(↑D.length:Int)then
             F140c12 (m+1) b cnt w j q (D.set (i64.wrap (x:Int)).toNat (bits BinOp.or u64 (D.getD (i64.wrap (x:Int)).toNat (0:Int)) (u64.wrap ((y:Int)*(2:Int)^min (u64.wrap (w:Int)).toNat u64.bits))))
            else
             none
           else
            none
          else
           none
         else
          none
        else
         none
       else
        F140c12 (m+1) b cnt w j q D
      else
       F140c12 (m+1) b cnt w j q D)=F140c2 m b q cnt w ((j+1:Nat):Int) (stp w D (x,y)):=by
 have hnext:∀L,F140c12 (m+1) b cnt w j q L=F140c2 m b q cnt w ((j+1:Nat):Int) L:=fun L=>by
  rw[F140c12_eq,q00 (by omega) (by omega)]
  rfl
 rw[hnext,hnext,q01 (z:=(D.length:Int)) (by omega) (by omega)]
 unfold stp
 by_cases hx:x<D.length
 ·rw[dT (show(x:Int)<(D.length:Int) by omega),cT,q00 (z:=(x:Int)) (by omega) (by omega),tN]
  by_cases h:w<64
  ·rw[dT (show(w:Int)<64 by omega),cT,if_pos (show(x,y).1<D.length/\(w:Int)<64 from⟨hx,by omega⟩),q01 (z:=(w:Int)) (by omega) (by omega),if_pos (by omega),if_pos (by omega),if_pos (by omega),if_pos (by omega),if_pos (by omega)]
   unfold orv
   rw[q01 (z:=(w:Int)) (by omega) (by omega)]
  ·rw[dF (show¬(w:Int)<64 by omega),cF,if_neg (fun h':(x,y).1<D.length/\(w:Int)<64=>by have:=h'.2;omega)]
 ·rw[dF (show¬(x:Int)<(D.length:Int) by omega),cF,if_neg (fun h':(x,y).1<D.length/\(w:Int)<64=>hx h'.1)]
set_option maxHeartbeats 1000000 in
theorem qom {b:List Int}(hb:okB b)(hl:b.length<=100000000){N w cnt:Nat}(hN:N<=65536)(hw:w<=64)(hc:cnt<=65536):∀(d j at_:Nat),cnt-j=d->j<=cnt->at_<=b.length->
  ∃ (P:List (Nat×Nat)) (q e:Nat),
   (∀(n:Nat) (valid:Bool) (acc:List Patch) (p len:Int) (h:Hdr),2*d<n->acc.length<=j->
    F72c13 n b p N len at_ valid cnt j h acc=if e=0 then F72c13 (n-2*d) b p N len q (valid&&P.all fun x=>decide (x.1<N)) cnt cnt h (acc++P.map (pch N))else some (([],((0:Int),((e:Int),()))),()))/\
   (∀(m:Nat) (D:List Int),2*d<m->D.length=N->
    ∃D',F140c2 m b at_ cnt w j D=some (((((if e=0 then q else 0:Nat):Nat):Int),((e:Int),())),(D',()))/\(e=0->D'=apl w P D))/\
   (e=0->P.length=d/\at_<=q/\q<=b.length)/\
   (∀A Q R,b=A++qcs Q++R->A.length=at_->Q.length=d->(∀x∈Q,x.1<18446744073709551616/\x.2<18446744073709551616)->e=0/\P=Q/\q=at_+(qcs Q).length)
 | 0,j,at_,hd,hj,ha=>by
  have:j=cnt:=by omega
  subst this
  refine⟨[],at_,0,fun n valid acc p len h hn hac=>?_,fun m D hm hD=>⟨D,?_,fun _=>rfl⟩,fun _=>⟨rfl,nR _,ha⟩,fun A Q R h1 h2 h3 h4=>?_⟩
  ·rw[if_pos rfl,List.all_nil,Bool.and_true,List.map_nil,List.append_nil]
   rfl
  ·obtain⟨m,rfl⟩:∃m',m=m'+1:=⟨m-1,by omega⟩
   rw[F140c2_eq,dF (by omega),cF,if_pos rfl]
   rfl
  ·have:Q=[]:=List.eq_nil_of_length_eq_zero h3
   subst this
   exact⟨rfl,rfl,rfl⟩
 | d + 1,j,at_,hd,hj,ha=>by
  have hlt:j<cnt:=by omega
  obtain⟨x,q1,e1,r1,_,g1,g1'⟩:=q38 hb (by omega) (at_:Int)
  by_cases he1:e1=0
  ·subst he1
   obtain⟨k1,k2,k3⟩:=g1 rfl
   obtain⟨y,q2,e2,r2,_,g2,g2'⟩:=q38 hb (by omega) (q1:Int)
   by_cases he2:e2=0
   ·subst he2
    obtain⟨l1,l2,l3⟩:=g2 rfl
    obtain⟨P,q,e,i1,i2,i3,i4⟩:=qom hb hl hN hw hc d (j+1) q2 (by omega) (by omega) l2
    refine⟨(x,y)::P,q,e,fun n valid acc p len h hn hac=>?_,fun m D hm hD=>?_,fun he=>?_,fun A Q R h1 h2 h3 h4=>?_⟩
    ·obtain⟨n,rfl⟩:∃n',n=n'+2:=⟨n-2,by omega⟩
     rw[F72c13_eq,dT (by omega),cT,r1,oB]
     dsimp only
     rw[show(!decide (((0:Nat):Int)=0))=false from rfl,cF,r2,oB]
     dsimp only
     rw[show(!decide (((0:Nat):Int)=0))=false from rfl,cF,q01 (z:=(N:Int)) (by omega) (by omega)]
     have hb':(bif valid then F72c22 (n+1) b p N len q2 (decide ((x:Int)<(N:Int))) x y cnt j h acc else F72c22 (n+1) b p N len q2 false x y cnt j h acc)=F72c22 (n+1) b p N len q2 (valid&&decide (x<N)) x y cnt j h acc:=by
      have hdec:decide ((x:Int)<(N:Int))=decide (x<N):=by
       by_cases h:x<N
       ·rw[dT h,dT (by omega)]
       ·rw[dF h,dF (by omega)]
      rw[hdec]
      cases valid
      ·rw[cF,Bool.false_and]
      ·rw[cT,Bool.true_and]
     rw[hb',F72c22_eq,if_pos (by simp only[lim];omega),q00 (z:=(j:Int)+1) (by omega) (by omega),q01 (z:=(N:Int)) (by omega) (by omega)]
     have:=i1 n (valid&&decide (x<N)) (acc++[pch N (x,y)]) p len h (by omega) (by rw[lA,List.length_singleton];omega)
     rw[show n+2-2*(d+1)=n-2*d by omega,List.all_cons,<-Bool.and_assoc,List.map_cons,show acc++pch N (x,y)::List.map (pch N) P=acc++[pch N (x,y)]++List.map (pch N) P by simp]
     exact this
    ·obtain⟨m,rfl⟩:∃m',m=m'+2:=⟨m-2,by omega⟩
     obtain⟨D',s1,s2⟩:=i2 m (stp w D (x,y)) (by omega) (by rw[qvw];exact hD)
     refine⟨D',?_,s2⟩
     rw[F140c2_eq,dT (by omega),cT,q1g hb (by omega),r1,oB]
     dsimp only
     rw[show(!decide (((0:Nat):Int)=0))=false from rfl,cF,q1g hb (by omega),r2,oB]
     dsimp only
     rw[show(!decide (((0:Nat):Int)=0))=false from rfl,cF]
     exact(z12n hD hN hw (by omega)).trans s1
    ·obtain⟨a1,a2,a3⟩:=i3 he
     exact⟨by rw[lC,a1],by omega,a3⟩
    ·obtain⟨⟨u,v⟩,Q,rfl⟩:∃z Q',Q=z::Q':=by
      cases Q with
      |nil=>cases h3
      |cons z Q'=>exact⟨z,Q',rfl⟩
     obtain⟨c1,c2⟩:=h4 (u,v) mS
     rw[qes]at h1 ⊢
     subst h2
     have d1:=q41 (b:=b) (pre:=A) (post:=q0f v++qcs Q++R) (x:=u) (by omega) (by rw[h1];simp only[aA]) c1
     rw[d1]at r1
     injection r1 with r1
     injection r1 with r1 _
     injection r1 with r1 r1'
     injection r1' with r1' _
     have hq1:q1=(A++q0f u).length:=by rw[lA];omega
     have hx1:x=u:=by omega
     have d2:=q41 (b:=b) (pre:=A++q0f u) (post:=qcs Q++R) (x:=v) (by omega) (by rw[h1];simp only[aA]) c2
     rw[<-hq1,r2]at d2
     injection d2 with r2
     injection r2 with r2 _
     injection r2 with r2 r2'
     injection r2' with r2' _
     obtain⟨z1,z2,z3⟩:=i4 (A++q0f u++q0f v) Q R (by rw[h1];simp only[aA]) (by rw[lA,<-hq1];omega) (by rw[lC]at h3;omega) (fun z hz=>h4 z (mC _ hz))
     refine⟨z1,?_,?_⟩
     ·rw[z2,hx1,show y=v by omega]
     ·simp only[lA]at hq1 ⊢
      omega
   ·refine⟨[],0,e2,fun n valid acc p len h hn hac=>?_,fun m D hm hD=>⟨D,?_,fun he=>absurd he he2⟩,fun he=>absurd he he2,fun A Q R h1 h2 h3 h4=>?_⟩
    ·obtain⟨n,rfl⟩:∃n',n=n'+1:=⟨n-1,by omega⟩
     rw[F72c13_eq,dT (by omega),cT,r1,oB]
     dsimp only
     rw[show(!decide (((0:Nat):Int)=0))=false from rfl,cF,r2,oB]
     dsimp only
     rw[ne0 he2,cT,if_neg he2]
    ·obtain⟨m,rfl⟩:∃m',m=m'+1:=⟨m-1,by omega⟩
     rw[F140c2_eq,dT (by omega),cT,q1g hb (by omega),r1,oB]
     dsimp only
     rw[show(!decide (((0:Nat):Int)=0))=false from rfl,cF,q1g hb (by omega),r2,oB]
     dsimp only
     rw[ne0 he2,cT,if_neg he2]
     rfl
    ·exfalso
     obtain⟨⟨u,v⟩,Q,rfl⟩:∃z Q',Q=z::Q':=by
      cases Q with
      |nil=>cases h3
      |cons z Q'=>exact⟨z,Q',rfl⟩
     obtain⟨c1,c2⟩:=h4 (u,v) mS
     rw[qes]at h1
     subst h2
     have d1:=q41 (b:=b) (pre:=A) (post:=q0f v++qcs Q++R) (x:=u) (by omega) (by rw[h1];simp only[aA]) c1
     rw[d1]at r1
     injection r1 with r1
     injection r1 with r1 _
     injection r1 with r1 r1'
     injection r1' with r1' _
     have hq1:q1=(A++q0f u).length:=by rw[lA];omega
     have d2:=q41 (b:=b) (pre:=A++q0f u) (post:=qcs Q++R) (x:=v) (by omega) (by rw[h1];simp only[aA]) c2
     rw[<-hq1,r2]at d2
     injection d2 with r2
     injection r2 with r2 _
     injection r2 with r2 r2'
     injection r2' with r2' r3'
     injection r3' with r3' _
     omega
  ·refine⟨[],0,e1,fun n valid acc p len h hn hac=>?_,fun m D hm hD=>⟨D,?_,fun he=>absurd he he1⟩,fun he=>absurd he he1,fun A Q R h1 h2 h3 h4=>?_⟩
   ·obtain⟨n,rfl⟩:∃n',n=n'+1:=⟨n-1,by omega⟩
    rw[F72c13_eq,dT (by omega),cT,r1,oB]
    dsimp only
    rw[ne0 he1,cT,if_neg he1]
   ·obtain⟨m,rfl⟩:∃m',m=m'+1:=⟨m-1,by omega⟩
    rw[F140c2_eq,dT (by omega),cT,q1g hb (by omega),r1,oB]
    dsimp only
    rw[ne0 he1,cT,if_neg he1]
    rfl
   ·exfalso
    obtain⟨⟨u,v⟩,Q,rfl⟩:∃z Q',Q=z::Q':=by
     cases Q with
     |nil=>cases h3
     |cons z Q'=>exact⟨z,Q',rfl⟩
    obtain⟨c1,c2⟩:=h4 (u,v) mS
    rw[qes]at h1
    subst h2
    have d1:=q41 (b:=b) (pre:=A) (post:=q0f v++qcs Q++R) (x:=u) (by omega) (by rw[h1];simp only[aA]) c1
    rw[d1]at r1
    injection r1 with r1
    injection r1 with r1 _
    injection r1 with r1 r1'
    injection r1' with r1' r2'
    injection r2' with r2' _
    omega
end Go.Proofs.Tryz
