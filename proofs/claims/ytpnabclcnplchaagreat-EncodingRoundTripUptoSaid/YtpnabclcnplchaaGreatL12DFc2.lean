/- Law 12: lists of texts with common heads, decoded. -/
import Derived.Test.YtpnabclcnplchaaGreatL12DFc
set_option linter.unusedVariables false
set_option linter.unusedSimpArgs false
namespace Go.Proofs.Tryz
open Go.Eng
theorem qie (l:List (List Int))(i:Nat):fcB l (i+1)=fcB l i++fcP (shr l i) (l.getD i []):=by
 rw[fcB,fcP]
 simp only[aA]
theorem qkg (l:List (List Int))(i:Nat):∀d,∃rest,fcB l (i+d)=fcB l i++rest
 |0=>⟨[],by rw[List.append_nil];rfl⟩
 |d+1=>by
  obtain⟨r,h⟩:=qkg l i d
  exact⟨r++fcP (shr l (i+d)) (l.getD (i+d) []),by rw[show i+(d+1)=i+d+1 from rfl,qie,h,aA]⟩
abbrev dtR:List RK:=[RK.own 9 Ty.str,RK.v (Ty.int .i64),RK.v (Ty.int .i64)]
theorem qtd {b:List Int}(hb:okB b)(hl:b.length<=1000000){N:Nat}(hN:N<=65536):∀(d i at_:Nat) (t:List Int),N-i=d->i<=N->at_<=b.length->byt t->t.length<=at_->
  ∃(W:List (List Int)) (q e:Nat),
   (∀(n:Nat) (acc:List (List Int)),d<n->acc.length<=i->F75c6 n b at_ t N i acc=if e=0 then some ((acc++W,((q:Int),((0:Int),()))),())else some (([],((0:Int),((e:Int),()))),()))/\
   (∀(n:Nat) (acc:List (List Int)),d<n->acc.length<=i->F78c6 n b at_ N t i acc=if e=0 then some ((acc++W,((q:Int),((0:Int),()))),())else some (([],((0:Int),((e:Int),()))),()))/\
   (e=0->W.length=d/\(∀w∈W,byt w)/\at_<=q/\q<=b.length)/\
   (∀A R l',b=A++fcB l' l'.length++R->A.length+(fcB l' i).length=at_->l'.length=N->(0<i->t=l'.getD (i-1) [])->e=0/\W=l'.drop i/\q=A.length+(fcB l' l'.length).length)
 | 0,i,at_,t,hd,hi,ha,ht,htl=>by
  have:i=N:=by omega
  subst this
  refine⟨[],at_,0,fun n acc hn hac=>?_,fun n acc hn hac=>?_,fun _=>⟨rfl,(fun w h=>by cases h),nR _,ha⟩,fun A R l' h1 h2 h3 h4=>⟨rfl,?_,?_⟩⟩
  ·obtain⟨n,rfl⟩:∃n',n=n'+1:=⟨n-1,by omega⟩
   rw[F75c6_eq,dF (by omega),cF,if_pos rfl,List.append_nil]
  ·obtain⟨n,rfl⟩:∃n',n=n'+1:=⟨n-1,by omega⟩
   rw[F78c6_eq,dF (by omega),cF,if_pos rfl,List.append_nil]
  ·rw[List.drop_of_length_le (by omega)]
  ·rw[h3,h2]
 | d+1,i,at_,t,hd,hi,ha,ht,htl=>by
  obtain⟨s,q1,e1,r1,r2,g1,g2,g3⟩:=quj hb hl (at_:=at_) (i:=i) ht htl ha
  have key:∀A R l',b=A++fcB l' l'.length++R->A.length+(fcB l' i).length=at_->l'.length=N->(0<i->t=l'.getD (i-1) [])->e1=0/\s=l'.getD i []/\q1=A.length+(fcB l' (i+1)).length:=by
   intro A R l' h1 h2 h3 h4
   obtain⟨rest,hr⟩:=qkg l' (i+1) (N-(i+1))
   rw[show i+1+(N-(i+1))=N by omega,qie]at hr
   have hb':b=(A++fcB l' i)++fcP (shr l' i) (l'.getD i [])++(rest++R):=by rw[h1,h3,hr];simp only[aA]
   obtain⟨u1,u2,u3⟩:=g3 (A++fcB l' i) (rest++R) (l'.getD i []) (shr l' i) hb' (by rw[lA];exact h2) (by
    unfold shr
    by_cases h:i%16=0
    ·rw[if_pos h,if_pos h]
    ·rw[if_neg h,if_neg h,h4 (by omega)])
   exact⟨u1,u2,by rw[u3,qie,lA];omega⟩
  rcases Decidable.em (e1≠0)with he1|he1
  ·refine⟨[],0,e1,fun n acc hn hac=>?_,fun n acc hn hac=>?_,fun h=>absurd h he1,fun A R l' h1 h2 h3 h4=>absurd (key A R l' h1 h2 h3 h4).1 he1⟩
   ·obtain⟨n,rfl⟩:∃n',n=n'+1:=⟨n-1,by omega⟩
    rw[F75c6_eq,dT (by omega),cT,r1,oB]
    dsimp only
    rw[ne0 he1,cT,if_neg he1]
   ·obtain⟨n,rfl⟩:∃n',n=n'+1:=⟨n-1,by omega⟩
    rw[F78c6_eq,dT (by omega),cT,r2,oB]
    dsimp only
    rw[ne0 he1,cT,if_neg he1]
  ·have he1:=Decidable.not_not.1 he1
   subst he1
   obtain⟨k1,k2,k3,k4⟩:=g1 rfl
   obtain⟨W,q,e,i1,i2,i3,i4⟩:=qtd hb hl hN d (i+1) q1 s (by omega) (by omega) k3 k1 k2
   refine⟨s::W,q,e,fun n acc hn hac=>?_,fun n acc hn hac=>?_,fun he=>?_,fun A R l' h1 h2 h3 h4=>?_⟩
   ·obtain⟨n,rfl⟩:∃n',n=n'+1:=⟨n-1,by omega⟩
    have:=i1 n (acc++[s]) (by omega) (by rw[lA,List.length_singleton];omega)
    rw[F75c6_eq,dT (by omega),cT,r1,oB]
    dsimp only
    rw[show(!decide (((0:Nat):Int)=0))=false from rfl,cF,if_pos (by simp only[lim];omega),q00 (z:=(i:Int)+1) (by omega) (by omega),show acc++s::W=acc++[s]++W by simp]
    exact this
   ·obtain⟨n,rfl⟩:∃n',n=n'+1:=⟨n-1,by omega⟩
    have:=i2 n (acc++[s]) (by omega) (by rw[lA,List.length_singleton];omega)
    rw[F78c6_eq,dT (by omega),cT,r2,oB]
    dsimp only
    rw[show(!decide (((0:Nat):Int)=0))=false from rfl,cF,if_pos (by simp only[lim];omega),q00 (z:=(i:Int)+1) (by omega) (by omega),show acc++s::W=acc++[s]++W by simp]
    exact this
   ·obtain⟨a1,a2,a3,a4⟩:=i3 he
    refine⟨by rw[lC,a1],fun w hw=>?_,by omega,a4⟩
    rcases List.mem_cons.1 hw with rfl|hw
    ·exact k1
    ·exact a2 w hw
   ·obtain⟨_,u2,u3⟩:=key A R l' h1 h2 h3 h4
    obtain⟨v1,v2,v3⟩:=i4 A R l' h1 u3.symm h3 (fun _=>by rw[u2];rfl)
    refine⟨v1,?_,v3⟩
    rw[v2,u2,List.drop_eq_getElem_cons (by omega:i<l'.length),gQ,gE (by omega:i<l'.length)]
    rfl
theorem qr1 {b:List Int}(hb:okB b)(hl:b.length<=1000000){p N:Nat}(hp:p<=b.length)(hN:N<=65536):
  ∃(W:List (List Int)) (q e:Nat),F75.run frA dtR 4000000 (b,(p:Int),(N:Int),())=some ((W,((q:Int),((e:Int),()))),())/\F78.run frA dtR 4000000 (b,(p:Int),(N:Int),())=some ((W,((q:Int),((e:Int),()))),())/\
   (e=0->W.length=N/\(∀w∈W,byt w)/\p<=q/\q<=b.length)/\(e≠0->W=[]/\q=0)/\
   (∀A R l',b=A++fcB l' l'.length++R->A.length=p->l'.length=N->e=0/\W=l'/\q=p+(fcB l' l'.length).length):=by
 obtain⟨W,q,e,i1,i2,i3,i4⟩:=qtd hb hl hN N 0 p [] rfl (by omega) hp (fun x h=>by cases h) (by simp)
 rw[show F75.run frA dtR 4000000 (b,(p:Int),(N:Int),())=_ from(F75_run _ _ _ _).trans (F75c1_eq 3999999 _ _ _),show F78.run frA dtR 4000000 (b,(p:Int),(N:Int),())=_ from(F78_run _ _ _ _).trans (F78c1_eq 3999999 _ _ _)]
 rw[show F130.run _ _ 4000000 (b,(p:Int),(N:Int),())=_ from F130_run _ _ _ _,dT (show(0:Int)<=(p:Int) by omega),dT (show(p:Int)<=(b.length:Int) by omega),dT (show(0:Int)<=(N:Int) by omega),dT (show(N:Int)<=65536 by omega),cT,cT,cT,oB]
 dsimp only
 rw[nT,cF,dF (show¬(p:Int)<0 by omega),cF,dF (show¬(b.length:Int)<(p:Int) by omega),cF,dF (show¬(N:Int)<0 by omega),cF,dF (show¬(65536:Int)<(N:Int) by omega),cF,F78c3_eq (n:=3999998)]
 have h1:=i1 3999999 [] (by omega) (by simp)
 have h2:=i2 3999998 [] (by omega) (by simp)
 rw[show F75c6 3999999 b (p:Int) [] (N:Int) (0:Int) []=_ from h1,show F78c6 3999998 b (p:Int) (N:Int) [] (0:Int) []=_ from h2,List.nil_append]
 by_cases he:e=0
 ·subst he
  rw[if_pos rfl]
  refine⟨W,q,0,rfl,rfl,fun _=>i3 rfl,fun h=>absurd rfl h,fun A R l' t1 t2 t3=>?_⟩
  obtain⟨u1,u2,u3⟩:=i4 A R l' t1 (by rw[fcB];exact t2) t3 (fun h=>by omega)
  exact⟨rfl,by rw[u2,List.drop_zero],by rw[u3,t2]⟩
 ·rw[if_neg he]
  refine⟨[],0,e,rfl,rfl,fun h=>absurd h he,fun _=>⟨rfl,rfl⟩,fun A R l' t1 t2 t3=>?_⟩
  exact absurd (i4 A R l' t1 (by rw[fcB];exact t2) t3 (fun h=>by omega)).1 he
end Go.Proofs.Tryz
