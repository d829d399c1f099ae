/- Law 12: plain values and runs, decoded. -/
import Derived.Test.YtpnabclcnplchaaGreatL12DFc2
set_option linter.unusedVariables false
set_option linter.unusedSimpArgs false
namespace Go.Proofs.Tryz
open Go.Eng
open IntKind (i64 u64 u8)
theorem qlv (l:List (List Int))(i:Nat):∀d,∃rest,txB l (i+d)=txB l i++rest
 |0=>⟨[],by rw[List.append_nil];rfl⟩
 |d+1=>by
  obtain⟨r,h⟩:=qlv l i d
  exact⟨r++(q0f (l.getD (i+d) []).length++l.getD (i+d) []),by rw[show i+(d+1)=i+d+1 from rfl,txB,h];simp only[aA]⟩
theorem qw2 {b:List Int}(hb:okB b)(hl:b.length<=100000000){N:Nat}(hN:N<=65536):∀(d i at_:Nat),N-i=d->i<=N->at_<=b.length->
  ∃(W:List (List Int)) (q e:Nat),
   (∀(n:Nat) (acc:List (List Int)),d<n->acc.length<=i->F70c4 n b at_ N i acc=if e=0 then some ((acc++W,((q:Int),((0:Int),()))),())else some (([],((0:Int),((e:Int),()))),()))/\
   (∀(n:Nat) (acc:List (List Int)),d<n->acc.length<=i->F76c3 n b at_ N i acc=if e=0 then some ((acc++W,((q:Int),((0:Int),()))),())else some (([],((0:Int),((e:Int),()))),()))/\
   (e=0->W.length=d/\okT W/\at_<=q/\q<=b.length)/\
   (∀A R l',b=A++txB l' l'.length++R->A.length+(txB l' i).length=at_->l'.length=N->okT l'->(∀w∈l',byt w)->e=0/\W=l'.drop i/\q=A.length+(txB l' l'.length).length)
 | 0,i,at_,hd,hi,ha=>by
  have:i=N:=by omega
  subst this
  refine⟨[],at_,0,fun n acc hn hac=>?_,fun n acc hn hac=>?_,fun _=>⟨rfl,(fun w h=>by cases h),nR _,ha⟩,fun A R l' h1 h2 h3 h4 h5=>⟨rfl,?_,?_⟩⟩
  ·obtain⟨n,rfl⟩:∃n',n=n'+1:=⟨n-1,by omega⟩
   rw[F70c4_eq,dF (by omega),cF,if_pos rfl,List.append_nil]
  ·obtain⟨n,rfl⟩:∃n',n=n'+1:=⟨n-1,by omega⟩
   rw[F76c3_eq,dF (by omega),cF,if_pos rfl,List.append_nil]
  ·rw[List.drop_of_length_le (by omega)]
  ·rw[h3,h2]
 | d+1,i,at_,hd,hi,ha=>by
  obtain⟨x,q1,e1,r1,_,g1,_⟩:=q38 hb (by omega) (at_:Int)
  have key:∀A R l',b=A++txB l' l'.length++R->A.length+(txB l' i).length=at_->l'.length=N->okT l'->(∀w∈l',byt w)->e1=0/\x=(l'.getD i []).length/\q1+x=A.length+(txB l' (i+1)).length/\x<=4096/\q1+x<=b.length/\slice b q1 (q1+x)=l'.getD i []:=by
   intro A R l' h1 h2 h3 h4 h5
   obtain⟨rest,hr⟩:=qlv l' (i+1) (N-(i+1))
   rw[show i+1+(N-(i+1))=N by omega,txB]at hr
   have hg:=q5l h4 i
   have hb':b=(A++txB l' i)++q0f (l'.getD i []).length++(l'.getD i []++(rest++R)):=by rw[h1,h3,hr];simp only[aA]
   have d1:=q41 (by omega) hb' (by omega)
   rw[lA,h2]at d1
   obtain⟨u1,u2,u3⟩:=q2p (e':=0) r1 d1
   have hb2:b=(A++txB l' i++q0f (l'.getD i []).length)++l'.getD i []++(rest++R):=by rw[hb'];simp only[aA]
   have hq:(A++txB l' i++q0f (l'.getD i []).length).length=q1:=by simp only[lA];omega
   have h7:=q3o (A:=A++txB l' i++q0f (l'.getD i []).length) (M:=l'.getD i []) (R:=rest++R)
   rw[<-hb2,hq,<-u1]at h7
   have hlen:=congrArg List.length hb2
   simp only[lA]at hlen hq
   refine⟨u3,u1,?_,by omega,by omega,h7⟩
   rw[txB]
   simp only[lA]
   omega
  rcases Decidable.em (e1≠0)with he1|he1
  ·refine⟨[],0,e1,fun n acc hn hac=>?_,fun n acc hn hac=>?_,fun h=>absurd h he1,fun A R l' h1 h2 h3 h4 h5=>absurd (key A R l' h1 h2 h3 h4 h5).1 he1⟩
   ·obtain⟨n,rfl⟩:∃n',n=n'+1:=⟨n-1,by omega⟩
    rw[F70c4_eq,dT (by omega),cT,r1,oB]
    dsimp only
    rw[ne0 he1,cT,if_neg he1]
   ·obtain⟨n,rfl⟩:∃n',n=n'+1:=⟨n-1,by omega⟩
    rw[F76c3_eq,dT (by omega),cT,q1g hb (by omega),r1,oB]
    dsimp only
    rw[ne0 he1,cT,if_neg he1]
  have he1:=Decidable.not_not.1 he1
  subst he1
  obtain⟨k1,k2,k3⟩:=g1 rfl
  by_cases hx:4096<x
  ·refine⟨[],0,3,fun n acc hn hac=>?_,fun n acc hn hac=>?_,fun h=>by omega,fun A R l' h1 h2 h3 h4 h5=>?_⟩
   ·obtain⟨n,rfl⟩:∃n',n=n'+1:=⟨n-1,by omega⟩
    rw[F70c4_eq,dT (by omega),cT,r1,oB]
    dsimp only
    rw[show(!decide (((0:Nat):Int)=0))=false from rfl,cF,dT (show(4096:Int)<(x:Int) by omega),cT]
    rfl
   ·obtain⟨n,rfl⟩:∃n',n=n'+1:=⟨n-1,by omega⟩
    rw[F76c3_eq,dT (by omega),cT,q1g hb (by omega),r1,oB]
    dsimp only
    rw[show(!decide (((0:Nat):Int)=0))=false from rfl,cF,dT (show(4096:Int)<(x:Int) by omega),cT]
    rfl
   ·have:=key A R l' h1 h2 h3 h4 h5
    omega
  have hwl:i64.wrap ((b.length:Int)-(q1:Int))=(b.length:Int)-(q1:Int):=q00 (by omega) (by omega)
  by_cases hs:b.length-q1<x
  ·refine⟨[],0,2,fun n acc hn hac=>?_,fun n acc hn hac=>?_,fun h=>by omega,fun A R l' h1 h2 h3 h4 h5=>?_⟩
   ·obtain⟨n,rfl⟩:∃n',n=n'+1:=⟨n-1,by omega⟩
    rw[F70c4_eq,dT (by omega),cT,r1,oB]
    dsimp only
    rw[show(!decide (((0:Nat):Int)=0))=false from rfl,cF,dF (show¬(4096:Int)<(x:Int) by omega),cF,hwl,q00 (z:=(x:Int)) (by omega) (by omega),dT (show(b.length:Int)-(q1:Int)<(x:Int) by omega),cT]
    rfl
   ·obtain⟨n,rfl⟩:∃n',n=n'+1:=⟨n-1,by omega⟩
    rw[F76c3_eq,dT (by omega),cT,q1g hb (by omega),r1,oB]
    dsimp only
    rw[show(!decide (((0:Nat):Int)=0))=false from rfl,cF,dF (show¬(4096:Int)<(x:Int) by omega),cF,hwl,q00 (z:=(x:Int)) (by omega) (by omega),dT (show(b.length:Int)-(q1:Int)<(x:Int) by omega),cT]
    rfl
   ·have:=key A R l' h1 h2 h3 h4 h5
    omega
  have e2:i64.wrap ((q1:Int)+(x:Int))=((q1+x:Nat):Int):=by rw[q00 (by omega) (by omega)];omega
  have hsb:=q4b hb q1 (q1+x)
  have hsl:=q1p (b:=b) (p:=q1) (q:=q1+x) (by omega)
  obtain⟨W,q,e,i1,i2,i3,i4⟩:=qw2 hb hl hN d (i+1) (q1+x) (by omega) (by omega) (by omega)
  refine⟨slice b q1 (q1+x)::W,q,e,fun n acc hn hac=>?_,fun n acc hn hac=>?_,fun he=>?_,fun A R l' h1 h2 h3 h4 h5=>?_⟩
  ·obtain⟨n,rfl⟩:∃n',n=n'+1:=⟨n-1,by omega⟩
   have:=i1 n (acc++[slice b q1 (q1+x)]) (by omega) (by rw[lA,List.length_singleton];omega)
   rw[F70c4_eq,dT (by omega),cT,r1,oB]
   dsimp only
   rw[show(!decide (((0:Nat):Int)=0))=false from rfl,cF,dF (show¬(4096:Int)<(x:Int) by omega),cF,hwl,q00 (z:=(x:Int)) (by omega) (by omega),dF (show¬(b.length:Int)-(q1:Int)<(x:Int) by omega),cF,
    e2,if_pos (show(0:Int)<=(q1:Int) by omega),if_pos (show(q1:Int)<=((q1+x:Nat):Int) by omega),if_pos (show((q1+x:Nat):Int)<=(b.length:Int) by omega),if_pos (by simp only[lim];omega),q00 (z:=(i:Int)+1) (by omega) (by omega),tN,tN,
    show List.drop q1 (List.take (q1+x) b)=slice b q1 (q1+x)from rfl,q5d hsb,show acc++slice b q1 (q1+x)::W=acc++[slice b q1 (q1+x)]++W by simp]
   exact this
  ·obtain⟨n,rfl⟩:∃n',n=n'+1:=⟨n-1,by omega⟩
   have:=i2 n (acc++[slice b q1 (q1+x)]) (by omega) (by rw[lA,List.length_singleton];omega)
   rw[F76c3_eq,dT (by omega),cT,q1g hb (by omega),r1,oB]
   dsimp only
   rw[show(!decide (((0:Nat):Int)=0))=false from rfl,cF,dF (show¬(4096:Int)<(x:Int) by omega),cF,hwl,q00 (z:=(x:Int)) (by omega) (by omega),dF (show¬(b.length:Int)-(q1:Int)<(x:Int) by omega),cF,
    e2,if_pos (show(0:Int)<=(q1:Int) by omega),if_pos (show(q1:Int)<=((q1+x:Nat):Int) by omega),if_pos (show((q1+x:Nat):Int)<=(b.length:Int) by omega),if_pos (by simp only[lim];omega),q00 (z:=(i:Int)+1) (by omega) (by omega),tN,tN,
    show List.drop q1 (List.take (q1+x) b)=slice b q1 (q1+x)from rfl,q5d hsb,show acc++slice b q1 (q1+x)::W=acc++[slice b q1 (q1+x)]++W by simp]
   exact this
  ·obtain⟨a1,a2,a3,a4⟩:=i3 he
   refine⟨by rw[lC,a1],fun w hw=>?_,by omega,a4⟩
   rcases List.mem_cons.1 hw with rfl|hw
   ·omega
   ·exact a2 w hw
  ·obtain⟨_,u2,u3,_,_,u4⟩:=key A R l' h1 h2 h3 h4 h5
   obtain⟨v1,v2,v3⟩:=i4 A R l' h1 u3.symm h3 h4 h5
   refine⟨v1,?_,v3⟩
   rw[v2,u4,List.drop_eq_getElem_cons (by omega:i<l'.length),gQ,gE (by omega:i<l'.length)]
   rfl
abbrev frB:List PK:=[PK.v (Ty.int u8).sl,PK.v (Ty.int .i64)]
theorem z138 {b:List Int}(hb:okB b)(hl:b.length<=100000000){N:Nat}(h1:1<=b.length)(hN:N<=65536):
  ∃(W:List (List Int)) (q e:Nat),F70.run frB dtR 4000000 (b,(N:Int),())=some ((W,((q:Int),((e:Int),()))),())/\F76.run frA dtR 4000000 (b,(1:Int),(N:Int),())=some ((W,((q:Int),((e:Int),()))),())/\
   (e=0->W.length=N/\okT W/\1<=q/\q<=b.length)/\(e≠0->W=[]/\q=0)/\
   (∀A R l',b=A++txB l' l'.length++R->A.length=1->l'.length=N->okT l'->(∀w∈l',byt w)->e=0/\W=l'/\q=1+(txB l' l'.length).length):=by
 obtain⟨W,q,e,i1,i2,i3,i4⟩:=qw2 hb hl hN N 0 1 rfl (by omega) h1
 rw[show F70.run frB dtR 4000000 (b,(N:Int),())=_ from(F70_run _ _ _).trans (F70c1_eq 3999999 _ _),show F76.run frA dtR 4000000 (b,(1:Int),(N:Int),())=_ from(F76_run _ _ _ _).trans (F76c1_eq 3999999 _ _ _)]
 have h1:=i1 3999999 [] (by omega) (by simp)
 have h2:=i2 3999999 [] (by omega) (by simp)
 rw[show F70c4 3999999 b (1:Int) (N:Int) (0:Int) []=_ from h1,show F76c3 3999999 b (1:Int) (N:Int) (0:Int) []=_ from h2,List.nil_append]
 by_cases he:e=0
 ·subst he
  rw[if_pos rfl]
  refine⟨W,q,0,rfl,rfl,fun _=>i3 rfl,fun h=>absurd rfl h,fun A R l' t1 t2 t3 t4 t5=>?_⟩
  obtain⟨u1,u2,u3⟩:=i4 A R l' t1 (by rw[txB];exact t2) t3 t4 t5
  exact⟨rfl,by rw[u2,List.drop_zero],by rw[u3,t2]⟩
 ·rw[if_neg he]
  refine⟨[],0,e,rfl,rfl,fun h=>absurd h he,fun _=>⟨rfl,rfl⟩,fun A R l' t1 t2 t3 t4 t5=>?_⟩
  exact absurd (i4 A R l' t1 (by rw[txB];exact t2) t3 t4 t5).1 he
/-! Numbers of eight bytes. -/
theorem qlz (y:Int):∀X:List Int,q2g (X++[y])=q2g X+y.toNat*256^X.length
 |[]=>by simp[q2g]
 |x::X=>by
  rw[List.cons_append,q2g,q2g,qlz y X,lC,Nat.pow_succ,Nat.mul_add]
  have:256*(y.toNat*256^X.length)=y.toNat*(256^X.length*256):=by rw[Nat.mul_left_comm,Nat.mul_comm 256]
  omega
theorem qrr {b:List Int}{p q:Nat}(hpq:p<=q)(hq:q<b.length):slice b p (q+1)=slice b p q++[b.getD q 0]:=by
 unfold slice
 rw[List.take_succ_eq_append_getElem hq,List.drop_append_of_le_length (by rw[lT];omega),gQ,gE hq]
 rfl
theorem qrq {b:List Int}{p q:Nat}(hpq:p<q)(hq:q<=b.length):slice b p q=b.getD p 0::slice b (p+1) q:=by
 unfold slice
 rw[List.drop_eq_getElem_cons (by rw[lT];omega),List.getElem_take,gQ,gE (by omega)]
 rfl
theorem z15z {b:List Int}(hb:okB b)(hl:b.length<=100000000){a:Nat}(ha:a+8<=b.length):∀(d j n:Nat),8-j=d->j<=8->d<n->
  F120c7 n b a ((q2g (slice b a (a+j)):Nat):Int) (8:Int) j=some ((((q2g (slice b a (a+8)):Nat):Int),((0:Int),())),())
 |0,j,n,hd,hj,hn=>by
  obtain⟨n,rfl⟩:∃n',n=n'+1:=⟨n-1,by omega⟩
  rw[F120c7_eq,dF (by omega),cF,show j=8 by omega]
 | d+1,j,n,hd,hj,hn=>by
  obtain⟨n,rfl⟩:∃n',n=n'+1:=⟨n-1,by omega⟩
  have ih:=z15z hb hl ha d (j+1) n (by omega) (by omega) (by omega)
  obtain⟨c,hc,hc8⟩:=hb (a+j) (by omega)
  have hlt:=qjf (b:=slice b a (a+j)) (q4b hb _ _)
  rw[q1p (by omega),show a+j-a=j by omega]at hlt
  have hp:(256:Nat)^j=2^(8*j):=by rw[Nat.pow_mul]
  have hp8:(256:Nat)^j<=256^7:=Nat.pow_le_pow_right (by decide) (by omega)
  have h7:(256:Nat)^7=72057594037927936:=by decide
  have hcm:c*256^j<=255*256^7:=Nat.mul_le_mul (by omega) hp8
  rw[show a+(j+1)=a+j+1 from rfl,qrr (by omega) (by omega),hc,qlz,tN,q1p (by omega),show a+j-a=j by omega]at ih
  rw[F120c7_eq,dT (by omega),cT,q00 (z:=(a:Int)+(j:Int)) (by omega) (by omega),<-Int.natCast_add,if_pos (by omega),if_pos (by omega),q00 (z:=(8:Int)*(j:Int)) (by omega) (by omega),if_pos (by omega),tN,hc,
   q01 (z:=(c:Int)) (by omega) (by omega),show(8:Int)*(j:Int)=((8*j:Nat):Int) by omega,tN,show u64.bits=64 from rfl,Nat.min_eq_left (by omega),q34,<-Int.natCast_mul,<-hp,q01 (by omega) (by omega),qh2 (by omega) (by omega),hp,qay (by rw[<-hp];exact hlt),<-hp,q00 (z:=(j:Int)+1) (by omega) (by omega)]
  exact ih
abbrev rdP:List PK:=[PK.v (Ty.int u8).sl,PK.v (Ty.int .i64),PK.v (Ty.int .i64)]
abbrev rdQ:List RK:=[RK.v (Ty.int u64),RK.v (Ty.int .i64)]
theorem z160 {b:List Int}(hb:okB b)(hl:b.length<=100000000){a:Nat}(ha:a+8<=b.length):F120.run rdP rdQ 4000000 (b,(a:Int),(8:Int),())=some ((((q2g (slice b a (a+8)):Nat):Int),((0:Int),())),()):=by
 rw[show F120.run rdP rdQ 4000000 (b,(a:Int),(8:Int),())=_ from F120_run _ _ _ _,dF (by omega),cF,dF (by omega),cF,dF (by omega),cF,dF (by omega),cF,F120c3_eq (n:=3999999),q00 (by omega) (by omega),dF (by omega),cF]
 have:=z15z hb hl ha 8 0 3999999 (by omega) (by omega) (by omega)
 rw[Nat.add_zero,show slice b a a=[]from List.eq_nil_of_length_eq_zero (by rw[q1p (by omega)];omega)]at this
 exact this
theorem z103 {b:List Int}(hb:okB b)(hl:b.length<=100000000){a:Nat}(ha:a+8<=b.length):∀(i n:Nat),i<=8->i<n->
  F138c7 n b a ((q2g (slice b (a+i) (a+8)):Nat):Int) ((i:Int)-1)=some ((((q2g (slice b a (a+8)):Nat):Int),((0:Int),())),())
 |0,n,hi,hn=>by
  obtain⟨n,rfl⟩:∃n',n=n'+1:=⟨n-1,by omega⟩
  rw[F138c7_eq,dF (by omega),cF]
  rfl
 | i+1,n,hi,hn=>by
  obtain⟨n,rfl⟩:∃n',n=n'+1:=⟨n-1,by omega⟩
  have ih:=z103 hb hl ha i n (by omega) (by omega)
  obtain⟨c,hc,hc8⟩:=hb (a+i) (by omega)
  have hlt:=qjf (b:=slice b (a+(i+1)) (a+8)) (q4b hb _ _)
  have hp8:(256:Nat)^(slice b (a+(i+1)) (a+8)).length<=256^7:=Nat.pow_le_pow_right (by decide) (by rw[q1p (by omega)];omega)
  have h7:(256:Nat)^7=72057594037927936:=by decide
  rw[qrq (p:=a+i) (by omega) (by omega),hc,q2g,tN,show a+i+1=a+(i+1)from rfl]at ih
  generalize q2g (slice b (a+(i+1)) (a+8))=V at hlt ih ⊢
  rw[F138c7_eq,dT (by omega),cT,show(((i+1:Nat):Int)-1)=(i:Int) by omega,q00 (z:=(a:Int)+(i:Int)) (by omega) (by omega),<-Int.natCast_add,if_pos (by omega),if_pos (by omega),tN,hc,
   q01 (z:=(c:Int)) (by omega) (by omega),show(V:Int)*256=((V*256:Nat):Int) by omega,q01 (z:=((V*256:Nat):Int)) (by omega) (by omega),<-Int.natCast_add,q01 (by omega) (by omega),q00 (z:=(i:Int)-1) (by omega) (by omega),show V*256+c=c+256*V by omega]
  exact ih
theorem z12r {b:List Int}(hb:okB b)(hl:b.length<=100000000){a:Nat}(ha:a+8<=b.length):F138.run rdP rdQ 4000000 (b,(a:Int),(8:Int),())=some ((((q2g (slice b a (a+8)):Nat):Int),((0:Int),())),()):=by
 rw[show F138.run rdP rdQ 4000000 (b,(a:Int),(8:Int),())=_ from F138_run _ _ _ _,dF (by omega),cF,dF (by omega),cF,dF (by omega),cF,dF (by omega),cF,F138c3_eq (n:=3999999),q00 (by omega) (by omega),dF (by omega),cF,q00 (by omega) (by omega)]
 have:=z103 hb hl ha 8 3999999 (by omega) (by omega)
 rw[show slice b (a+8) (a+8)=[]from List.eq_nil_of_length_eq_zero (by rw[q1p (by omega)];omega)]at this
 exact this
end Go.Proofs.Tryz
