/- Law 12: differences, decoded. -/
import Derived.Test.YtpnabclcnplchaaGreatL12DFr3
set_option linter.unusedVariables false
set_option linter.unusedSimpArgs false
namespace Go.Proofs.Tryz
open Go.Eng
open IntKind (i64 u64 u8)
/-! Sums. -/
def sm (x:Int)(l:List Int):Nat->Int
 |0=>x
 |i+1=>i64.wrap (sm x l i+l.getD i 0)
def ql5 (x:Int)(l:List Int):List Int:=(List.range (l.length+1)).map (sm x l)
theorem qdz (x:Int)(l:List Int):(ql5 x l).length=l.length+1:=by simp[ql5]
theorem z12h {x:Int}(h1:-9223372036854775808<=x/\x<9223372036854775808)(l:List Int):okL (ql5 x l):=by
 intro y hy
 obtain⟨i,_,rfl⟩:=List.mem_map.1 hy
 cases i with
 |zero=>exact h1
 |succ i=>exact q3y _
theorem qng {l:List Int}(hx:okL l)(h:0<l.length):ql5 (l.getD 0 0) (dl l)=l:=by
 have key:∀i,i<l.length->sm (l.getD 0 0) (dl l) i=l.getD i 0:=by
  intro i
  induction i with
  |zero=>intro _;rfl
  |succ i ih=>
   intro hi
   have hg:=q4v hx hi
   rw[sm,ih (by omega),dl,q31 (by omega)]
   unfold dif2
   exact qm0 hg.1 hg.2
 refine List.ext_getElem (by rw[qdz,q82];omega) fun j h1 h2=>?_
 have hj:(ql5 (l.getD 0 0) (dl l))[j]=sm (l.getD 0 0) (dl l) j:=by simp[ql5]
 rw[hj,key j h2,gQ,gE h2]
 rfl
theorem qv2 {x:Int}{l:List Int}(hl:l.length<=1000000):∀(d i n:Nat),l.length-i=d->i<=l.length->d<n->
  F126c4 n (sm x l i) l (l.length:Int) i ((List.range (i+1)).map (sm x l))=some ((ql5 x l,()),())
 |0,i,n,hd,hi,hn=>by
  obtain⟨n,rfl⟩:∃n',n=n'+1:=⟨n-1,by omega⟩
  have:i=l.length:=by omega
  subst this
  rw[F126c4_eq,dF (by omega),cF]
  rfl
 |d+1,i,n,hd,hi,hn=>by
  obtain⟨n,rfl⟩:∃n',n=n'+1:=⟨n-1,by omega⟩
  rw[F126c4_eq,dT (by omega),cT,if_pos (by omega),if_pos (by omega),if_pos (by simp only[List.length_map,List.length_range,lim];omega),tN,q00 (z:=(i:Int)+1) (by omega) (by omega),show i64.wrap (sm x l i+l.getD i 0)=sm x l (i+1)from rfl,<-q2y]
  exact qv2 hl d (i+1) n (by omega) (by omega) (by omega)
theorem qy3 {x:Int}{l:List Int}(hl:l.length<=1000000):F126.run Pk1q qo2 4000000 (x,l,())=some ((ql5 x l,()),()):=by
 rw[show F126.run Pk1q qo2 4000000 (x,l,())=_ from(F126_run _ _ _).trans (F126c1_eq 3999999 _ _),q00 (z:=(l.length:Int)+1) (by omega) (by omega),if_pos (show((Int.toNat (1:Int):Nat):Int)<=(l.length:Int)+1 by
  rw[show Int.toNat (1:Int)=1 from rfl];omega),if_pos (by simp only[lim];omega)]
 exact qv2 hl l.length 0 3999999 (by omega) (by omega) (by omega)
theorem qpo {x:Int}{l:List Int}(hl:l.length<=1000000):∀(d i n:Nat),l.length-i=d->i<=l.length->d<n->
  F143c3 n l i ((List.range (i+1)).map (sm x l))=some ((ql5 x l,()),())
 |0,i,n,hd,hi,hn=>by
  obtain⟨n,rfl⟩:∃n',n=n'+1:=⟨n-1,by omega⟩
  have:i=l.length:=by omega
  subst this
  rw[F143c3_eq,dF (by omega),cF]
  rfl
 |d+1,i,n,hd,hi,hn=>by
  obtain⟨n,rfl⟩:∃n',n=n'+1:=⟨n-1,by omega⟩
  have hlen:((List.range (i+1)).map (sm x l)).length=i+1:=by simp
  rw[F143c3_eq,dT (by omega),cT,if_pos (by omega),if_pos (by rw[hlen];omega),if_pos (by omega),if_pos (by omega),if_pos (by rw[hlen];simp only[lim];omega),tN,q31 (by omega),q00 (z:=(i:Int)+1) (by omega) (by omega),show i64.wrap (sm x l i+l.getD i 0)=sm x l (i+1)from rfl,<-q2y]
  exact qpo hl d (i+1) n (by omega) (by omega) (by omega)
theorem qvg {x:Int}{l:List Int}(hl:l.length<=1000000):F143.run Pk1q qo2 4000000 (x,l,())=some ((ql5 x l,()),()):=by
 rw[show F143.run Pk1q qo2 4000000 (x,l,())=_ from(F143_run _ _ _).trans (F143c1_eq 3999999 _ _)]
 exact qpo hl l.length 0 3999999 (by omega) (by omega) (by omega)
def ups (H l:List Int):List Int:=H.foldr ql5 l
theorem qw5 (l:List Int):∀H,(ups H l).length=H.length+l.length
 |[]=>by simp[ups]
 |a::H=>by
  have:=qw5 l H
  show(ql5 a (ups H l)).length=_
  rw[qdz,this,lC]
  omega
theorem z17a {l:List Int}(hl:okL l):∀{H:List Int},okL H->okL (ups H l)
 |[],_=>hl
 |a::H,h=>z12h (h a mS) _
theorem qqc (H:List Int)(x:Int)(l:List Int):ups (H++[x]) l=ups H (ql5 x l):=by
 unfold ups
 rw[List.foldr_append]
 rfl
/-! What an encoding is made of. -/
theorem qsx {l:List Int}(hx:okL l):∃(k:Nat) (Hs rest:List Int),dlE l=(k:Int)::(hzs Hs++frE rest)/\(k=1\/k=2/\2<=l.length)/\Hs.length=min k l.length/\rest.length=l.length-Hs.length/\okL Hs/\okL rest/\ups Hs rest=l:=by
 have one:∃(k:Nat) (Hs rest:List Int),df1 l=(k:Int)::(hzs Hs++frE rest)/\(k=1\/k=2/\2<=l.length)/\Hs.length=min k l.length/\rest.length=l.length-Hs.length/\okL Hs/\okL rest/\ups Hs rest=l:=by
  refine⟨1,l.take 1,dl l,rfl,.inl rfl,by rw[lT],by rw[q82,lT];omega,qdy hx 1,qbw l,?_⟩
  rcases Nat.eq_zero_or_pos l.length with h|h
  ·rw[List.eq_nil_of_length_eq_zero h]
   rfl
  ·rw[z14l h]
   exact qng hx h
 unfold dlE
 split
 ·exact one
 ·split
  ·have hd:0<(dl l).length:=by rw[q82];omega
   refine⟨2,[l.getD 0 0,(dl l).getD 0 0],dl (dl l),rfl,.inr ⟨rfl,by omega⟩,by simp only[lC,List.length_nil];omega,by rw[q82,q82];simp only[lC,List.length_nil];omega,?_,qbw _,?_⟩
   ·intro x h
    rcases List.mem_cons.1 h with rfl|h
    ·exact q4v hx (by omega)
    ·rcases List.mem_cons.1 h with rfl|h
     ·exact q4v (qbw l) hd
     ·cases h
   ·show ql5 (l.getD 0 0) (ql5 ((dl l).getD 0 0) (dl (dl l)))=l
    rw[qng (qbw l) hd,qng hx (by omega)]
  ·exact one
theorem qu7 (H:List Int):∀x∈hzs H,0<=x/\x<256:=by
 intro x hx
 obtain⟨l,hl,hx⟩:=List.mem_flatten.1 hx
 obtain⟨y,_,rfl⟩:=List.mem_map.1 hl
 exact q1a _ x hx
theorem qk3 {l:List Int}(hx:okL l):∀x∈dlE l,0<=x/\x<256:=by
 obtain⟨k,Hs,rest,h1,h2,_⟩:=qsx hx
 intro x h
 rw[h1]at h
 rcases List.mem_cons.1 h with h|h
 ·omega
 ·rcases mA.1 h with h|h
  ·exact qu7 _ x h
  ·exact qf4 _ x h
theorem qp0 (a:Int)(H:List Int):hzs (a::H)=q0f (zz a)++hzs H:=by simp only[hzs,List.map_cons,List.flatten_cons]
/-! The leading numbers. -/
theorem qkk {b:List Int}(hb:okB b)(hl:b.length<=100000000){N:Nat}{p:Int}{m:Nat}(hm:m<=65536):∀(d j at_:Nat),m-j=d->j<=m->at_<=b.length->
  ∃ (H:List Int) (q e:Nat),
   (∀(n:Nat) (acc:List Int),d<n->acc.length<=j->
    F73c11 n b p N at_ m j acc=if e=0 then F73c11 (n-d) b p N q m m (acc++H)else some (([],((0:Int),((e:Int),()))),()))/\
   (∀(n:Nat) (acc:List Int),d<n->acc.length<=j->
    F142c3 n b at_ m j acc=if e=0 then some ((acc++H,((q:Int),((0:Int),()))),())else some (([],((0:Int),((e:Int),()))),()))/\
   (e=0->H.length=d/\at_<=q/\q<=b.length/\okL H)/\
   (∀A Q R,b=A++hzs Q++R->A.length=at_->Q.length=d->okL Q->e=0/\H=Q/\q=at_+(hzs Q).length)
 | 0,j,at_,hd,hj,ha=>by
  have:j=m:=by omega
  subst this
  refine⟨[],at_,0,fun n acc hn hac=>?_,fun n acc hn hac=>?_,fun _=>⟨rfl,nR _,ha,fun x h=>by cases h⟩,fun A Q R h1 h2 h3 h4=>?_⟩
  ·rw[if_pos rfl,List.append_nil]
   rfl
  ·obtain⟨n,rfl⟩:∃n',n=n'+1:=⟨n-1,by omega⟩
   rw[F142c3_eq,dF (by omega),cF,if_pos rfl,List.append_nil]
  ·have:Q=[]:=List.eq_nil_of_length_eq_zero h3
   subst this
   exact⟨rfl,rfl,rfl⟩
 | d +1,j,at_,hd,hj,ha=>by
  obtain⟨x,q1,e1,r1,_,g1,_⟩:=q38 hb (by omega) (at_:Int)
  rcases Decidable.em (e1≠0)with he1|he1
  ·refine⟨[],0,e1,fun n acc hn hac=>?_,fun n acc hn hac=>?_,fun h=>absurd h he1,fun A Q R h1 h2 h3 h4=>?_⟩
   ·obtain⟨n,rfl⟩:∃n',n=n'+1:=⟨n-1,by omega⟩
    rw[F73c11_eq,dT (by omega),cT,r1,oB]
    dsimp only
    rw[ne0 he1,cT,if_neg he1]
   ·obtain⟨n,rfl⟩:∃n',n=n'+1:=⟨n-1,by omega⟩
    rw[F142c3_eq,dT (by omega),cT,q1g hb (by omega),r1,oB]
    dsimp only
    rw[ne0 he1,cT,if_neg he1]
   ·obtain⟨u,Q,rfl⟩:∃z Q',Q=z::Q':=by
     cases Q with
     |nil=>cases h3
     |cons z Q'=>exact⟨z,Q',rfl⟩
    have hu:=h4 u mS
    rw[qp0]at h1
    have d1:=q41 (b:=b) (pre:=A) (post:=hzs Q++R) (x:=zz u) (by omega) (by rw[h1];simp only[aA]) (q8r hu.1 hu.2)
    rw[h2]at d1
    exact absurd (q2p (e':=0) r1 d1).2.2 he1
  ·have he1:=Decidable.not_not.1 he1
   subst he1
   obtain⟨k1,k2,k3⟩:=g1 rfl
   obtain⟨z,hz,z1,z2,z3⟩:=q97 k3
   obtain⟨H,q,e,i1,i2,i3,i4⟩:=qkk hb hl (N:=N) (p:=p) hm d (j+1) q1 (by omega) (by omega) k2
   refine⟨z::H,q,e,fun n acc hn hac=>?_,fun n acc hn hac=>?_,fun he=>?_,fun A Q R h1 h2 h3 h4=>?_⟩
   ·obtain⟨n,rfl⟩:∃n',n=n'+1:=⟨n-1,by omega⟩
    have:=i1 n (acc++[z]) (by omega) (by rw[lA,List.length_singleton];omega)
    rw[F73c11_eq,dT (by omega),cT,r1,oB]
    dsimp only
    rw[show(!decide (((0:Nat):Int)=0))=false from rfl,cF,z1,oB]
    dsimp only
    rw[if_pos (by simp only[lim];omega),q00 (z:=(j:Int)+1) (by omega) (by omega),show n+1-(d+1)=n-d by omega,show acc++z::H=acc++[z]++H by simp]
    exact this
   ·obtain⟨n,rfl⟩:∃n',n=n'+1:=⟨n-1,by omega⟩
    have:=i2 n (acc++[z]) (by omega) (by rw[lA,List.length_singleton];omega)
    rw[F142c3_eq,dT (by omega),cT,q1g hb (by omega),r1,oB]
    dsimp only
    rw[show(!decide (((0:Nat):Int)=0))=false from rfl,cF,z2,oB]
    dsimp only
    rw[if_pos (by simp only[lim];omega),q00 (z:=(j:Int)+1) (by omega) (by omega),show acc++z::H=acc++[z]++H by simp]
    exact this
   ·obtain⟨a1,a2,a3,a4⟩:=i3 he
    refine⟨by rw[lC,a1],by omega,a3,fun x hx=>?_⟩
    rcases List.mem_cons.1 hx with rfl|hx
    ·exact hz
    ·exact a4 x hx
   ·obtain⟨u,Q,rfl⟩:∃z Q',Q=z::Q':=by
     cases Q with
     |nil=>cases h3
     |cons z Q'=>exact⟨z,Q',rfl⟩
    have hu:=h4 u mS
    rw[qp0]at h1 ⊢
    have d1:=q41 (b:=b) (pre:=A) (post:=hzs Q++R) (x:=zz u) (by omega) (by rw[h1];simp only[aA]) (q8r hu.1 hu.2)
    rw[h2]at d1
    obtain⟨c1,c2,_⟩:=q2p (e':=0) r1 d1
    obtain⟨t1,t2,t3⟩:=i4 (A++q0f (zz u)) Q R (by rw[h1];simp only[aA]) (by rw[lA];omega) (by rw[lC]at h3;omega) (fun x hx=>h4 x (mC _ hx))
    refine⟨t1,?_,by rw[lA];omega⟩
    have hzu:z=u:=by
     rw[z3,c1]
     exact qqg
    rw[t2,hzu]
theorem qq6 {b:List Int}{p q:Int}{H:List Int}(hH:H.length<=100):∀(j n:Nat) (L:List Int),j<=H.length->j<n->L.length+j<=900000->
  F73c22 n b p q ((j:Int)-1) H L=F73c22 (n-j) b p q (-1) H (ups (H.take j) L)
 |0,n,L,hj,hn,hL=>rfl
 |j+1,n,L,hj,hn,hL=>by
  obtain⟨n,rfl⟩:∃n',n=n'+1:=⟨n-1,by omega⟩
  have ih:=qq6 (b:=b) (p:=p) (q:=q) hH j n (ql5 (H.getD j 0) L) (by omega) (by omega) (by rw[qdz];omega)
  rw[F73c22_eq,show((j+1:Nat):Int)-1=(j:Int) by omega,dT (show(0:Int)<=(j:Int) by omega),cT,if_pos (show(0:Int)<=(j:Int) by omega),if_pos (show(j:Int)<(H.length:Int) by omega),tN,qy3 (by omega),oB]
  dsimp only
  rw[q00 (z:=(j:Int)-1) (by omega) (by omega),show n+1-(j+1)=n-j by omega,List.take_succ_eq_append_getElem (by omega),qqc,show H[j]=H.getD j 0 by rw[gQ,gE (by omega)];rfl]
  exact ih
theorem qll {b:List Int}{p q:Int}{H:List Int}(hH:H.length<=100):∀(j n:Nat) (L:List Int),j<=H.length->j<n->L.length+j<=900000->
  F81c16 n b p q ((j:Int)-1) H L=F81c16 (n-j) b p q (-1) H (ups (H.take j) L)
 |0,n,L,hj,hn,hL=>rfl
 |j+1,n,L,hj,hn,hL=>by
  obtain⟨n,rfl⟩:∃n',n=n'+1:=⟨n-1,by omega⟩
  have ih:=qll (b:=b) (p:=p) (q:=q) hH j n (ql5 (H.getD j 0) L) (by omega) (by omega) (by rw[qdz];omega)
  rw[F81c16_eq,show((j+1:Nat):Int)-1=(j:Int) by omega,dT (show(0:Int)<=(j:Int) by omega),cT,if_pos (show(0:Int)<=(j:Int) by omega),if_pos (show(j:Int)<(H.length:Int) by omega),tN,qvg (by omega),oB]
  dsimp only
  rw[q00 (z:=(j:Int)-1) (by omega) (by omega),show n+1-(j+1)=n-j by omega,List.take_succ_eq_append_getElem (by omega),qqc,show H[j]=H.getD j 0 by rw[gQ,gE (by omega)];rfl]
  exact ih
end Go.Proofs.Tryz
