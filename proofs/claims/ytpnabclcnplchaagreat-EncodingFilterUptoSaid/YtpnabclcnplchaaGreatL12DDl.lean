/- Law 12: differences, decoded. -/
import Derived.Test.YtpnabclcnplchaaGreatL12DFr3
set_option linter.unusedVariables false
set_option linter.unusedSimpArgs false
namespace Go.Proofs.Tryz
open Go.Eng
open IntKind (i64 u64 u8)
/-! Sums. -/
def sm (x:Int)(l:List Int):Nat->Int
 |0=>x
 |i+1=>i64.wrap (sm x l i+l.getD i 0)
def qke (x:Int)(l:List Int):List Int:=(List.range (l.length+1)).map (sm x l)
theorem qdb (x:Int)(l:List Int):(qke x l).length=l.length+1:=by simp[qke]
theorem z130 {x:Int}(h1:-9223372036854775808<=x/\x<9223372036854775808)(l:List Int):okL (qke x l):=by
 intro y hy
 obtain⟨i,_,rfl⟩:=List.mem_map.1 hy
 cases i with
 |zero=>exact h1
 |succ i=>exact q3j _
theorem qmv {l:List Int}(hx:okL l)(h:0<l.length):qke (l.getD 0 0) (dl l)=l:=by
 have key:∀i,i<l.length->sm (l.getD 0 0) (dl l) i=l.getD i 0:=by
  intro i
  induction i with
  |zero=>intro _;rfl
  |succ i ih=>
   intro hi
   have hg:=q4g hx hi
   rw[sm,ih (by omega),dl,q2u (by omega)]
   unfold dif2
   exact qlc hg.1 hg.2
 refine List.ext_getElem (by rw[qdb,q7i];omega) fun j h1 h2=>?_
 have hj:(qke (l.getD 0 0) (dl l))[j]=sm (l.getD 0 0) (dl l) j:=by simp[qke]
 rw[hj,key j h2,gQ,gE h2]
 rfl
theorem quj {x:Int}{l:List Int}(hl:l.length<=1000000):∀(d i n:Nat),l.length-i=d->i<=l.length->d<n->
  F126c4 n (sm x l i) l (l.length:Int) i ((List.range (i+1)).map (sm x l))=some ((qke x l,()),())
 |0,i,n,hd,hi,hn=>by
  obtain⟨n,rfl⟩:∃n',n=n'+1:=⟨n-1,by omega⟩
  have:i=l.length:=by omega
  subst this
  rw[F126c4_eq,dF (by omega),cF]
  rfl
 |d+1,i,n,hd,hi,hn=>by
  obtain⟨n,rfl⟩:∃n',n=n'+1:=⟨n-1,by omega⟩
  rw[F126c4_eq,dT (by omega),cT,if_pos (by omega),if_pos (by omega),if_pos (by simp only[List.length_map,List.length_range,lim];omega),tN,q00 (z:=(i:Int)+1) (by omega) (by omega),show i64.wrap (sm x l i+l.getD i 0)=sm x l (i+1)from rfl,<-q2s]
  exact quj hl d (i+1) n (by omega) (by omega) (by omega)
theorem qxj {x:Int}{l:List Int}(hl:l.length<=1000000):F126.run qw0 qng 4000000 (x,l,())=some ((qke x l,()),()):=by
 rw[show F126.run qw0 qng 4000000 (x,l,())=_ from(F126_run _ _ _).trans (F126c1_eq 3999999 _ _),q00 (z:=(l.length:Int)+1) (by omega) (by omega),if_pos (show((Int.toNat (1:Int):Nat):Int)<=(l.length:Int)+1 by
  rw[show Int.toNat (1:Int)=1 from rfl];omega),if_pos (by simp only[lim];omega)]
 exact quj hl l.length 0 3999999 (by omega) (by omega) (by omega)
theorem qow {x:Int}{l:List Int}(hl:l.length<=1000000):∀(d i n:Nat),l.length-i=d->i<=l.length->d<n->
  F143c3 n l i ((List.range (i+1)).map (sm x l))=some ((qke x l,()),())
 |0,i,n,hd,hi,hn=>by
  obtain⟨n,rfl⟩:∃n',n=n'+1:=⟨n-1,by omega⟩
  have:i=l.length:=by omega
  subst this
  rw[F143c3_eq,dF (by omega),cF]
  rfl
 |d+1,i,n,hd,hi,hn=>by
  obtain⟨n,rfl⟩:∃n',n=n'+1:=⟨n-1,by omega⟩
  have hlen:((List.range (i+1)).map (sm x l)).length=i+1:=by simp
  rw[F143c3_eq,dT (by omega),cT,if_pos (by omega),if_pos (by rw[hlen];omega),if_pos (by omega),if_pos (by omega),if_pos (by rw[hlen];simp only[lim];omega),tN,q2u (by omega),q00 (z:=(i:Int)+1) (by omega) (by omega),show i64.wrap (sm x l i+l.getD i 0)=sm x l (i+1)from rfl,<-q2s]
  exact qow hl d (i+1) n (by omega) (by omega) (by omega)
theorem quy {x:Int}{l:List Int}(hl:l.length<=1000000):F143.run qw0 qng 4000000 (x,l,())=some ((qke x l,()),()):=by
 rw[show F143.run qw0 qng 4000000 (x,l,())=_ from(F143_run _ _ _).trans (F143c1_eq 3999999 _ _)]
 exact qow hl l.length 0 3999999 (by omega) (by omega) (by omega)
def ups (H l:List Int):List Int:=H.foldr qke l
theorem qvg (l:List Int):∀H,(ups H l).length=H.length+l.length
 |[]=>by simp[ups]
 |a::H=>by
  have:=qvg l H
  show(qke a (ups H l)).length=_
  rw[qdb,this,lC]
  omega
theorem z18p {l:List Int}(hl:okL l):∀{H:List Int},okL H->okL (ups H l)
 |[],_=>hl
 |a::H,h=>z130 (h a mS) _
theorem qpj (H:List Int)(x:Int)(l:List Int):ups (H++[x]) l=ups H (qke x l):=by
 unfold ups
 rw[List.foldr_append]
 rfl
/-! What an encoding is made of. -/
theorem qs8 {l:List Int}(hx:okL l):∃(k:Nat) (Hs rest:List Int),dlE l=(k:Int)::(hzs Hs++frE rest)/\(k=1\/k=2/\2<=l.length)/\Hs.length=min k l.length/\rest.length=l.length-Hs.length/\okL Hs/\okL rest/\ups Hs rest=l:=by
 have one:∃(k:Nat) (Hs rest:List Int),df1 l=(k:Int)::(hzs Hs++frE rest)/\(k=1\/k=2/\2<=l.length)/\Hs.length=min k l.length/\rest.length=l.length-Hs.length/\okL Hs/\okL rest/\ups Hs rest=l:=by
  refine⟨1,l.take 1,dl l,rfl,.inl rfl,by rw[lT],by rw[q7i,lT];omega,qda hx 1,qb9 l,?_⟩
  rcases Nat.eq_zero_or_pos l.length with h|h
  ·rw[List.eq_nil_of_length_eq_zero h]
   rfl
  ·rw[z151 h]
   exact qmv hx h
 unfold dlE
 split
 ·exact one
 ·split
  ·have hd:0<(dl l).length:=by rw[q7i];omega
   refine⟨2,[l.getD 0 0,(dl l).getD 0 0],dl (dl l),rfl,.inr ⟨rfl,by omega⟩,by simp only[lC,List.length_nil];omega,by rw[q7i,q7i];simp only[lC,List.length_nil];omega,?_,qb9 _,?_⟩
   ·intro x h
    rcases List.mem_cons.1 h with rfl|h
    ·exact q4g hx (by omega)
    ·rcases List.mem_cons.1 h with rfl|h
     ·exact q4g (qb9 l) hd
     ·cases h
   ·show qke (l.getD 0 0) (qke ((dl l).getD 0 0) (dl (dl l)))=l
    rw[qmv (qb9 l) hd,qmv hx (by omega)]
  ·exact one
theorem qto (H:List Int):∀x∈hzs H,0<=x/\x<256:=by
 intro x hx
 obtain⟨l,hl,hx⟩:=List.mem_flatten.1 hx
 obtain⟨y,_,rfl⟩:=List.mem_map.1 hl
 exact q4v _ x hx
theorem qs6 {l:List Int}(hx:okL l):∀x∈dlE l,0<=x/\x<256:=by
 obtain⟨k,Hs,rest,h1,h2,_⟩:=qs8 hx
 intro x h
 rw[h1]at h
 rcases List.mem_cons.1 h with h|h
 ·omega
 ·rcases mA.1 h with h|h
  ·exact qto _ x h
  ·exact qjr _ x h
theorem qoc (a:Int)(H:List Int):hzs (a::H)=q0f (zz a)++hzs H:=by simp only[hzs,List.map_cons,List.flatten_cons]
/-! The leading numbers. -/
theorem qju {b:List Int}(hb:okB b)(hl:b.length<=100000000){N:Nat}{p:Int}{m:Nat}(hm:m<=65536):∀(d j at_:Nat),m-j=d->j<=m->at_<=b.length->
  ∃ (H:List Int) (q e:Nat),
   (∀(n:Nat) (acc:List Int),d<n->acc.length<=j->
    F73c11 n b p N at_ m j acc=if e=0 then F73c11 (n-d) b p N q m m (acc++H)else some (([],((0:Int),((e:Int),()))),()))/\
   (∀(n:Nat) (acc:List Int),d<n->acc.length<=j->
    F142c3 n b at_ m j acc=if e=0 then some ((acc++H,((q:Int),((0:Int),()))),())else some (([],((0:Int),((e:Int),()))),()))/\
   (e=0->H.length=d/\at_<=q/\q<=b.length/\okL H)/\
   (∀A Q R,b=A++hzs Q++R->A.length=at_->Q.length=d->okL Q->e=0/\H=Q/\q=at_+(hzs Q).length)
 | 0,j,at_,hd,hj,ha=>by
  have:j=m:=by omega
  subst this
  refine⟨[],at_,0,fun n acc hn hac=>?_,fun n acc hn hac=>?_,fun _=>⟨rfl,nR _,ha,fun x h=>by cases h⟩,fun A Q R h1 h2 h3 h4=>?_⟩
  ·rw[if_pos rfl,List.append_nil]
   rfl
  ·obtain⟨n,rfl⟩:∃n',n=n'+1:=⟨n-1,by omega⟩
   rw[F142c3_eq,dF (by omega),cF,if_pos rfl,List.append_nil]
  ·have:Q=[]:=List.eq_nil_of_length_eq_zero h3
   subst this
   exact⟨rfl,rfl,rfl⟩
 | d +1,j,at_,hd,hj,ha=>by
  obtain⟨x,q1,e1,r1,_,g1,_⟩:=q2y hb (by omega) (at_:Int)
  rcases Decidable.em (e1≠0)with he1|he1
  ·refine⟨[],0,e1,fun n acc hn hac=>?_,fun n acc hn hac=>?_,fun h=>absurd h he1,fun A Q R h1 h2 h3 h4=>?_⟩
   ·obtain⟨n,rfl⟩:∃n',n=n'+1:=⟨n-1,by omega⟩
    rw[F73c11_eq,dT (by omega),cT,r1,oB]
    dsimp only
    rw[ne0 he1,cT,if_neg he1]
   ·obtain⟨n,rfl⟩:∃n',n=n'+1:=⟨n-1,by omega⟩
    rw[F142c3_eq,dT (by omega),cT,q1d hb (by omega),r1,oB]
    dsimp only
    rw[ne0 he1,cT,if_neg he1]
   ·obtain⟨u,Q,rfl⟩:∃z Q',Q=z::Q':=by
     cases Q with
     |nil=>cases h3
     |cons z Q'=>exact⟨z,Q',rfl⟩
    have hu:=h4 u mS
    rw[qoc]at h1
    have d1:=q3m (b:=b) (pre:=A) (post:=hzs Q++R) (x:=zz u) (by omega) (by rw[h1];simp only[aA]) (q87 hu.1 hu.2)
    rw[h2]at d1
    exact absurd (q2h (e':=0) r1 d1).2.2 he1
  ·have he1:=Decidable.not_not.1 he1
   subst he1
   obtain⟨k1,k2,k3⟩:=g1 rfl
   obtain⟨z,hz,z1,z2,z3⟩:=q8o k3
   obtain⟨H,q,e,i1,i2,i3,i4⟩:=qju hb hl (N:=N) (p:=p) hm d (j+1) q1 (by omega) (by omega) k2
   refine⟨z::H,q,e,fun n acc hn hac=>?_,fun n acc hn hac=>?_,fun he=>?_,fun A Q R h1 h2 h3 h4=>?_⟩
   ·obtain⟨n,rfl⟩:∃n',n=n'+1:=⟨n-1,by omega⟩
    have:=i1 n (acc++[z]) (by omega) (by rw[lA,List.length_singleton];omega)
    rw[F73c11_eq,dT (by omega),cT,r1,oB]
    dsimp only
    rw[show(!decide (((0:Nat):Int)=0))=false from rfl,cF,z1,oB]
    dsimp only
    rw[if_pos (by simp only[lim];omega),q00 (z:=(j:Int)+1) (by omega) (by omega),show n+1-(d+1)=n-d by omega,show acc++z::H=acc++[z]++H by simp]
    exact this
   ·obtain⟨n,rfl⟩:∃n',n=n'+1:=⟨n-1,by omega⟩
    have:=i2 n (acc++[z]) (by omega) (by rw[lA,List.length_singleton];omega)
    rw[F142c3_eq,dT (by omega),cT,q1d hb (by omega),r1,oB]
    dsimp only
    rw[show(!decide (((0:Nat):Int)=0))=false from rfl,cF,z2,oB]
    dsimp only
    rw[if_pos (by simp only[lim];omega),q00 (z:=(j:Int)+1) (by omega) (by omega),show acc++z::H=acc++[z]++H by simp]
    exact this
   ·obtain⟨a1,a2,a3,a4⟩:=i3 he
    refine⟨by rw[lC,a1],by omega,a3,fun x hx=>?_⟩
    rcases List.mem_cons.1 hx with rfl|hx
    ·exact hz
    ·exact a4 x hx
   ·obtain⟨u,Q,rfl⟩:∃z Q',Q=z::Q':=by
     cases Q with
     |nil=>cases h3
     |cons z Q'=>exact⟨z,Q',rfl⟩
    have hu:=h4 u mS
    rw[qoc]at h1 ⊢
    have d1:=q3m (b:=b) (pre:=A) (post:=hzs Q++R) (x:=zz u) (by omega) (by rw[h1];simp only[aA]) (q87 hu.1 hu.2)
    rw[h2]at d1
    obtain⟨c1,c2,_⟩:=q2h (e':=0) r1 d1
    obtain⟨t1,t2,t3⟩:=i4 (A++q0f (zz u)) Q R (by rw[h1];simp only[aA]) (by rw[lA];omega) (by rw[lC]at h3;omega) (fun x hx=>h4 x (mC _ hx))
    refine⟨t1,?_,by rw[lA];omega⟩
    have hzu:z=u:=by
     rw[z3,c1]
     exact qpo
    rw[t2,hzu]
theorem qpd {b:List Int}{p q:Int}{H:List Int}(hH:H.length<=100):∀(j n:Nat) (L:List Int),j<=H.length->j<n->L.length+j<=900000->
  F73c22 n b p q ((j:Int)-1) H L=F73c22 (n-j) b p q (-1) H (ups (H.take j) L)
 |0,n,L,hj,hn,hL=>rfl
 |j+1,n,L,hj,hn,hL=>by
  obtain⟨n,rfl⟩:∃n',n=n'+1:=⟨n-1,by omega⟩
  have ih:=qpd (b:=b) (p:=p) (q:=q) hH j n (qke (H.getD j 0) L) (by omega) (by omega) (by rw[qdb];omega)
  rw[F73c22_eq,show((j+1:Nat):Int)-1=(j:Int) by omega,dT (show(0:Int)<=(j:Int) by omega),cT,if_pos (show(0:Int)<=(j:Int) by omega),if_pos (show(j:Int)<(H.length:Int) by omega),tN,qxj (by omega),oB]
  dsimp only
  rw[q00 (z:=(j:Int)-1) (by omega) (by omega),show n+1-(j+1)=n-j by omega,List.take_succ_eq_append_getElem (by omega),qpj,show H[j]=H.getD j 0 by rw[gQ,gE (by omega)];rfl]
  exact ih
theorem qku {b:List Int}{p q:Int}{H:List Int}(hH:H.length<=100):∀(j n:Nat) (L:List Int),j<=H.length->j<n->L.length+j<=900000->
  F81c16 n b p q ((j:Int)-1) H L=F81c16 (n-j) b p q (-1) H (ups (H.take j) L)
 |0,n,L,hj,hn,hL=>rfl
 |j+1,n,L,hj,hn,hL=>by
  obtain⟨n,rfl⟩:∃n',n=n'+1:=⟨n-1,by omega⟩
  have ih:=qku (b:=b) (p:=p) (q:=q) hH j n (qke (H.getD j 0) L) (by omega) (by omega) (by rw[qdb];omega)
  rw[F81c16_eq,show((j+1:Nat):Int)-1=(j:Int) by omega,dT (show(0:Int)<=(j:Int) by omega),cT,if_pos (show(0:Int)<=(j:Int) by omega),if_pos (show(j:Int)<(H.length:Int) by omega),tN,quy (by omega),oB]
  dsimp only
  rw[q00 (z:=(j:Int)-1) (by omega) (by omega),show n+1-(j+1)=n-j by omega,List.take_succ_eq_append_getElem (by omega),qpj,show H[j]=H.getD j 0 by rw[gQ,gE (by omega)];rfl]
  exact ih
end Go.Proofs.Tryz
