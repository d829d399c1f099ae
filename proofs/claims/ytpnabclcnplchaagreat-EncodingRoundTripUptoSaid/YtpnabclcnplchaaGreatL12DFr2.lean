/- Law 12: frames, decoded: the loops behind the exceptions. -/
import Derived.Test.YtpnabclcnplchaaGreatL12DFr
set_option linter.unusedVariables false
set_option linter.unusedSimpArgs false
namespace Go.Proofs.Tryz
open Go.Eng
open IntKind (i64 u64 u8)
def qwk (z:Int)(D:List Int)(i:Nat):Int:=i64.wrap (u64.wrap (u64.wrap z+D.getD i 0))
def qh3 (z:Int)(D:List Int):List Int:=(List.range D.length).map (qwk z D)
theorem qaz (z:Int)(D:List Int):(qh3 z D).length=D.length:=by simp[qh3]
theorem qiw (z:Int)(D:List Int):okL (qh3 z D):=by
 intro x hx
 obtain⟨i,_,rfl⟩:=List.mem_map.1 hx
 exact q3y _
theorem qgu {f S:List Int}(hf:∀x∈f,0<=x/\x<256)(hS:∀x∈S,0<=x/\x<256):decide (List.map Eng.q0n f=List.map Eng.q0n S)=decide (f=S):=by
 by_cases h:f=S
 ·subst h
  rw[dT rfl,dT rfl]
 ·have key:List.map Eng.q0n f≠List.map Eng.q0n S:=by
   rw[q5d hf,q5d hS]
   exact h
  rw[dF h,dF key]
theorem qa1 (D:List Int)(w:Nat):∀x∈q27 D w,0<=x/\x<256:=qek _ _
theorem qr0 (P:List (Nat×Nat)):∀x∈qcs P,0<=x/\x<256:=by
 intro x hx
 obtain⟨l,hl,hx⟩:=List.mem_flatten.1 hx
 obtain⟨y,_,rfl⟩:=List.mem_map.1 hl
 rcases mA.1 hx with h|h
 ·exact q1a _ x h
 ·exact q1a _ x h
theorem qth (l:List Int)(w:Nat):∀x∈frT l w,0<=x/\x<256:=by
 intro x hx
 unfold frT at hx
 rw[qiy]at hx
 rcases mA.1 hx with h|h
 ·rcases mA.1 h with h|h
  ·rcases mA.1 h with h|h
   ·rcases mA.1 h with h|h
    ·exact q1a _ x h
    ·exact q1a _ x h
   ·exact q1a _ x h
  ·exact qa1 _ _ x h
 ·exact qr0 _ x h
theorem qf4 (l:List Int):∀x∈frE l,0<=x/\x<256:=qth l _
theorem q4b {b:List Int}(hb:okB b)(p q:Nat):∀x∈slice b p q,0<=x/\x<256:=qca (qbb hb p q)
theorem qwq {w:Int}{P:List (Nat×Nat)}{j:Nat}(h:j<P.length)(D:List Int):apl w (P.take (j+1)) D=stp w (apl w (P.take j) D) P[j]:=by
 unfold apl
 rw[List.take_succ_eq_append_getElem h,List.foldl_append]
 rfl
theorem z12f {N:Nat}{x:Nat×Nat}(h:x.1<N)(hN:N<=65536):(pch N x).index=(x.1:Int):=by
 show i64.wrap (q9x (x.1:Int) (N:Int))=(x.1:Int)
 have:q9x (x.1:Int) (N:Int)=(x.1:Int):=by unfold q9x;split<;>omega
 rw[this,q00 (by omega) (by omega)]
theorem qza {b:List Int}{p N q w:Nat}{h:Hdr}{P:List (Nat×Nat)}{D0:List Int}(hD:D0.length=N)(hw:h.width=(w:Int))(hw4:w<=64)(hv:∀x∈P,x.1<N)(hN:N<=65536)(hP:P.length<=65536):∀(d j n:Nat),P.length-j=d->j<=P.length->d<n->
  F72c28 n b p N q (P.length:Int) j h (apl w (P.take j) D0) (P.map (pch N))=F72c28 (n-d) b p N q (P.length:Int) (P.length:Int) h (apl w P D0) (P.map (pch N))
 |0,j,n,hd,hj,hn=>by
  have:j=P.length:=by omega
  subst this
  rw[tL (nR _),Nat.sub_zero]
 | d+1,j,n,hd,hj,hn=>by
  obtain⟨n,rfl⟩:∃n',n=n'+1:=⟨n-1,by omega⟩
  have hlt:j<P.length:=by omega
  have ih:=qza (b:=b) (p:=p) (q:=q) hD hw hw4 hv hN hP d (j+1) n (by omega) (by omega) (by omega)
  have hx:=hv _ (gM hlt)
  have hg:(P.map (pch N)).getD ((j:Int)).toNat qd8=pch N P[j]:=by
   rw[tN,gQ,List.getElem?_map,gE hlt]
   rfl
  rw[show n+1-(d+1)=n-d by omega,<-ih,qwq hlt]
  have hl:(apl (w:Int) (P.take j) D0).length=N:=by rw[qeb,hD]
  generalize apl (w:Int) (P.take j) D0=D at hl ⊢
  generalize P[j]=x at hx hg
  rw[F72c28_eq,dT (show(j:Int)<(P.length:Int) by omega),cT,if_pos (by omega),if_pos (by rw[List.length_map];omega),hg,hw,z12f hx hN,q00 (z:=(j:Int)+1) (by omega) (by omega)]
  unfold stp
  by_cases h64:w<64
  ·rw[dT (show(w:Int)<64 by omega),cT,if_pos (by omega),if_pos (by omega),if_pos (by rw[q01 (by omega) (by omega)];omega),if_pos (by omega),if_pos (by omega),if_pos ⟨by omega,by omega⟩,tN]
   rfl
  ·rw[dF (show¬(w:Int)<64 by omega),cF,if_neg (fun h'=>h64 (by have:=h'.2;omega))]
   rfl
def qij (b:List Int)(p q:Nat)(L:List Int):Option (HRes NN.ρ [RK.own 2 (Ty.int .i64),RK.v (Ty.int .i64),RK.v (Ty.int .i64)]×HOut NN.ρ [PK.v (Ty.int u8).sl,PK.v (Ty.int .i64),PK.v (Ty.int .i64)]):=
 if frE L=slice b p q then some ((L,((q:Int),((0:Int),()))),())else some (([],((0:Int),((4:Int),()))),())
theorem qzc {b:List Int}(hb:okB b){p q:Nat}{h:Hdr}{D:List Int}(hD:D.length<=10000)(hpq:p<=q)(hq:q<=b.length):∀(d i n:Nat),D.length-i=d->i<=D.length->d<n->
  F72c35 n b p q (D.length:Int) i h (fil (qwk h.base D) D.length i) D=qij b p q (qh3 h.base D)
 |0,i,n,hd,hi,hn=>by
  obtain⟨n,rfl⟩:∃n',n=n'+1:=⟨n-1,by omega⟩
  have:i=D.length:=by omega
  subst this
  rw[F72c35_eq,dF (by omega),cF,q89,show(List.range D.length).map (qwk h.base D)=qh3 h.base D from rfl,qf6 (by rw[qaz];omega) (qiw _ _),oB]
  dsimp only
  have hd:=qgu (qf4 (qh3 h.base D)) (q4b hb p q)
  rw[if_pos (by omega),if_pos (by omega),if_pos (by omega),tN,tN,show List.drop p (List.take q b)=slice b p q from rfl,hd]
  unfold qij
  by_cases he:frE (qh3 h.base D)=slice b p q
  ·rw[if_pos he,dT he,nT,cF]
  ·rw[if_neg he,dF he,nF,cT]
 |d+1,i,n,hd,hi,hn=>by
  obtain⟨n,rfl⟩:∃n',n=n'+1:=⟨n-1,by omega⟩
  have hlt:i<D.length:=by omega
  rw[F72c35_eq,dT (by omega),cT,if_pos (by omega),if_pos (by omega),if_pos (by omega),if_pos (by rw[q9v hi];omega),tN,q00 (z:=(i:Int)+1) (by omega) (by omega),show i64.wrap (u64.wrap (u64.wrap h.base+D.getD i 0))=qwk h.base D i from rfl,q8a (g:=qwk h.base D) hlt rfl]
  exact qzc hb hD hpq hq d (i+1) n (by omega) (by omega) (by omega)
/-! The reference. -/
theorem z144 {s:List Int}(hs:okB s){N w i:Nat}(hN:N<=65536)(hw:w<=64)(hl:s.length=q04 N w)(hi:i<N):
  F139.run Pk2 Rkf 4000000 (s,(i:Int),(w:Int),())=some ((((q2g s/2^(i*w)%2^w:Nat):Int),()),()):=by
 rw[show F139.run Pk2 Rkf 4000000 (s,(i:Int),(w:Int),())=_ from F139_run _ _ _ _]
 by_cases h0:w<1
 ·rw[dT (by omega),cT,show w=0 by omega,Nat.pow_zero,Nat.mod_one]
  rfl
 ·have hNw:N*w<=65536*64:=Nat.mul_le_mul hN hw
  have hiw:(i+1)*w<=N*w:=Nat.mul_le_mul_right _ (by omega)
  have hsz:N*w<=8*s.length:=by unfold q04 at hl;omega
  have hs2:8*s.length<=5000000:=by unfold q04 at hl;omega
  have hdiv:i<8*s.length/w:=by
   rw[Nat.lt_iff_add_one_le,Nat.le_div_iff_mul_le (by omega)]
   omega
  have hdl:8*s.length/w<=8*s.length:=Nat.div_le_self _ _
  have e1:i64.wrap ((8:Int)*(s.length:Int))=((8*s.length:Nat):Int):=by rw[q00 (by omega) (by omega)];omega
  rw[dF (by omega),cF,dF (by omega),cF,dF (by omega),cF,if_neg (by omega),e1,Int.tdiv_eq_ediv_of_nonneg (by omega),<-Int.natCast_ediv,q00 (z:=((8*s.length/w:Nat):Int)) (by omega) (by omega),
   dF (by omega),cF,F139c3_eq (n:=3999999),qlj hs (by omega) hw (by omega) (by omega),oB]
theorem qz9 {b:List Int}(hb:okB b){p N w en cnt x:Nat}(hN:N<=65536)(hw:w<=64)(he:en+q04 N w<=b.length)(hl:b.length<=100000000):∀(d i n:Nat),N-i=d->i<=N->d<n->
  F80c21 n b p N x en w cnt (q04 N w:Nat) i (unp (slice b en (en+q04 N w)) w i)=F80c21 (n-d) b p N x en w cnt (q04 N w:Nat) N (unp (slice b en (en+q04 N w)) w N)
 |0,i,n,hd,hi,hn=>by
  have:i=N:=by omega
  subst this
  rw[Nat.sub_zero]
 | d+1,i,n,hd,hi,hn=>by
  obtain⟨n,rfl⟩:∃n',n=n'+1:=⟨n-1,by omega⟩
  have hlt:i<N:=by omega
  have ih:=qz9 hb (p:=p) (cnt:=cnt) (x:=x) hN hw he hl d (i+1) n (by omega) (by omega) (by omega)
  have hsl:List.drop (en:Int).toNat (List.take (i64.wrap ((en:Int)+((q04 N w:Nat):Int))).toNat b)=slice b en (en+q04 N w):=by
   rw[q00 (by omega) (by omega),<-Int.natCast_add,tN,tN]
   rfl
  rw[show n+1-(d+1)=n-d by omega,<-ih,F80c21_eq,dT (by omega),cT,if_pos (by omega),if_pos (by rw[q00 (by omega) (by omega)];omega),if_pos (by rw[q00 (by omega) (by omega)];omega),hsl,q00 (z:=(w:Int)) (by omega) (by omega),
   z144 (qbb hb _ _) hN hw (by rw[q1p (by omega)];omega) hlt,oB]
  dsimp only
  rw[if_pos (by rw[q6f];simp only[lim];omega),q00 (z:=(i:Int)+1) (by omega) (by omega),<-qjd]
  rfl
theorem qzd {b f L:List Int}{p q:Nat}(hq:q<=b.length)(hl:b.length<=100000000)(hpq:p<=q)(hf:f.length=q-p):∀(d i n:Nat),f.length-i=d->i<=f.length->d<n->(∀j,j<i->f.getD j 0=b.getD (p+j) 0)->
  F80c37 n b p q i L f=if f=slice b p q then some ((L,((q:Int),((0:Int),()))),())else some (([],((0:Int),((4:Int),()))),())
 | 0,i,n,hd,hi,hn,hp=>by
  obtain⟨n,rfl⟩:∃n',n=n'+1:=⟨n-1,by omega⟩
  have hsl:f=slice b p q:=by
   refine List.ext_getElem (by rw[q1p hq];exact hf) fun j h1 h2=>?_
   have h3:=hp j (by omega)
   rw[gQ,gE h1,gQ,gE (by omega)]at h3
   simp only[slice,List.getElem_drop,List.getElem_take]
   exact h3
  rw[F80c37_eq,dF (by omega),cF,if_pos hsl]
 | d+1,i,n,hd,hi,hn,hp=>by
  obtain⟨n,rfl⟩:∃n',n=n'+1:=⟨n-1,by omega⟩
  have hlt:i<f.length:=by omega
  have e1:i64.wrap ((p:Int)+(i:Int))=((p+i:Nat):Int):=by rw[q00 (by omega) (by omega)];omega
  rw[F80c37_eq,dT (by omega),cT,if_pos (by omega),if_pos (by omega),e1,if_pos (by omega),if_pos (by omega),tN,tN,q00 (z:=(i:Int)+1) (by omega) (by omega)]
  by_cases he:f.getD i 0=b.getD (p+i) 0
  ·rw[dT he,nT,cF]
   refine qzd hq hl hpq hf d (i+1) n (by omega) (by omega) (by omega) fun j hj=>?_
   rcases Nat.lt_or_ge j i with h|h
   ·exact hp j h
   ·rw[show j=i by omega];exact he
  ·have hne:f≠slice b p q:=by
    intro h
    apply he
    have hsl:=q1p (b:=b) (p:=p) hq
    rw[h,gQ,gE (by omega),gQ,gE (by omega)]
    simp only[slice,List.getElem_drop,List.getElem_take]
   rw[dF he,nF,cT,if_neg hne]
theorem q2y (g:Nat->Int)(i:Nat):(List.range (i+1)).map g=(List.range i).map g++[g i]:=by
 rw[List.range_succ,List.map_append]
 rfl
theorem qzb {b:List Int}{p q:Nat}{z:Int}{D:List Int}(hD:D.length<=10000)(hl:b.length<=100000000)(hpq:p<=q)(hq:q<=b.length):∀(d i n:Nat),D.length-i=d->i<=D.length->d+2000000<n->
  F80c30 n b p (D.length:Int) q (u64.wrap z) i D ((List.range i).map (qwk z D))=qij b p q (qh3 z D)
 | 0,i,n,hd,hi,hn=>by
  obtain⟨n,rfl⟩:∃n',n=n'+1:=⟨n-1,by omega⟩
  have:i=D.length:=by omega
  subst this
  have hfl:(frE (qh3 z D)).length<=1500000:=qti (by rw[qaz];omega) (qiw z D) (qfl _ 65).1
  rw[F80c30_eq,dF (by omega),cF,show(List.range D.length).map (qwk z D)=qh3 z D from rfl,q6t (by rw[qaz];omega) (qiw _ _),oB]
  dsimp only
  rw[q00 (by omega) (by omega)]
  unfold qij
  by_cases h:(frE (qh3 z D)).length=q-p
  ·rw[dT (by omega),nT,cF]
   exact qzd hq hl hpq h _ 0 n rfl (by omega) (by omega) (fun j hj=>by omega)
  ·have hne:frE (qh3 z D)≠slice b p q:=fun h'=>h (by rw[h',q1p hq])
   rw[dF (by omega),nF,cT,if_neg hne]
 |d+1,i,n,hd,hi,hn=>by
  obtain⟨n,rfl⟩:∃n',n=n'+1:=⟨n-1,by omega⟩
  have hlt:i<D.length:=by omega
  rw[F80c30_eq,dT (by omega),cT,if_pos (by omega),if_pos (by omega),if_pos (by simp only[List.length_map,List.length_range,lim];omega),tN,q00 (z:=(i:Int)+1) (by omega) (by omega),show i64.wrap (u64.wrap (u64.wrap z+D.getD i 0))=qwk z D i from rfl,<-q2y]
  exact qzb hD hl hpq hq d (i+1) n (by omega) (by omega) (by omega)
end Go.Proofs.Tryz
