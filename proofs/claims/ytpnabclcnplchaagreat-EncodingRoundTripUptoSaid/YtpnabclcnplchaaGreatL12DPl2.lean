/- Law 12: numbers and runs, decoded. -/
import Derived.Test.YtpnabclcnplchaaGreatL12DPl
set_option linter.unusedVariables false
set_option linter.unusedSimpArgs false
namespace Go.Proofs.Tryz
open Go.Eng
open IntKind (i64 u64 u8)
def ri (b:List Int)(i:Nat):Int:=i64.wrap ((q2g (slice b (1+8*i) (1+8*i+8)):Nat):Int)
def ris (b:List Int)(N:Nat):List Int:=(List.range N).map (ri b)
theorem qvd (b:List Int)(N:Nat):(ris b N).length=N:=by simp[ris]
theorem z163 (b:List Int)(N:Nat):okL (ris b N):=by
 intro x hx
 obtain⟨i,_,rfl⟩:=List.mem_map.1 hx
 exact q3y _
theorem qua {b:List Int}(hb:okB b)(hl:b.length<=100000000){N:Nat}(hN:N<=65536)(h8:8*N<=b.length-1)(h1:1<=b.length):∀(d i n:Nat),N-i=d->i<=N->d<n->
  F69c5 n b N N i (fil (ri b) N i)=some ((ris b N,(((1+8*N:Nat):Int),((0:Int),()))),())
 |0,i,n,hd,hi,hn=>by
  obtain⟨n,rfl⟩:∃n',n=n'+1:=⟨n-1,by omega⟩
  have:i=N:=by omega
  subst this
  rw[F69c5_eq,dF (by omega),cF,q89,q00 (z:=(8:Int)*(i:Int)) (by omega) (by omega),q00 (by omega) (by omega),show(1:Int)+8*(i:Int)=((1+8*i:Nat):Int) by omega]
  rfl
 |d+1,i,n,hd,hi,hn=>by
  obtain⟨n,rfl⟩:∃n',n=n'+1:=⟨n-1,by omega⟩
  rw[F69c5_eq,dT (by omega),cT,q00 (z:=(8:Int)*(i:Int)) (by omega) (by omega),q00 (z:=(1:Int)+(8:Int)*(i:Int)) (by omega) (by omega),show(1:Int)+8*(i:Int)=((1+8*i:Nat):Int) by omega,z160 hb hl (by omega),oB]
  dsimp only
  rw[if_pos (by omega),if_pos (by rw[q9v hi];omega),tN,q00 (z:=(i:Int)+1) (by omega) (by omega),show i64.wrap ((q2g (slice b (1+8*i) (1+8*i+8)):Nat):Int)=ri b i from rfl,q8a (g:=ri b) (by omega) rfl]
  exact qua hb hl hN h8 h1 d (i+1) n (by omega) (by omega) (by omega)
theorem qle {b:List Int}(hb:okB b)(hl:b.length<=100000000){N:Nat}(hN:N<=65536)(h8:8*N<=b.length-1)(h1:1<=b.length):∀(d i n:Nat),N-i=d->i<=N->d<n->
  F79c15 n b 1 N ((8*N:Nat):Int) i ((List.range i).map (ri b))=some ((ris b N,(((1+8*N:Nat):Int),((0:Int),()))),())
 |0,i,n,hd,hi,hn=>by
  obtain⟨n,rfl⟩:∃n',n=n'+1:=⟨n-1,by omega⟩
  have:i=N:=by omega
  subst this
  rw[F79c15_eq,dF (by omega),cF,q00 (by omega) (by omega),show(1:Int)+((8*i:Nat):Int)=((1+8*i:Nat):Int) by omega]
  rfl
 |d+1,i,n,hd,hi,hn=>by
  obtain⟨n,rfl⟩:∃n',n=n'+1:=⟨n-1,by omega⟩
  rw[F79c15_eq,dT (by omega),cT,q00 (z:=(8:Int)*(i:Int)) (by omega) (by omega),q00 (z:=(1:Int)+(8:Int)*(i:Int)) (by omega) (by omega),show(1:Int)+8*(i:Int)=((1+8*i:Nat):Int) by omega,z12r hb hl (by omega),oB]
  dsimp only
  rw[if_pos (by simp only[List.length_map,List.length_range,lim];omega),q00 (z:=(i:Int)+1) (by omega) (by omega),show i64.wrap ((q2g (slice b (1+8*i) (1+8*i+8)):Nat):Int)=ri b i from rfl,<-q2y]
  exact qle hb hl hN h8 h1 d (i+1) n (by omega) (by omega) (by omega)
theorem qkz (l:List Int)(i:Nat):∀d,∃rest,nmB l (i+d)=nmB l i++rest
 |0=>⟨[],by rw[List.append_nil];rfl⟩
 |d+1=>by
  obtain⟨r,h⟩:=qkz l i d
  exact⟨r++fx (u64.wrap (l.getD (i+d) 0)).toNat,by rw[show i+(d+1)=i+d+1 from rfl,nmB,h];simp only[aA]⟩
theorem qzf (x:Nat):fx x=dig x 8:=by
 unfold fx dig fb
 refine List.map_congr_left fun j _=>?_
 rw[Nat.pow_mul]
theorem qxv {b A R l:List Int}(h:b=A++nmB l l.length++R)(hA:A.length=1)(hx:okL l):ris b l.length=l:=by
 refine List.ext_getElem (by rw[qvd]) fun j h1 h2=>?_
 have hj:(ris b l.length)[j]=ri b j:=by simp[ris]
 rw[hj]
 obtain⟨rest,hr⟩:=qkz l (j+1) (l.length-(j+1))
 rw[show j+1+(l.length-(j+1))=l.length by omega,nmB]at hr
 obtain⟨a1,a2⟩:=hx _ (gM h2)
 have hg:l.getD j 0=l[j]:=by rw[gQ,gE h2];rfl
 rw[hg]at hr
 generalize l[j]=z at a1 a2 hr
 have hb:b=(A++nmB l j)++fx (u64.wrap z).toNat++(rest++R):=by rw[h,hr];simp only[aA]
 have hlen:(A++nmB l j).length=1+8*j:=by rw[lA,hA,q8l]
 have h7:=q3o (A:=A++nmB l j) (M:=fx (u64.wrap z).toNat) (R:=rest++R)
 rw[<-hb,hlen,qou]at h7
 have hu:u64.wrap z=z%18446744073709551616:=by simp[IntKind.wrap,IntKind.bits,IntKind.signed]
 have h8:(256:Nat)^8=18446744073709551616:=by decide
 unfold ri
 rw[show slice b (1+8*j) (1+8*j+8)=fx (u64.wrap z).toNat from h7,qzf,qje 8 _ (by rw[hu,h8];omega),hu,IntKind.wrap_i64]
 omega
/-! Truth values. -/
theorem qqa {b:List Int}{N:Nat}:∀x∈unp b 1 N,x=0\/x=1:=by
 intro x hx
 obtain⟨i,_,rfl⟩:=List.mem_map.1 hx
 rw[Nat.pow_one]
 omega
theorem z179 {b:List Int}{N i:Nat}(h:i<N):i64.wrap ((unp b 1 N).getD i 0)=(unp b 1 N).getD i 0:=by
 have:=qqa (b:=b) (N:=N) ((unp b 1 N).getD i 0) (by
  rw[gQ,gE (by rw[q6f];exact h)]
  exact gM _)
 rw[q00 (by omega) (by omega)]
theorem qgx (l:List Int):(List.range l.length).map (fun i=>l.getD i 0)=l:=by
 refine List.ext_getElem (by simp) fun j h1 h2=>?_
 simp only[List.getElem_map,List.getElem_range]
 rw[gQ,gE h2]
 rfl
theorem qo4 {U:List Int}{S:Nat}(hS:S<=1000000)(hN:U.length<=65536)(hw:∀i,i<U.length->i64.wrap (U.getD i 0)=U.getD i 0):∀(d i n:Nat),U.length-i=d->i<=U.length->d<n->
  F68c9 n S (U.length:Int) i (fil (fun i=>U.getD i 0) U.length i) U=some ((U,(((1+S:Nat):Int),((0:Int),()))),())
 |0,i,n,hd,hi,hn=>by
  obtain⟨n,rfl⟩:∃n',n=n'+1:=⟨n-1,by omega⟩
  have:i=U.length:=by omega
  subst this
  rw[F68c9_eq,dF (by omega),cF,q89,qgx,q00 (by omega) (by omega),show(1:Int)+(S:Int)=((1+S:Nat):Int) by omega]
 |d+1,i,n,hd,hi,hn=>by
  obtain⟨n,rfl⟩:∃n',n=n'+1:=⟨n-1,by omega⟩
  rw[F68c9_eq,dT (by omega),cT,if_pos (by omega),if_pos (by omega),if_pos (by omega),if_pos (by rw[q9v hi];omega),tN,hw i (by omega),q8a (g:=fun i=>U.getD i 0) (by omega) rfl,q00 (z:=(i:Int)+1) (by omega) (by omega)]
  exact qo4 hS hN hw d (i+1) n (by omega) (by omega) (by omega)
theorem qcd {U:List Int}{S e:Nat}(hS:S<=1000000)(hN:U.length<=65536)(hw:∀i,i<U.length->i64.wrap (U.getD i 0)=U.getD i 0):∀(d i n:Nat),U.length-i=d->i<=U.length->d<n->
  F79c10 n 1 S e i ((List.range i).map (fun i=>U.getD i 0)) U=some ((U,(((1+S:Nat):Int),((e:Int),()))),())
 |0,i,n,hd,hi,hn=>by
  obtain⟨n,rfl⟩:∃n',n=n'+1:=⟨n-1,by omega⟩
  have:i=U.length:=by omega
  subst this
  rw[F79c10_eq,dF (by omega),cF,qgx,q00 (by omega) (by omega),show(1:Int)+(S:Int)=((1+S:Nat):Int) by omega]
 |d+1,i,n,hd,hi,hn=>by
  obtain⟨n,rfl⟩:∃n',n=n'+1:=⟨n-1,by omega⟩
  rw[F79c10_eq,dT (by omega),cT,if_pos (by omega),if_pos (by omega),if_pos (by simp only[List.length_map,List.length_range,lim];omega),tN,hw i (by omega),q00 (z:=(i:Int)+1) (by omega) (by omega)]
  have:=qcd hS hN hw d (i+1) n (by omega) (by omega) (by omega) (e:=e)
  rw[q2y (fun i=>U.getD i 0) i]at this
  exact this
def z10g (b:List Int)(N:Nat)(l:List Int)(q:Nat):Prop:=okL l/\l.length=N/\1<=q/\q<=b.length
theorem qu9 {b:List Int}(hb:okB b)(hl:b.length<=100000000){N:Nat}(h1:1<=b.length)(hN:N<=65536){t:Int}(ht:t≠1):
  ∃(l:List Int) (q e:Nat),F69.run frB frR 4000000 (b,(N:Int),())=some ((l,((q:Int),((e:Int),()))),())/\
   F79.run Pkn frR 4000000 (b,(1:Int),t,(N:Int),())=some ((l,((q:Int),((e:Int),()))),())/\
   (e=0->z10g b N l q)/\(e≠0->l=[]/\q=0)/\
   (∀A R l',b=A++nmB l' l'.length++R->A.length=1->l'.length=N->okL l'->e=0/\l=l'/\q=1+(nmB l' l'.length).length):=by
 rw[show F69.run frB frR 4000000 (b,(N:Int),())=_ from(F69_run _ _ _).trans (F69c1_eq 3999999 _ _),
  show F79.run Pkn frR 4000000 (b,(1:Int),t,(N:Int),())=_ from(F79_run _ _ _ _ _).trans (F79c1_eq 3999999 _ _ _ _)]
 rw[dF ht,cF,F79c4_eq (n:=3999998),q00 (z:=(b.length:Int)-1) (by omega) (by omega),q00 (z:=(8:Int)*(N:Int)) (by omega) (by omega)]
 by_cases hs:b.length-1<8*N
 ·rw[dT (by omega),cT,cT]
  refine⟨[],0,2,rfl,rfl,fun h=>by omega,fun _=>⟨rfl,rfl⟩,fun A R l' t1 t2 t3 t4=>?_⟩
  have:=congrArg List.length t1
  rw[lA,lA,q8l]at this
  omega
 ·rw[dF (by omega),cF,cF,dF ht,cF,if_pos (by omega),if_pos (by simp only[lim];omega),tN,List.length_replicate,<-q77 (ri b)]
  have k1:=qua hb hl hN (by omega) h1 N 0 3999999 (by omega) (by omega) (by omega)
  have k2:=qle hb hl hN (by omega) h1 N 0 3999998 (by omega) (by omega) (by omega)
  refine⟨ris b N,1+8*N,0,k1,?_,fun _=>⟨z163 b N,qvd b N,by omega,by omega⟩,fun h=>absurd rfl h,fun A R l' t1 t2 t3 t4=>⟨rfl,?_,?_⟩⟩
  ·rw[show(8:Int)*(N:Int)=((8*N:Nat):Int) by omega]
   exact k2
  ·rw[<-t3];exact qxv t1 t2 t4
  ·rw[q8l,t3]
theorem qqr {b:List Int}(hb:okB b)(hl:b.length<=100000000){N:Nat}(h1:1<=b.length)(hN:N<=65536):
  ∃(l l':List Int) (q q' e:Nat),F68.run frB frR 4000000 (b,(N:Int),())=some ((l,((q:Int),((e:Int),()))),())/\
   F79.run Pkn frR 4000000 (b,(1:Int),(1:Int),(N:Int),())=some ((l',((q':Int),((e:Int),()))),())/\
   (e=0->l'=l/\q'=q/\z10g b N l q)/\(e≠0->l=[]/\q=0)/\
   (∀A R v,b=A++q27 (us v) 1++R->A.length=1->v.length=N->(∀x∈v,x=0\/x=1)->e=0/\l=v/\q=1+(q27 (us v) 1).length):=by
 rw[show F68.run frB frR 4000000 (b,(N:Int),())=_ from(F68_run _ _ _).trans (F68c1_eq 3999999 _ _),
  show F79.run Pkn frR 4000000 (b,(1:Int),(1:Int),(N:Int),())=_ from(F79_run _ _ _ _ _).trans (F79c1_eq 3999999 _ _ _ _)]
 have hps:q04 N 1<=10000:=by unfold q04;omega
 have hp:=q5n (n:=N) (w:=1) (by omega) (by omega)
 have hrp:=q6u (n:=N) (w:=1) (by omega) (by omega)
 rw[show F118.run Pk9 Rk6 4000000 ((N:Int),(1:Int),())=_ from hp,show F136.run Pk9 Rk6 4000000 ((N:Int),(1:Int),())=_ from hrp,
  dT (show(1:Int)=1 from rfl),cT,oB,oB]
 dsimp only
 rw[F79c4_eq (n:=3999998),q00 (z:=(b.length:Int)-1) (by omega) (by omega)]
 have us_id:∀v:List Int,(∀x∈v,x=0\/x=1)->us v=v:=by
  intro v hv
  refine List.ext_getElem (by rw[qbh]) fun j k1 k2=>?_
  have hj:(us v)[j]=us1 v j:=by simp[us]
  rw[hj,us1,gQ,gE k2]
  have:=hv _ (gM k2)
  show u64.wrap v[j]=v[j]
  rw[q01 (by omega) (by omega)]
 by_cases hs:b.length-1<q04 N 1
 ·rw[dT (by omega),cT,cT]
  refine⟨[],[],0,0,2,rfl,rfl,fun h=>by omega,fun _=>⟨rfl,rfl⟩,fun A R l' t1 t2 t3 t4=>?_⟩
  have:=congrArg List.length t1
  rw[lA,lA,q4r,qbh,t3]at this
  omega
 ·have hsl:=q1p (b:=b) (p:=1) (q:=1+q04 N 1) (by omega)
  obtain⟨U,e,u1,u2,u3,u4,u5⟩:=q96 (qbb hb 1 (1+q04 N 1)) (w:=1) (N:=N) (by omega) hN (by omega)
  have key:∀A R v,b=A++q27 (us v) 1++R->A.length=1->v.length=N->(∀x∈v,x=0\/x=1)->e=0/\U=v/\1+q04 N 1=1+(q27 (us v) 1).length:=by
   intro A R v t1 t2 t3 t4
   have hpl:(q27 (us v) 1).length=q04 N 1:=by rw[q4r,qbh,t3]
   have h7:=q3o (A:=A) (M:=q27 (us v) 1) (R:=R)
   rw[<-t1,t2,hpl]at h7
   have h7:slice b 1 (1+q04 N 1)=q27 (us v) 1:=h7
   have he:e=0:=by
    refine u5 ?_
    rw[h7,q8n,qbh]
    have:=ql1 1 (us v) v.length
    rw[t3]at this ⊢
    exact Nat.div_eq_of_lt this
   refine⟨he,?_,by rw[hpl]⟩
   rw[u3 he,h7,<-t3,<-qbh v]
   rw[us_id v t4]
   refine qlw fun i hi=>?_
   have:=t4 (v.getD i 0) (by rw[gQ,gE hi];exact gM _)
   exact⟨(v.getD i 0).toNat,by omega,by rw[Nat.pow_one];omega⟩
  have e1:i64.wrap ((1:Int)+((q04 N 1:Nat):Int))=((1+q04 N 1:Nat):Int):=by rw[q00 (by omega) (by omega)];omega
  rw[dF (by omega),cF,cF,dT (show(1:Int)=1 from rfl),cT,e1,if_pos (by omega),if_pos (by omega),if_pos (by omega),if_pos (by omega),if_pos (by omega),show Int.toNat (1:Int)=1 from rfl,tN,show List.drop 1 (List.take (1+q04 N 1) b)=slice b 1 (1+q04 N 1)from rfl,
   show F119.run upA upR 4000000 (slice b 1 (1+q04 N 1),(N:Int),(1:Int),())=_ from u1,show F137.run upA upR 4000000 (slice b 1 (1+q04 N 1),(N:Int),(1:Int),())=_ from u2,oB,oB]
  dsimp only
  by_cases he:e=0
  ·subst he
   have hU:=u3 rfl
   have hUl:U.length=N:=by rw[hU,q6f]
   have hw:∀i,i<U.length->i64.wrap (U.getD i 0)=U.getD i 0:=fun i hi=>by
    rw[hU]
    exact z179 (by omega)
   have k1:=qo4 (S:=q04 N 1) (by omega) (by omega) hw U.length 0 3999999 (by omega) (by omega) (by omega)
   have k2:=qcd (S:=q04 N 1) (e:=0) (by omega) (by omega) hw U.length 0 3999998 (by omega) (by omega) (by omega)
   rw[q77,hUl]at k1
   rw[show(!decide (((0:Nat):Int)=0))=false from rfl,cF,if_pos (by omega),if_pos (by simp only[lim];omega),tN,hUl]
   refine⟨U,U,1+q04 N 1,1+q04 N 1,0,k1,k2,fun _=>⟨rfl,rfl,fun x hx=>?_,hUl,by omega,by omega⟩,fun h=>absurd rfl h,fun A R v t1 t2 t3 t4=>?_⟩
   ·rw[hU]at hx
    have:=qqa x hx
    omega
   ·exact key A R v t1 t2 t3 t4
  ·have hU:=u4 he
   have k2:=qcd (U:=[]) (S:=q04 N 1) (e:=e) (by omega) (by simp) (fun i hi=>by simp at hi) 0 0 3999998 (by simp) (by simp) (by omega)
   rw[ne0 he,cT,hU]
   exact⟨[],[],0,1+q04 N 1,e,rfl,k2,fun h=>absurd h he,fun _=>⟨rfl,rfl⟩,fun A R v t1 t2 t3 t4=>absurd (key A R v t1 t2 t3 t4).1 he⟩
/-! Runs. -/
theorem qyu {l:List Run}(hc:okC l)(hl:l.length<=65536)(hs:q0k l<=65536):∀(d i n:Nat),l.length-i=d->i<=l.length->d<n->F83c3 n l (q0k (l.take i)) i=some ((q0k l,()),())
 |0,i,n,hd,hi,hn=>by
  obtain⟨n,rfl⟩:∃n',n=n'+1:=⟨n-1,by omega⟩
  rw[F83c3_eq,dF (by omega),cF,tL (by omega)]
 | d+1,i,n,hd,hi,hn=>by
  obtain⟨n,rfl⟩:∃n',n=n'+1:=⟨n-1,by omega⟩
  have hlt:i<l.length:=by omega
  have ih:=qyu hc hl hs d (i+1) n (by omega) (by omega) (by omega)
  have htk:l.take (i+1)=l.take i++[l.getD i q0x]:=by rw[List.take_succ_eq_append_getElem hlt,gQ,gE hlt];rfl
  have h0:0<=q0k (l.take i):=by
   have:=q2d (l:=l.take i) (fun r hr=>hc r (List.mem_of_mem_take hr))
   omega
  have hk:=qcb hc hlt
  have hsum:q0k (l.take (i+1))<=65536:=by
   have app:∀a c:List Run,q0k (a++c)=q0k a+q0k c:=by
    intro a
    induction a with
    |nil=>intro c;simp[q0k]
    |cons r a ih=>intro c;rw[List.cons_append,q0k,q0k,ih];omega
   have h:=app (l.take (i+1)) (l.drop (i+1))
   rw[List.take_append_drop]at h
   have:=q2d (qdx hc (i+1))
   omega
  rw[htk,q71]at ih hsum
  rw[F83c3_eq,dT (by omega),cT,if_pos (by omega),if_pos (by omega),tN,q00 (z:=(i:Int)+1) (by omega) (by omega),q00 (z:=q0k (l.take i)+(l.getD i q0x).count) (by omega) (by omega)]
  exact ih
theorem qa4 {l:List Int}(hx:okL l)(hl:l.length<=65536):okR (q12 l)/\okC (q12 l)/\qm1 (q12 l)/\qgl (q12 l)=l/\q0k (q12 l)=l.length/\(q12 l).length<=l.length:=by
 obtain⟨hok,hrl⟩:=qb6 hx (by omega)
 obtain⟨f1,f2⟩:=qcg (l:=l) l.length (nR _)
 rw[List.take_length]at f1 f2
 have hcC:okC (q12 l):=fun r hr=>by
  have h:=qd3 (l:=l) l.length (nR _)
  rw[List.take_length]at h
  obtain⟨j,hj,rfl⟩:=List.mem_iff_getElem.1 hr
  have:=h.cnt j hj
  rw[gQ,gE hj]at this
  have h1:1<=(q12 l)[j].count/\(q12 l)[j].count<=l.length:=this
  omega
 exact⟨hok,hcC,f2,f1,by rw[<-qak hcC,f1],hrl⟩
theorem qta:∀{l:List Run},(∀r∈l,-9223372036854775808<=r.value/\r.value<9223372036854775808)->okL (qgl l)
 |[],_=>fun x h=>by cases h
 | r::l,h=>by
  intro x hx
  unfold qgl at hx
  rcases mA.1 hx with h'|h'
  ·rw[List.eq_of_mem_replicate h']
   exact h r mS
  ·exact qta (fun r' h''=>h r' (mC _ h'')) x h'
end Go.Proofs.Tryz
