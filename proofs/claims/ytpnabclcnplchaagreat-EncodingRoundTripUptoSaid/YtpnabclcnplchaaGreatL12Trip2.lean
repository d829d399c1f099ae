/- Law 10: 'DictionaryRoundTrip' returns true. -/
import Derived.Test.YtpnabclcnplchaaGreatL12Trip1
set_option linter.unusedVariables false
set_option linter.unusedSimpArgs false
namespace Go.Proofs.Tryz
open Go.Eng
open IntKind (i64 u64 u8)
/-! Runs. -/
theorem qvp {α:Type}{l:List α}(h:0<l.length):∃qgz r,l=qgz++[r]:=by
 have hne:l≠[]:=fun e=>by rw[e]at h;simp at h
 exact⟨l.dropLast,l.getLast hne,(List.dropLast_concat_getLast hne).symm⟩
theorem qds:∀(a c:List Run),qgl (a++c)=qgl a++qgl c
 |[],c=>rfl
 |r::a,c=>by rw[List.cons_append,qgl,qgl,qds a c,aA]
theorem qtb {out:List Run}{v:Int}(hc:∀r∈out,1<=r.count):qgl (q5p out v)=qgl out++[v]:=by
 unfold q5p
 by_cases h:0<out.length/\(out.getD (out.length-1) q0x).value=v
 ·rw[if_pos h]
  obtain⟨qgz,r,rfl⟩:=qvp h.1
  have hl:(qgz++[r]).length-1=qgz.length:=by simp
  have hg:(qgz++[r]).getD qgz.length q0x=r:=by rw[q4h,if_neg (by omega),if_pos rfl]
  have hr:=hc r (by simp)
  have hv:=h.2
  rw[hl,hg]at hv ⊢
  rw[List.set_append_right _ _ (nR _),Nat.sub_self,List.set_cons_zero,qds,qds,aA]
  congr 1
  simp only[qgl,List.append_nil]
  rw[show(r.count+1).toNat=r.count.toNat+1 by omega,List.replicate_succ',hv]
 ·rw[if_neg h,qds]
  rfl
theorem qwm {qgz:List Run}{r z:Run}(h:qm1 (qgz++[r]))(hv:z.value=r.value):qm1 (qgz++[z]):=by
 intro j h0 hj
 have:=h j h0 (by simpa using hj)
 rw[q4h,q4h]at this ⊢
 rw[lA,List.length_singleton]at hj
 by_cases h1:j<qgz.length
 ·rw[if_pos h1,if_pos (by omega)]at this ⊢
  exact this
 ·rw[if_neg h1,if_pos (by omega),if_pos (by omega)]at this ⊢
  rw[hv]
  exact this
theorem qs6 {out:List Run}{v:Int}(h:qm1 out):qm1 (q5p out v):=by
 unfold q5p
 by_cases hc:0<out.length/\(out.getD (out.length-1) q0x).value=v
 ·rw[if_pos hc]
  obtain⟨qgz,r,rfl⟩:=qvp hc.1
  have hl:(qgz++[r]).length-1=qgz.length:=by simp
  have hg:(qgz++[r]).getD qgz.length q0x=r:=by rw[q4h,if_neg (by omega),if_pos rfl]
  rw[hl,hg,List.set_append_right _ _ (nR _),Nat.sub_self,List.set_cons_zero]
  exact qwm h rfl
 ·rw[if_neg hc]
  exact qjk h (fun h0 e=>hc ⟨h0,e.symm⟩)
theorem qcg {l:List Int}:∀i,i<=l.length->qgl (q12 (l.take i))=l.take i/\qm1 (q12 (l.take i))
 |0,_=>⟨rfl,fun j h0 hj=>by simp[q12]at hj⟩
 | i+1,hi=>by
  obtain⟨h1,h2⟩:=qcg (l:=l) i (by omega)
  have ok:=qd3 (l:=l) i (by omega)
  rw[qb7 (by omega)]
  refine⟨?_,qs6 h2⟩
  rw[qtb (fun r hr=>by
   obtain⟨j,hj,rfl⟩:=List.mem_iff_getElem.1 hr
   have:=(ok.cnt j hj).1
   rwa [gQ,gE hj]at this),h1,List.take_succ_eq_append_getElem (by omega),gQ,gE (by omega)]
  rfl
theorem qfz {l:List Run}:∀i,i<=l.length->q2j l 0=q2j (l.take i) 0++q2j (l.drop i) (q49 l i):=by
 have key:∀(a c:List Run) (v:Int),q2j (a++c) v=q2j a v++q2j c (if a.length=0 then v else(a.getD (a.length-1) q0x).value):=by
  intro a
  induction a with
  |nil=>intro c v;rfl
  | cons r a ih=>
   intro c v
   have e:(if(r::a).length=0 then v else((r::a).getD ((r::a).length-1) q0x).value)=(if a.length=0 then r.value else(a.getD (a.length-1) q0x).value):=by
    rw[if_neg (by rw[lC];omega)]
    cases a with
    |nil=>rfl
    |cons x y=>
     rw[if_neg (by rw[lC];omega)]
     rfl
   rw[List.cons_append,q2j,q2j,ih,e,aA,aA,aA]
 intro i hi
 have h:=key (l.take i) (l.drop i) 0
 rw[List.take_append_drop]at h
 rw[h]
 congr 2
 unfold q49
 rw[lT,Nat.min_eq_left hi]
 by_cases h0:i=0
 ·rw[if_pos h0,if_pos h0]
 ·rw[if_neg h0,if_neg h0,gQ,List.getElem?_take_of_lt (by omega),<-gQ]
theorem qqg {d:Int}:(if zz d%2=0 then((zz d/2:Nat):Int)else-((zz d/2:Nat):Int)-1)=d:=by
 unfold zz
 by_cases h:0<=d
 ·rw[if_pos h,if_pos (by omega)];omega
 ·rw[if_neg h,if_neg (by omega)];omega
theorem qm0 {a l:Int}(h1:-9223372036854775808<=a)(h2:a<9223372036854775808):i64.wrap (l+i64.wrap (a-l))=a:=by
 simp only[IntKind.wrap,IntKind.bits,IntKind.signed]
 simp
 omega
theorem z101 {b P R:List Int}{l:List Run}(hl:b.length<=4000000000)(hb:b=P++q2j l 0++R)(hok:okR l)(hd:qm1 l)(hs:q0k l<=65536)(hc:okC l):∀(d i n:Nat),l.length-i=d->i<=l.length->3*d+2<n->
  F122c9 n b ((P.length+(q2j (l.take i) 0).length:Nat):Int) 0 (q49 l i) (q0k (l.take i)) l.length i (l.take i)=some ((l,(((P.length+(q2j l 0).length:Nat):Int),((0:Int),()))),())
 |0,i,n,hdd,hi,hn=>by
  obtain⟨n,rfl⟩:∃n',n=n'+2:=⟨n-2,by omega⟩
  rw[tL (by omega),F122c9_eq,dF (by omega),cF,F122c24_eq]
  rfl
 | d+1,i,n,hdd,hi,hn=>by
  obtain⟨n,rfl⟩:∃n',n=n'+3:=⟨n-3,by omega⟩
  have hlt:i<l.length:=by omega
  have hll:=q2d hc
  obtain⟨⟨a1,a2⟩,a3,a4⟩:=hok i hlt
  obtain⟨k1,k2⟩:=qcb hc hlt
  have hlv:-9223372036854775808<=q49 l i/\q49 l i<9223372036854775808:=by
   unfold q49
   by_cases h0:i=0
   ·rw[if_pos h0];omega
   ·rw[if_neg h0];exact(hok (i-1) (by omega)).1
  have hback:=qm0 (l:=q49 l i) a1 a2
  obtain⟨w1,w2⟩:=qcn ((l.getD i q0x).value-q49 l i)
  generalize hD:i64.wrap ((l.getD i q0x).value-q49 l i)=D at hback w1 w2
  have hz:=q8r (d:=D) (by omega) (by omega)
  have hsp:=qfz (l:=l) i hi
  have hdr:=qhu hlt
  rw[hdr,q2j,hD]at hsp
  have hb1:b=(P++q2j (l.take i) 0)++q0f (zz D)++(q0f (l.getD i q0x).count.toNat++q2j (l.drop (i+1)) (l.getD i q0x).value++R):=by rw[hb,hsp];simp only[aA]
  have hb2:b=(P++q2j (l.take i) 0++q0f (zz D))++q0f (l.getD i q0x).count.toNat++(q2j (l.drop (i+1)) (l.getD i q0x).value++R):=by rw[hb1];simp only[aA]
  have d1:=q41 hl hb1 hz
  have d2:=q41 hl hb2 (by omega)
  simp only[lA]at d1 d2
  have hsum0:0<=q0k (l.take i):=by
   have:=q2d (l:=l.take i) (fun r hr=>hc r (List.mem_of_mem_take hr))
   omega
  have htk:l.take (i+1)=l.take i++[l.getD i q0x]:=by rw[List.take_succ_eq_append_getElem hlt,gQ,gE hlt];rfl
  have hsum1:q0k (l.take (i+1))=q0k (l.take i)+(l.getD i q0x).count:=by rw[htk,q71]
  have hsum2:q0k (l.take (i+1))<=65536:=by
   have app:∀a c:List Run,q0k (a++c)=q0k a+q0k c:=by
    intro a
    induction a with
    |nil=>intro c;simp[q0k]
    |cons r a ih=>intro c;rw[List.cons_append,q0k,q0k,ih];omega
   have h:=app (l.take (i+1)) (l.drop (i+1))
   rw[List.take_append_drop]at h
   have:=q2d (qdx hc (i+1))
   omega
  have hx:¬(zz D=0/\0<i):=by
   rintro⟨h1,h0⟩
   have h2:=hd i h0 hlt
   have h3:q49 l i=(l.getD (i-1) q0x).value:=by unfold q49;rw[if_neg (by omega)]
   have h4:=qqg (d:=D)
   rw[h1]at h4
   have h4:(0:Int)=D:=h4
   rw[<-h4,Int.add_zero,h3,q00 (hok (i-1) (by omega)).1.1 (by have:=(hok (i-1) (by omega)).1.2;omega)]at hback
   exact h2 hback.symm
  obtain⟨T,hT⟩:∃T:Nat,q0k (l.take i)=(T:Int):=⟨(q0k (l.take i)).toNat,by omega⟩
  obtain⟨z,_,z1,_,z3⟩:=q97 hz
  rw[qqg]at z3
  rw[z3]at z1
  have g1:=z15v (k:=n+2) (total:=T) (last:=q49 l i) (out:=l.take i) hlt d1 hx
  have g2:=qzx (k:=n) (cnt:=l.length) (total:=T) (i:=i) (last:=q49 l i) (out:=l.take i) (by omega) (by omega) (by rw[lT];omega) d2 (by omega) z1
  rw[hT,g1,g2,hback]
  have ih:=z101 hl hb hok hd hs hc d (i+1) n (by omega) (by omega) (by omega)
  have e1:q49 l (i+1)=(l.getD i q0x).value:=by unfold q49;rw[if_neg (by omega)];rfl
  have e2:(q2j (l.take (i+1)) 0).length=(q2j (l.take i) 0).length+((q0f (zz D)).length+(q0f (l.getD i q0x).count.toNat).length):=by
   have h1:=qfz (l:=l) (i+1) (by omega)
   rw[e1]at h1
   have h2:=congrArg List.length (h1.symm.trans hsp)
   simp only[lA]at h2
   omega
  rw[e1,hsum1,hT,e2,htk]at ih
  rw[show((T+(l.getD i q0x).count.toNat:Nat):Int)=(T:Int)+(l.getD i q0x).count by omega,show((P.length+(q2j (l.take i) 0).length+(q0f (zz D)).length+(q0f (l.getD i q0x).count.toNat).length:Nat):Int)=((P.length+((q2j (l.take i) 0).length+((q0f (zz D)).length+(q0f (l.getD i q0x).count.toNat).length)):Nat):Int) by omega]
  have e3:({value:=(l.getD i q0x).value,count:=(((l.getD i q0x).count.toNat:Nat):Int)}:Run)=l.getD i q0x:=by
   rw[show(((l.getD i q0x).count.toNat:Nat):Int)=(l.getD i q0x).count by omega]
   cases l.getD i q0x
   rfl
  rw[e3]
  exact ih
theorem qpr {b P R:List Int}{l:List Run}(hl:b.length<=4000000000)(hb:b=P++q9b l++R)(hok:okR l)(hd:qm1 l)(hs:q0k l<=65536)(hc:okC l):
  F122.run q99 rdR 4000000 (b,(P.length:Int),())=some ((l,(((P.length+(q9b l).length:Nat):Int),((0:Int),()))),()):=by
 have hll:=q2d hc
 rw[show F122.run q99 rdR 4000000 (b,(P.length:Int),())=_ from F122_run _ _ _,show F122c1 4000000 b (P.length:Int)=_ from F122c1_eq 3999999 _ _]
 have hb1:b=P++q0f l.length++(q2j l 0++R):=by rw[hb,q9b];simp only[aA]
 have hb2:b=(P++q0f l.length)++q2j l 0++R:=by rw[hb,q9b];simp only[aA]
 rw[q41 hl hb1 (by omega),oB]
 dsimp only
 rw[show(!decide ((0:Int)=0))=false from rfl,cF,dF (show¬(65536:Int)<(l.length:Int) by omega),cF,q00 (z:=(l.length:Int)) (by omega) (by omega)]
 have:=z101 hl hb2 hok hd hs hc l.length 0 3999999 (by omega) (by omega) (by omega)
 rw[List.take_zero,show q2j [] 0=[]from rfl,List.length_nil,Nat.add_zero,lA]at this
 rw[q9b,lA,<-Nat.add_assoc]
 exact this
theorem qeg {l:List (List Int)}{i:Nat}(h:i<l.length):∃v:Nat,(q0l l).getD i 0=(v:Int)/\v<(words l).length/\(words l).getD v []=l.getD i []/\fnd (words l) (l.getD i [])=((v:Int),true):=by
 have hm:l.getD i []∈words l:=(q3u l _).2 (q51.2 ⟨i,h,rfl⟩)
 obtain⟨k,hk,hke⟩:=q51.1 hm
 have hf:fnd (words l) (l.getD i [])=((k:Int),true):=by
  have:=qii (words l) 0 k hk hke (fun j hj e=>by
   have:=q68 l j k hj hk
   rw[e,hke,q4t]at this
   cases this)
  rwa [Nat.zero_add]at this
 refine⟨k,?_,hk,hke,hf⟩
 rw[q0l,gQ,List.getElem?_map,gE h]
 show(fnd (words l) l[i]).1=_
 have:l.getD i []=l[i]:=by rw[gQ,gE h];rfl
 rw[<-this,hf]
theorem qki {b:List Int}{off q:Nat}{l:List (List Int)}(hl:l.length<=10000)(how:∀w∈l,w.length<=4096)(ho:off<=q)(hq:q<=b.length)(he:List.map Eng.q0n (q86 l)=List.map Eng.q0n (List.drop off (List.take q b))):∀(d i n:Nat),l.length-i=d->i<=l.length->d<n->
  F74c19 n b off q l.length i (words l) (l.take i) (q0l l)=some ((l,((q:Int),((0:Int),()))),())
 |0,i,n,hd,hi,hn=>by
  obtain⟨n,rfl⟩:∃n',n=n'+1:=⟨n-1,by omega⟩
  rw[tL (by omega)]
  have h1:=F74c19_eq n b off q l.length i (words l) l (q0l l)
  rw[dF (show¬(i:Int)<(l.length:Int) by omega),cF,qme hl how,oB,if_pos (show(0:Int)<=(off:Int) by omega),if_pos (show(off:Int)<=(q:Int) by omega),if_pos (show(q:Int)<=(b.length:Int) by omega)]at h1
  dsimp only at h1
  have he':List.map Eng.q0n (q86 l)=List.map Eng.q0n (List.drop ((off:Int)).toNat (List.take ((q:Int)).toNat b)):=by rw[tN,tN];exact he
  rw[dT he',nT,cF]at h1
  exact h1
 |d+1,i,n,hd,hi,hn=>by
  obtain⟨n,rfl⟩:∃n',n=n'+1:=⟨n-1,by omega⟩
  have hlt:i<l.length:=by omega
  have hwl:=q2b l
  have hcl:=q4p l
  obtain⟨c,hc,hcw,hcg,_⟩:=qeg hlt
  have hc':(q0l l).getD ((i:Int)).toNat 0=(c:Int):=by rw[tN];exact hc
  have h1:=F74c19_eq n b off q l.length i (words l) (l.take i) (q0l l)
  rw[hc',q01 (z:=((words l).length:Int)) (by omega) (by omega),tN,dT (show(i:Int)<(l.length:Int) by omega),cT,if_pos (show(0:Int)<=(i:Int) by omega),if_pos (show(i:Int)<((q0l l).length:Int) by omega),dF (show¬((words l).length:Int)<=(c:Int) by omega),cF,if_pos (show(0:Int)<=(c:Int) by omega),if_pos (show(c:Int)<((words l).length:Int) by omega),if_pos (show(l.take i).length+1<=lim by simp only[lT,lim];omega),q00 (z:=(i:Int)+1) (by omega) (by omega),hcg]at h1
  have ih:=qki hl how ho hq he d (i+1) n (by omega) (by omega) (by omega)
  have e1:l.take (i+1)=l.take i++[l.getD i []]:=by rw[List.take_succ_eq_append_getElem hlt,gQ,gE hlt];rfl
  rw[e1]at ih
  exact h1.trans ih
theorem qst {P R:List Int}{l:List (List Int)}(hl:l.length<=10000)(how:∀w∈l,w.length<=4096/\∀x∈w,0<=x/\x<256)(hlen:(P++q86 l++R).length<=100000000):
  F74.run wdA dcR 4000000 (P++q86 l++R,(P.length:Int),(l.length:Int),())=some ((l,(((P.length+(q86 l).length:Nat):Int),((0:Int),()))),()):=by
 have hwl:=q2b l
 have hcl:=q4p l
 generalize hb:P++q86 l++R=b at*
 have hble:P.length+(q86 l).length<=b.length:=by rw[<-hb];simp only[lA];omega
 have hW:∀w∈words l,w.length<=4096/\∀x∈w,0<=x/\x<256:=fun w hw=>how w ((q3u l w).1 hw)
 rw[show F74.run wdA dcR 4000000 (b,(P.length:Int),(l.length:Int),())=_ from F74_run _ _ _ _,show F74c1 4000000 b (P.length:Int) (l.length:Int)=_ from F74c1_eq 3999999 _ _ _]
 rw[dF (show¬(P.length:Int)<0 by omega),cF,dF (show¬(b.length:Int)<(P.length:Int) by omega),cF,dF (show¬(l.length:Int)<0 by omega),cF,dF (show¬(65536:Int)<(l.length:Int) by omega),cF]
 have e1:F74c3 3999999 b (P.length:Int) (l.length:Int)=_:=F74c3_eq 3999998 _ _ _
 have hb1:b=P++(q0f (words l).length++q0z (words l))++(qbc l++R):=by rw[<-hb,q86];simp only[aA]
 rw[qvj (by omega) hb1 (q68 l) hW hwl (by omega),oB]at e1
 dsimp only at e1
 have hel:(q86 l).length=(q0f (words l).length).length+(q0z (words l)).length+(qbc l).length:=by rw[q86,lA,lA]
 have fin:F74c15 3999998 b (P.length:Int) ((P.length+(q86 l).length:Nat):Int) (0:Int) (words l) (q0l l)=some ((l,(((P.length+(q86 l).length:Nat):Int),((0:Int),()))),()):=by
  have f1:=F74c15_eq 3999997 b (P.length:Int) ((P.length+(q86 l).length:Nat):Int) (0:Int) (words l) (q0l l)
  rw[show(!decide ((0:Int)=0))=false from rfl,cF,hcl]at f1
  have hdm:List.drop P.length (List.take (P.length+(q86 l).length) b)=q86 l:=by rw[<-hb];exact q3o
  have g:=qki (b:=b) (off:=P.length) (q:=P.length+(q86 l).length) hl (fun w hw=>(how w hw).1) (by omega) hble (by rw[hdm]) l.length 0 3999997 (by omega) (by omega) (by omega)
  exact f1.trans g
 generalize hA:P.length+(q0f (words l).length).length+(q0z (words l)).length=A at*
 have mark:∀(m:Int) (t:List Int),qbc l=m::t->b.getD A 0=m/\A<b.length/\b=(P++(q0f (words l).length++q0z (words l))++[m])++t++R/\(P++(q0f (words l).length++q0z (words l))++[m]).length=A+1:=by
  intro m t ht
  have h:=qil (b:=b) (pre:=P++(q0f (words l).length++q0z (words l))) (x:=m) (post:=t++R) (by rw[hb1,ht];rfl)
  have hlA:(P++(q0f (words l).length++q0z (words l))).length=A:=by rw[<-hA];simp only[lA];omega
  rw[hlA]at h
  exact⟨h.2,h.1,by rw[hb1,ht];simp,by rw[lA,hlA];rfl⟩
 have htail:(∃t,qbc l=0::t)\/(∃t,qbc l=1::t):=by
  unfold qbc
  split
  ·exact .inr ⟨_,rfl⟩
  ·exact .inl ⟨_,rfl⟩
 have hAlt:A<b.length:=by
  rcases htail with⟨t,ht⟩|⟨t,ht⟩
  ·exact(mark _ _ ht).2.1
  ·exact(mark _ _ ht).2.1
 rw[show(!decide ((0:Int)=0))=false from rfl,cF,dF (show¬(A:Int)=(b.length:Int) by omega),cF,if_pos (show(0:Int)<=(A:Int) by omega),if_pos (show(A:Int)<(b.length:Int) by omega),q00 (z:=(A:Int)+1) (by omega) (by omega)]at e1
 rw[e1]
 clear e1
 unfold qbc at mark hel
 by_cases hlt:(q9b (q12 (q0l l))).length<(q27 (q0l l) (cw (words l).length)).length
 ·rw[if_pos hlt]at mark hel
  obtain⟨m1,m2,m3,m4⟩:=mark _ _ rfl
  have m1':b.getD (Int.toNat (A:Int)) 0=1:=by rw[tN];exact m1
  obtain⟨hok,hrl⟩:=qe0 (l:=l) (by omega)
  obtain⟨f1,f2⟩:=qcg (l:=q0l l) (q0l l).length (nR _)
  rw[List.take_length]at f1 f2
  have hcC:okC (q12 (q0l l)):=fun r hr=>by
   have h:=qd3 (l:=q0l l) (q0l l).length (nR _)
   rw[List.take_length]at h
   obtain⟨j,hj,rfl⟩:=List.mem_iff_getElem.1 hr
   have:=h.cnt j hj
   rw[gQ,gE hj]at this
   have h1:1<=(q12 (q0l l))[j].count/\(q12 (q0l l))[j].count<=(q0l l).length:=this
   omega
  have hsum:q0k (q12 (q0l l))=l.length:=by
   rw[<-qak hcC,f1,hcl]
  have hr:=qpr (by omega) m3 hok f2 (by omega) hcC
  rw[m4]at hr
  obtain⟨x,e,x1,x2,x3,x4⟩:=qc1 hcC (by omega)
  have he:=x4 f2 (by omega)
  subst he
  obtain⟨x5,x6⟩:=x3 rfl
  rw[f1]at x5
  subst x5
  have hu:(q0l l).map u64.wrap=q0l l:=by
   apply List.ext_getElem?
   intro i
   rw[List.getElem?_map]
   by_cases hi:i<(q0l l).length
   ·obtain⟨v,v1,v2⟩:=q81 (l:=l) (i:=i) (by omega)
    rw[gE hi]
    rw[gQ,gE hi]at v1
    have v1:(q0l l)[i]=(v:Int):=v1
    rw[v1,Option.map_some,q01 (by omega) (by omega)]
   ·rw[List.getElem?_eq_none (by omega)];rfl
  have hrun:F129.run wdA cdR 4000000 (b,((A+1:Nat):Int),(l.length:Int),())=some ((q0l l,(((A+1+(q9b (q12 (q0l l))).length:Nat):Int),((0:Int),()))),()):=by
   have h1:F129c1 4000000 b ((A+1:Nat):Int) (l.length:Int)=_:=F129c1_eq 3999999 _ _ _
   rw[hr]at h1
   erw [oB]at h1
   dsimp only at h1
   rw[show(!decide ((0:Int)=0))=false from rfl,cF,x1]at h1
   erw [oB]at h1
   dsimp only at h1
   rw[eq0,cF,dT (show((q0l l).length:Int)=(l.length:Int) by omega),nT,cF]at h1
   obtain⟨i1,_⟩:=qjc (x:=q0l l) (q:=((A+1+(q9b (q12 (q0l l))).length:Nat):Int)) (by omega) 3999999 3999999 0 (by omega) (by omega) (by omega)
   rw[hu]at i1
   rw[show F129.run wdA cdR 4000000 (b,((A+1:Nat):Int),(l.length:Int),())=_ from F129_run _ _ _ _]
   exact h1.trans i1
  rw[m1',show decide ((1:Int)=0)=false from rfl,cF,show decide ((1:Int)=1)=true from rfl,cT,show(A:Int)+1=((A+1:Nat):Int) by omega,hrun,oB]
  dsimp only
  rw[lC]at hel
  rw[show A+1+(q9b (q12 (q0l l))).length=P.length+(q86 l).length by omega]
  exact fin
 ·rw[if_neg hlt]at mark hel
  obtain⟨m1,m2,m3,m4⟩:=mark _ _ rfl
  have m1':b.getD (Int.toNat (A:Int)) 0=0:=by rw[tN];exact m1
  have hp:=quv (l:=q0l l) (K:=(words l).length) (by omega) m3 (by omega) (by omega) (fun i hi=>by
   obtain⟨v,v1,v2,_⟩:=qeg (l:=l) (i:=i) (by omega)
   refine⟨v,v1,?_⟩
   unfold cw
   rw[if_neg (by omega)]
   exact Nat.lt_of_le_of_lt (by omega:v<=(words l).length-1) (qug _))
  rw[m4,hcl]at hp
  rw[m1',show decide ((0:Int)=0)=true from rfl,cT,show(A:Int)+1=((A+1:Nat):Int) by omega,hp,oB]
  dsimp only
  rw[lC]at hel
  rw[show A+1+(q27 (q0l l) (cw (words l).length)).length=P.length+(q86 l).length by omega]
  exact fin
end Go.Proofs.Tryz
