/- Law 10: what was encoded is decoded. -/
import Derived.Test.YtpnabclcnplchaaGreatL12Dec4
set_option linter.unusedVariables false
set_option linter.unusedSimpArgs false
namespace Go.Proofs.Tryz
open Go.Eng
open IntKind (i64 u64 u8)
/-! One number. -/
theorem qss {i:Nat}(hi:i<=9):(128:Nat)^i<=9223372036854775808/\(2:Nat)^(7*i)=128^i/\0<(128:Nat)^i:=by
 have hpow:(128:Nat)^i<=128^9:=Nat.pow_le_pow_right (by decide) hi
 have h9v:(128:Nat)^9=9223372036854775808:=by decide
 exact⟨by omega,by rw[Nat.pow_mul],Nat.pow_pos (by decide)⟩
theorem qod {i v c:Nat}(hi:i<=9)(hv:v<128^i)(hc:c<256)(hs:v+c%128*128^i<18446744073709551616):
  Go.bits BinOp.or u64 (v:Int) (u64.wrap (u64.wrap (Go.bits BinOp.and u8 (c:Int) (127:Int))*(2:Int)^min (i64.wrap ((7:Int)*(i:Int))).toNat u64.bits))=((v+c%128*128^i:Nat):Int):=by
 obtain⟨h1,h27,h3⟩:=qss hi
 have e7:i64.wrap ((7:Int)*(i:Int))=((7*i:Nat):Int):=by rw[q00 (by omega) (by omega)];omega
 have e127:Go.bits BinOp.and u8 (c:Int) (127:Int)=((c%128:Nat):Int):=by
  rw[show(127:Int)=((127:Nat):Int)from rfl,qsd hc (by decide),show c&&&127=c%2^7 from Nat.and_two_pow_sub_one_eq_mod c 7]
 rw[e127,e7,q01 (z:=((c%128:Nat):Int)) (by omega) (by omega),tN,show u64.bits=64 from rfl,Nat.min_eq_left (by omega),q34,h27,<-Int.natCast_mul,q01 (by omega) (by omega),qh2 (by omega) (by omega),<-h27,qay (by rw[h27];exact hv)]
theorem qoe {b:List Int}(hl:b.length<=4000000000){p i v c n:Nat}(hi:i<=9)(hp:p+i<b.length)(hc:b.getD (p+i) 0=(c:Int))(h9:¬(i=9/\1<c)):
  F121c5 (n+1) b p v i=F121c12 n b p v i c i:=by
 have hw:i64.wrap ((p:Int)+(i:Int))=((p+i:Nat):Int):=by rw[q00 (by omega) (by omega)];omega
 have hc':b.getD (((p+i:Nat):Int)).toNat 0=(c:Int):=by rw[tN];exact hc
 have h:=F121c5_eq n b p v i
 rw[hw,hc',dT (show(i:Int)<10 by omega),cT,dF (show¬(b.length:Int)<=((p+i:Nat):Int) by omega),cF,if_pos (show(0:Int)<=((p+i:Nat):Int) by omega),if_pos (show((p+i:Nat):Int)<(b.length:Int) by omega)]at h
 rw[h]
 by_cases h:i=9
 ·rw[dT (show(i:Int)=9 by omega),cT,dF (show¬(1:Int)<(c:Int) by omega),cF]
 ·rw[dF (show¬(i:Int)=9 by omega),cF]
theorem qil {b pre post:List Int}{x:Int}(h:b=pre++x::post):pre.length<b.length/\b.getD pre.length 0=x:=by
 subst h
 refine⟨by simp,?_⟩
 rw[gQ,List.getElem?_append_right (nR _),Nat.sub_self]
 rfl
theorem qof {b:List Int}(hl:b.length<=4000000000){p:Nat}:∀(n i v x:Nat) (pre post:List Int),b=pre++q0f x++post->pre.length=p+i->v<128^i->v+x*128^i<18446744073709551616->i<=9->(i=0\/x≠0)->2*(10-i)+3<n->
  F121c5 n b p v i=some ((((v+x*128^i:Nat):Int),(((p+i+(q0f x).length:Nat):Int),((0:Int),()))),())
 | n,i,v,x,pre,post,hb,hpre,hv,hx,hi,h0,hn=>by
  obtain⟨h1,h27,h3⟩:=qss hi
  have e7:i64.wrap ((7:Int)*(i:Int))=((7*i:Nat):Int):=by rw[q00 (by omega) (by omega)];omega
  have hw:i64.wrap ((p:Int)+(i:Int))=((p+i:Nat):Int):=by
   have:pre.length<=b.length:=by rw[hb];simp only[lA];omega
   rw[q00 (by omega) (by omega)];omega
  by_cases hs:x<128
  ·obtain⟨n,rfl⟩:∃n',n=n'+3:=⟨n-3,by omega⟩
   rw[q2f hs]at hb ⊢
   have hb':b=pre++(x:Int)::post:=by rw[hb];simp
   obtain⟨g1,g2⟩:=qil hb'
   rw[hpre]at g1 g2
   have h9:¬(i=9/\1<x):=by
    rintro⟨rfl,h⟩
    have:2*128^9<=x*128^9:=Nat.mul_le_mul_right _ h
    have h9v:(128:Nat)^9=9223372036854775808:=by decide
    omega
   have hm:x%128=x:=Nat.mod_eq_of_lt hs
   rw[qoe hl hi g1 g2 h9,F121c12_eq,qod hi hv (by omega) (by rw[hm];exact hx),e7,if_pos (by omega),dF (by omega),cF,hm]
   have stop:F121c16 (n+1) (p:Int) ((v+x*128^i:Nat):Int) (i:Int)=some ((((v+x*128^i:Nat):Int),(((p+i+[(x:Int)].length:Nat):Int),((0:Int),()))),()):=by
    rw[F121c16_eq,hw,q00 (by omega) (by omega)]
    rfl
   by_cases hx0:x=0
   ·rw[dT (show(x:Int)=0 by omega),cT,dF (by omega),cF]
    exact stop
   ·rw[dF (show¬(x:Int)=0 by omega),cF]
    exact stop
  ·have hlow:128*128^i<=x*128^i:=Nat.mul_le_mul_right _ (by omega)
   obtain⟨n,rfl⟩:∃n',n=n'+2:=⟨n-2,by omega⟩
   rw[qbi (by omega)]at hb ⊢
   have hb':b=pre++((128+x%128:Nat):Int)::(q0f (x/128)++post):=by rw[hb];simp
   obtain⟨g1,g2⟩:=qil hb'
   rw[hpre]at g1 g2
   have h9i:i≠9:=by
    rintro rfl
    have h9v:(128:Nat)^9=9223372036854775808:=by decide
    omega
   have hm:(128+x%128)%128=x%128:=by omega
   have hdm:x%128*128^i+x/128*128^(i+1)=x*128^i:=by
    rw[Nat.pow_succ',<-Nat.mul_assoc,<-Nat.add_mul]
    congr 1
    omega
   have hlt:x%128*128^i<=x*128^i:=by omega
   rw[qoe hl hi g1 g2 (by omega),F121c12_eq,qod hi hv (by omega) (by rw[hm];omega),e7,if_pos (by omega),dT (by omega),cT,hm,q00 (by omega) (by omega)]
   have ih:=qof hl (p:=p) n (i+1) (v+x%128*128^i) (x/128) (pre++[((128+x%128:Nat):Int)]) post (by rw[hb'];simp) (by rw[lA,List.length_singleton];omega) (by
    have hmm:x%128<128:=Nat.mod_lt _ (by decide)
    have:(x%128+1)*128^i<=128*128^i:=Nat.mul_le_mul_right _ (by omega)
    rw[Nat.add_mul,Nat.one_mul]at this
    rw[Nat.pow_succ']
    omega) (by omega) (by omega) (by omega) (by omega)
   rw[show((i:Int)+1)=((i+1:Nat):Int) by omega,ih]
   have e1:v+x%128*128^i+x/128*128^(i+1)=v+x*128^i:=by omega
   rw[e1,lC]
   congr 5
   omega
termination_by n i v x=>x
decreasing_by omega
theorem q41 {b pre post:List Int}{x:Nat}(hl:b.length<=4000000000)(hb:b=pre++q0f x++post)(hx:x<18446744073709551616):
  F121.run q99 qcq 4000000 (b,(pre.length:Int),())=some (((x:Int),(((pre.length+(q0f x).length:Nat):Int),((0:Int),()))),()):=by
 have hpl:pre.length<=b.length:=by rw[hb];simp only[lA];omega
 rw[show F121.run q99 qcq 4000000 (b,(pre.length:Int),())=_ from F121_run _ _ _,dF (by omega),cF,dF (by omega),cF,show F121c3 4000000 b (pre.length:Int)=_ from F121c3_eq 3999999 _ _]
 have:=qof hl (p:=pre.length) 3999999 0 0 x pre post hb (by omega) (by decide) (by omega) (by omega) (.inl rfl) (by omega)
 rw[Nat.zero_add,Nat.pow_zero,Nat.mul_one,Nat.add_zero]at this
 exact this
/-! Words. -/
theorem q3o {A M R:List Int}:List.drop A.length (List.take (A.length+M.length) (A++M++R))=M:=by
 rw[aA,List.take_length_add_append,List.take_append_of_le_length (nR _),List.take_length,List.drop_left]
theorem q5d {M:List Int}(h:∀x∈M,0<=x/\x<256):List.map Eng.q0n M=M:=by
 rw[List.map_congr_left (g:=id) (fun x hx=>by
  have:=h x hx
  show((x.toNat%256:Nat):Int)=x
  omega),List.map_id]
theorem qrx {b A M R:List Int}(hb:b=A++M++R)(h:∀x∈M,0<=x/\x<256):qbk b A.length M.length=M:=by
 rw[qbk,hb,q3o,q5d h]
theorem qqf {b P R:List Int}{W:List (List Int)}(hl:b.length<=4000000000)(hb:b=P++q0z W++R)(hW:q2l W)(hc:∀w∈W,w.length<=4096/\∀x∈w,0<=x/\x<256)(hWl:W.length<=65536):∀(d i n:Nat),W.length-i=d->i<=W.length->2*d<n->
  F127c8 n b ((P.length+(q0z (W.take i)).length:Nat):Int) W.length i (W.take i)=some ((W,(((P.length+(q0z W).length:Nat):Int),((0:Int),()))),())
 |0,i,n,hd,hi,hn=>by
  obtain⟨n,rfl⟩:∃n',n=n'+1:=⟨n-1,by omega⟩
  rw[F127c8_eq,dF (by omega),cF,tL (by omega)]
 | d+1,i,n,hd,hi,hn=>by
  obtain⟨n,rfl⟩:∃n',n=n'+2:=⟨n-2,by omega⟩
  have hlt:i<W.length:=by omega
  have hgm:W.getD i []∈W:=q51.2 ⟨i,hlt,rfl⟩
  obtain⟨c1,c2⟩:=hc _ hgm
  have hsp:q0z W=q0z (W.take i)++(q0f (W.getD i []).length++W.getD i []++q0z (W.drop (i+1))):=by
   have h1:W=W.take i++(W.getD i []::W.drop (i+1)):=by
    have:W.drop i=W.getD i []::W.drop (i+1):=by rw[List.drop_eq_getElem_cons hlt,gQ,gE hlt];rfl
    rw[<-this,List.take_append_drop]
   conv=>lhs;rw[h1]
   rw[q0z,List.map_append,List.flatten_append]
   rfl
  generalize hw:W.getD i []=w at*
  have hb1:b=(P++q0z (W.take i))++q0f w.length++(w++q0z (W.drop (i+1))++R):=by rw[hb,hsp];simp only[aA]
  have hb2:b=(P++q0z (W.take i)++q0f w.length)++w++(q0z (W.drop (i+1))++R):=by rw[hb1];simp only[aA]
  have hd1:=q41 hl hb1 (by omega)
  have hwd:=qrx hb2 c2
  simp only[lA]at hd1 hwd
  have hble:P.length+(q0z (W.take i)).length+(q0f w.length).length+w.length<=b.length:=by
   rw[hb2];simp only[lA];omega
  generalize hq:P.length+(q0z (W.take i)).length+(q0f w.length).length=q at*
  have h1:=F127c8_eq (n+1) b ((P.length+(q0z (W.take i)).length:Nat):Int) W.length i (W.take i)
  rw[dT (show(i:Int)<(W.length:Int) by omega),cT,hd1,oB]at h1
  dsimp only at h1
  rw[show(!decide ((0:Int)=0))=false from rfl,cF,dF (show¬(4096:Int)<(w.length:Int) by omega),cF,q00 (z:=(b.length:Int)-(q:Int)) (by omega) (by omega),q00 (z:=(w.length:Int)) (by omega) (by omega),dF (show¬(b.length:Int)-(q:Int)<(w.length:Int) by omega),cF,
   q00 (z:=(q:Int)+(w.length:Int)) (by omega) (by omega),if_pos (show(0:Int)<=(q:Int) by omega),if_pos (show(q:Int)<=(q:Int)+(w.length:Int) by omega),if_pos (show(q:Int)+(w.length:Int)<=(b.length:Int) by omega)]at h1
  have hwd':List.map Eng.q0n (List.drop (Int.toNat (q:Int)) (List.take ((q:Int)+(w.length:Int)).toNat b))=w:=by
   rw[tN,show((q:Int)+(w.length:Int)).toNat=q+w.length by omega]
   exact hwd
  rw[hwd']at h1
  have next:F127c21 (n+1) b ((q:Int)+(w.length:Int)) w W.length i (W.take i)=some ((W,(((P.length+(q0z W).length:Nat):Int),((0:Int),()))),()):=by
   rw[F127c21_eq,if_pos (show(W.take i).length+1<=lim by simp only[lT,lim];omega),q00 (z:=(i:Int)+1) (by omega) (by omega)]
   have ih:=qqf hl hb hW hc hWl d (i+1) n (by omega) (by omega) (by omega)
   have e1:W.take (i+1)=W.take i++[w]:=by
    rw[List.take_succ_eq_append_getElem hlt,<-hw,gQ,gE hlt];rfl
   have e2:=qga hlt
   rw[hw]at e2
   rw[e2,e1,lA,lA]at ih
   rw[show(q:Int)+(w.length:Int)=((P.length+((q0z (W.take i)).length+((q0f w.length).length+w.length)):Nat):Int) by omega,show(i:Int)+1=((i+1:Nat):Int) by omega]
   exact ih
  by_cases hi0:0<i
  ·have hwi:i64.wrap ((i:Int)-1)=((i-1:Nat):Int):=by rw[q00 (by omega) (by omega)];omega
   rw[dT (show(0:Int)<(i:Int) by omega),cT,hwi,if_pos (show(0:Int)<=((i-1:Nat):Int) by omega),if_pos (show((i-1:Nat):Int)<((W.take i).length:Int) by rw[lT];omega),tN]at h1
   have hr:Eng.q0s ((W.take i).getD (i-1) []) w=true:=by
    have:=hW (i-1) i (by omega) hlt
    rw[hw]at this
    rw[gQ,List.getElem?_take_of_lt (by omega),<-gQ]
    exact this
   rw[hr,nT,cF]at h1
   rw[h1]
   exact next
  ·rw[dF (show¬(0:Int)<(i:Int) by omega),cF]at h1
   rw[h1]
   exact next
theorem qvj {b P R:List Int}{W:List (List Int)}{N:Nat}(hl:b.length<=4000000000)(hb:b=P++(q0f W.length++q0z W)++R)(hW:q2l W)(hc:∀w∈W,w.length<=4096/\∀x∈w,0<=x/\x<256)(hWl:W.length<=N)(hN:N<=65536):
  F127.run wdA wdR 4000000 (b,(P.length:Int),(N:Int),())=some ((W,(((P.length+(q0f W.length).length+(q0z W).length:Nat):Int),((0:Int),()))),()):=by
 rw[show F127.run wdA wdR 4000000 (b,(P.length:Int),(N:Int),())=_ from F127_run _ _ _ _,show F127c1 4000000 b (P.length:Int) N=_ from F127c1_eq 3999999 _ _ _]
 have hb1:b=P++q0f W.length++(q0z W++R):=by rw[hb];simp only[aA]
 have hb2:b=(P++q0f W.length)++q0z W++R:=by rw[hb];simp only[aA]
 rw[q41 hl hb1 (by omega),oB,q01 (z:=(N:Int)) (by omega) (by omega)]
 dsimp only
 rw[show(!decide ((0:Int)=0))=false from rfl,cF,dF (show¬(N:Int)<(W.length:Int) by omega),cF,q00 (z:=(W.length:Int)) (by omega) (by omega)]
 have:=qqf hl hb2 hW hc (by omega) W.length 0 3999999 (by omega) (by omega) (by omega)
 rw[List.take_zero,show q0z []=[]from rfl,List.length_nil,Nat.add_zero,lA]at this
 exact this
/-! Packed codes. -/
theorem qek (M n:Nat):∀x∈dig M n,0<=x/\x<256:=by
 intro x hx
 obtain⟨p,_,rfl⟩:=List.mem_map.1 hx
 have:M/256^p%256<256:=Nat.mod_lt _ (by decide)
 omega
theorem qje:∀(n M:Nat),M<256^n->q2g (dig M n)=M
 |0,M,h=>by
  have:M=0:=by simpa using h
  rw[this];rfl
 | n+1,M,h=>by
  have e:dig M (n+1)=((M%256:Nat):Int)::dig (M/256) n:=by
   rw[dig,List.range_succ_eq_map,List.map_cons,List.map_map,dig]
   congr 1
   ·simp
   ·refine List.map_congr_left fun p _=>?_
    show((M/256^(p+1)%256:Nat):Int)=_
    rw[Nat.pow_succ',Nat.div_div_eq_div_mul]
  rw[e,q2g,qje n (M/256) (Nat.div_lt_of_lt_mul (by rw[<-Nat.pow_succ'];exact h)),tN]
  omega
theorem quy {w:Nat}{l:List Int}{k:Nat}:∀i,k<i->pk w l i/2^(k*w)%2^w=(l.getD k 0).toNat%2^w
 |0,h=>by omega
 | i +1,h=>by
  rw[pk]
  rcases Nat.lt_or_ge k i with hk|hk
  ·have e:(l.getD i 0).toNat%2^w*2^(i*w)=2^(k*w)*(2^w*((l.getD i 0).toNat%2^w*2^((i-k-1)*w))):=by
    have:i*w=k*w+(w+(i-k-1)*w):=by
     rw[<-Nat.add_assoc,<-Nat.succ_mul,<-Nat.add_mul]
     congr 1
     omega
    rw[this,Nat.pow_add,Nat.pow_add]
    simp only[Nat.mul_comm,Nat.mul_left_comm,Nat.mul_assoc]
   rw[e,Nat.add_mul_div_left _ _ (Nat.two_pow_pos _),Nat.add_mul_mod_self_left]
   exact quy i hk
  ·have:k=i:=by omega
   subst this
   rw[Nat.mul_comm _ (2^(k*w)),Nat.add_mul_div_left _ _ (Nat.two_pow_pos _),Nat.div_eq_of_lt (ql1 w l k),Nat.zero_add,Nat.mod_mod]
theorem q8n {l:List Int}{w:Nat}:q2g (q27 l w)=pk w l l.length:=by
 refine qje _ _ (Nat.lt_of_lt_of_le (ql1 w l l.length) ?_)
 rw[show(256:Nat)=2^8 from rfl,<-Nat.pow_mul]
 refine Nat.pow_le_pow_right (by decide) ?_
 unfold q04
 omega
theorem qlw {l:List Int}{w:Nat}(h:∀i,i<l.length->∃v:Nat,l.getD i 0=(v:Int)/\v<2^w):unp (q27 l w) w l.length=l:=by
 apply List.ext_getElem?
 intro i
 rw[unp,List.getElem?_map]
 by_cases hi:i<l.length
 ·obtain⟨v,h1,h2⟩:=h i hi
  rw[List.getElem?_range hi,q8n]
  have:=quy (w:=w) (l:=l) (k:=i) l.length hi
  simp only[Option.map_some,this,h1,tN,Nat.mod_eq_of_lt h2]
  rw[gE hi]
  rw[gQ,gE hi]at h1
  have h1:l[i]=(v:Int):=h1
  rw[h1]
 ·rw[List.getElem?_eq_none (by simpa using hi),List.getElem?_eq_none (by omega)]
  rfl
theorem quv {b A R:List Int}{l:List Int}{K:Nat}(hl:b.length<=100000000)(hb:b=A++q27 l (cw K)++R)(hK:K<=65536)(hN:l.length<=65536)(h:∀i,i<l.length->∃v:Nat,l.getD i 0=(v:Int)/\v<2^cw K):
  F128.run ckA cdR 4000000 (b,(A.length:Int),(l.length:Int),(K:Int),())=some ((l,(((A.length+(q27 l (cw K)).length:Nat):Int),((0:Int),()))),()):=by
 have hcw:=qsr (x:=K) (by omega)
 have hNw:l.length*cw K<=65536*64:=Nat.mul_le_mul hN (by omega)
 have hps:q04 l.length (cw K)<=600000:=by unfold q04;omega
 have hpl:=q4r l (cw K)
 have hble:A.length+q04 l.length (cw K)<=b.length:=by rw[hb];simp only[lA];omega
 have h1:F128c1 4000000 b (A.length:Int) (l.length:Int) K=_:=F128c1_eq 3999999 _ _ _ _
 rw[qg9 (by omega),oB]at h1
 dsimp only at h1
 rw[q5n (by omega) (by omega),oB]at h1
 dsimp only at h1
 rw[q00 (z:=(b.length:Int)-(A.length:Int)) (by omega) (by omega),dF (show¬(b.length:Int)-(A.length:Int)<((q04 l.length (cw K):Nat):Int) by omega),cF,q00 (z:=(A.length:Int)+((q04 l.length (cw K):Nat):Int)) (by omega) (by omega),if_pos (show(0:Int)<=(A.length:Int) by omega),if_pos (show(A.length:Int)<=(A.length:Int)+((q04 l.length (cw K):Nat):Int) by omega),if_pos (show(A.length:Int)+((q04 l.length (cw K):Nat):Int)<=(b.length:Int) by omega),oB]at h1
 dsimp only at h1
 have hsl:List.drop ((A.length:Int)).toNat (List.take ((A.length:Int)+((q04 l.length (cw K):Nat):Int)).toNat b)=q27 l (cw K):=by
  rw[tN,show((A.length:Int)+((q04 l.length (cw K):Nat):Int)).toNat=A.length+(q27 l (cw K)).length by omega,hb]
  exact q3o
 rw[hsl]at h1
 obtain⟨x,e,u1,u2,u3,u4,u5⟩:=q96 (quq (qek _ _)) (b:=q27 l (cw K)) (w:=cw K) (N:=l.length) (by omega) hN hpl
 have he:=u5 (by rw[q8n];exact Nat.div_eq_of_lt (ql1 _ _ _))
 subst he
 have hx:=u3 rfl
 rw[qlw h]at hx
 rw[u1,oB,hx]at h1
 rw[show F128.run ckA cdR 4000000 (b,(A.length:Int),(l.length:Int),(K:Int),())=_ from F128_run _ _ _ _ _,h1,hpl]
 rw[show((A.length:Int)+((q04 l.length (cw K):Nat):Int))=((A.length+q04 l.length (cw K):Nat):Int) by omega]
 rfl
end Go.Proofs.Tryz
