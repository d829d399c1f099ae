/- Law 12: encodings are bytes; the bits that a filter sets. -/
import Derived.Test.YtpnabclcnplchaaGreatL12Filt3
set_option linter.unusedVariables false
set_option linter.unusedSimpArgs false
namespace Go.Proofs.Tryz
open Go.Eng
open IntKind (i64 u64 u8)
theorem q3u {a c:List Int}(ha:byt a)(hc:byt c):byt (a++c):=fun x hx=>(mA.1 hx).elim (ha x) (hc x)
theorem qwn {a:List Int}(ha:byt a)(i:Nat):byt (a.drop i):=fun x hx=>ha x (List.mem_of_mem_drop hx)
theorem qno {l:List (List Int)}(h:∀w∈l,byt w)(i:Nat):byt (l.getD i []):=by
 rw[gQ]
 rcases Nat.lt_or_ge i l.length with h'|h'
 ·rw[gE h']
  exact h _ (gM h')
 ·rw[List.getElem?_eq_none h']
  exact fun x hx=>by cases hx
theorem ql5:∀(l:List Run) (v:Int),byt (q2d l v)
 |[],_=>fun x hx=>by cases hx
 |r::t,v=>by
  rw[q2d]
  exact q3u (q3u (q17 _) (q17 _)) (ql5 t r.value)
theorem qoy (l:List Run):byt (q8w l):=by
 unfold q8w
 exact q3u (q17 _) (ql5 l 0)
theorem qu9 (l:List Int):∀i,byt (nmB l i)
 |0=>fun x hx=>by cases hx
 |i+1=>by
  rw[nmB]
  refine q3u (qu9 l i) ?_
  rw[qz5]
  exact qe1 _ _
theorem qvn {l:List (List Int)}(h:∀w∈l,byt w):∀i,byt (txB l i)
 |0=>fun x hx=>by cases hx
 |i+1=>by
  rw[txB]
  exact q3u (q3u (qvn h i) (q17 _)) (qno h i)
theorem qt0 {l:List (List Int)}(h:∀w∈l,byt w):∀i,byt (fcB l i)
 |0=>fun x hx=>by cases hx
 |i+1=>by
  rw[fcB]
  exact q3u (q3u (q3u (qt0 h i) (q17 _)) (q17 _)) (qwn (qno h i) _)
theorem qwy {l:List (List Int)}(h:∀w∈l,byt w):byt (q7q l):=by
 unfold q7q
 refine q3u (q3u (q17 _) ?_) ?_
 ·intro x hx
  obtain⟨s,hs,hx⟩:=List.mem_flatten.1 hx
  obtain⟨w,hw,rfl⟩:=List.mem_map.1 hs
  exact q3u (q17 _) (h w ((q3j l w).1 hw)) x hx
 ·unfold qav
  split
  ·intro x hx
   rcases List.mem_cons.1 hx with rfl|hx
   ·omega
   ·exact qoy _ x hx
  ·intro x hx
   rcases List.mem_cons.1 hx with rfl|hx
   ·omega
   ·exact q9m _ _ x hx
theorem qs6 {v:Vec}(hx:okL v.ints)(h:∀w∈v.texts,byt w)(k:Int):byt (q0h v k):=by
 unfold q0h
 split
 ·unfold plE
  split
  ·exact q9m _ _
  ·split
   ·exact qu9 _ _
   ·exact qvn h _
 ·split
  ·exact qoy _
  ·split
   ·exact qeg _
   ·split
    ·exact qjl hx
    ·split
     ·exact qwy h
     ·exact qt0 h _
theorem qyy {v:Vec}(ht:okT v.texts):∀i,(fcB v.texts i).length<=20*i+tl v i
 |0=>by simp[fcB]
 |i+1=>by
  have h1:=qyy ht i
  have h2:=q58 ht i
  have h3:=qpg v.texts i
  have h4:=q03 (x:=shr v.texts i) (by omega)
  have h5:=q03 (x:=(v.texts.getD i []).length-shr v.texts i) (by omega)
  rw[fcB,show tl v (i+1)=tl v i+(v.texts.getD i []).length from rfl]
  simp only[lA,lD]
  omega
/-! Bits. -/
theorem qhx (p:Pred)(v:Vec)(N:Nat):∀k,k<=N->∀q,q<wcn N->∃x:Nat,(fwd p v N k).getD q 0=(x:Int)/\∀r,x.testBit r=(decide (r<64)&&(decide (64*q+r<k)&&q4j p (vAt v (64*q+r))))
 | 0,_,q,hq=>by
  refine⟨0,?_,fun r=>?_⟩
  ·unfold fwd zws
   rw[show qcs p v 0=[]from rfl,show qrb (List.replicate (wcn N) (0:Int)) []=List.replicate (wcn N) 0 from rfl,gQ,List.getElem?_replicate,if_pos hq]
   rfl
  ·rw[Nat.zero_testBit,dF (show¬64*q+r<0 by omega),Bool.false_and,Bool.and_false]
 | k + 1,hk,q,hq=>by
  obtain⟨x,hx,hb⟩:=qhx p v N k (by omega) q hq
  have hlt:x<2^64:=Nat.lt_pow_two_of_testBit x fun r hr=>by
   rw[hb r,dF (show¬r<64 by omega),Bool.false_and]
  have hl:=qej p v N k
  rw[qoc]
  cases hh:q4j p (vAt v k)with
  | false=>
   rw[if_neg (by decide)]
   refine⟨x,hx,fun r=>?_⟩
   rw[hb r]
   by_cases he:64*q+r=k
   ·rw[he,hh]
    simp only[Bool.and_false]
   ·rw[show decide (64*q+r<k+1)=decide (64*q+r<k) by
     by_cases h:64*q+r<k
     ·rw[dT h,dT (by omega)]
     ·rw[dF h,dF (by omega)]]
  | true=>
   rw[if_pos rfl]
   unfold setb
   rw[qd9 _ _ _ _ _ (by unfold wcn at hl;omega)]
   by_cases hkq:k/64=q
   ·rw [if_pos hkq,hkq,hx]
    have h64:(18446744073709551616:Nat)=2^64:=by decide
    have hp:(2:Nat)^(k%64)<=2^63:=Nat.pow_le_pow_right (by decide) (by omega)
    refine⟨x|||2^(k%64),qez (by omega) (by omega),fun r=>?_⟩
    rw[Nat.testBit_or,hb r,Nat.testBit_two_pow]
    by_cases hr:k%64=r
    ·rw[dT hr,Bool.or_true,dT (show r<64 by omega),dT (show 64*q+r<k+1 by omega),show 64*q+r=k by omega,hh]
     rfl
    ·rw[dF hr,Bool.or_false]
     by_cases hr4:r<64
     ·rw[show decide (64*q+r<k+1)=decide (64*q+r<k) by
       by_cases h:64*q+r<k
       ·rw[dT h,dT (by omega)]
       ·rw[dF h,dF (by omega)]]
     ·rw[dF hr4,Bool.false_and,Bool.false_and]
   ·rw[if_neg hkq]
    refine⟨x,hx,fun r=>?_⟩
    rw[hb r]
    by_cases hr4:r<64
    ·rw[show decide (64*q+r<k+1)=decide (64*q+r<k) by
      by_cases h:64*q+r<k
      ·rw[dT h,dT (by omega)]
      ·rw[dF h,dF (by omega)]]
    ·rw[dF hr4,Bool.false_and,Bool.false_and]
abbrev b4:List PK:=[PK.v (Ty.nm 4)]
theorem qqa {p:Pred}{v:Vec}{N:Nat}(hN:N<=10000):F27.run b4 [RK.v Ty.bool] 4000000 (({n:=(N:Int),words:=fwd p v N N}:Bits),())=some ((true,()),()):=by
 have hl:=qej p v N N
 have hw:i64.wrap ((i64.wrap ((N:Int)+63)).tdiv 64)=((wcn N:Nat):Int):=by
  rw[q00 (z:=(N:Int)+63) (by omega) (by omega),Int.tdiv_eq_ediv_of_nonneg (by omega),q00 (by omega) (by omega)]
  unfold wcn
  rw[show((N:Int)+63)/64=(((N+63)/64:Nat):Int) by omega]
 rw[show F27.run b4 [RK.v Ty.bool] 4000000 (({n:=(N:Int),words:=fwd p v N N}:Bits),())=_ from F27_run _ _]
 dsimp only
 rw[dF (show¬(N:Int)<0 by omega),cF,dF (show¬(1048576:Int)<(N:Int) by omega),cF,hw,hl,dT rfl,nT,cF,F27c3_eq (n:=3999999)]
 dsimp only
 have hmd:(N:Int).tmod 64=((N%64:Nat):Int):=by rw[Int.tmod_eq_emod_of_nonneg (by omega)];omega
 rw[hmd]
 by_cases h0:N%64=0
 ·rw[dT (show((N%64:Nat):Int)=0 by omega),cT]
 ·have hw1:1<=wcn N:=by unfold wcn;omega
  have hq:wcn N-1=N/64:=by unfold wcn;omega
  have hb:wcn N<=1000:=by unfold wcn;omega
  obtain⟨x,hx,hbits⟩:=qhx p v N N (nR _) (wcn N-1) (by omega)
  have hlt:x<2^(N%64):=Nat.lt_pow_two_of_testBit x fun r hr=>by
   rw[hbits r,hq,dF (show¬64*(N/64)+r<N by omega),Bool.false_and,Bool.and_false]
  rw[dF (show¬((N%64:Nat):Int)=0 by omega),cF,hl,q00 (z:=((wcn N:Nat):Int)-1) (by omega) (by omega),show((wcn N:Nat):Int)-1=((wcn N-1:Nat):Int) by omega,q01 (by omega) (by omega),if_pos (by omega),if_pos (by omega),if_pos (by omega),tN,tN,hx,
   show u64.bits=64 from rfl,Nat.min_eq_left (by omega),q5v,Nat.div_eq_of_lt hlt]
  rfl
theorem qjg {p:Pred}{v:Vec}{N i:Nat}(hN:N<=10000)(hi:i<N):F28.run Pk33 Rkh 4000000 (({n:=(N:Int),words:=fwd p v N N}:Bits),(i:Int),())=some ((q4j p (vAt v i),()),()):=by
 have hl:=qej p v N N
 have hq:i/64<wcn N:=by unfold wcn;omega
 obtain⟨x,hx,hbits⟩:=qhx p v N N (nR _) (i/64) hq
 have hlt:x<2^64:=Nat.lt_pow_two_of_testBit x fun r hr=>by
  rw[hbits r,dF (show¬r<64 by omega),Bool.false_and]
 have hb:=hbits (i%64)
 rw[dT (show i%64<64 by omega),show 64*(i/64)+i%64=i by omega,dT hi,Bool.true_and,Bool.true_and,Nat.testBit_eq_decide_div_mod_eq]at hb
 have hdv:(i:Int).tdiv 64=((i/64:Nat):Int):=by rw[Int.tdiv_eq_ediv_of_nonneg (by omega)];omega
 have hmd:(i:Int).tmod 64=((i%64:Nat):Int):=by rw[Int.tmod_eq_emod_of_nonneg (by omega)];omega
 have h64:(18446744073709551616:Nat)=2^64:=by decide
 have hdl:x/2^(i%64)<=x:=Nat.div_le_self _ _
 rw[show F28.run Pk33 Rkh 4000000 (({n:=(N:Int),words:=fwd p v N N}:Bits),(i:Int),())=_ from F28_run _ _ _]
 dsimp only
 rw[dT (show(0:Int)<=(i:Int) by omega),cT,dT (show(i:Int)<(N:Int) by omega),cT,hdv,hmd,q00 (z:=((i/64:Nat):Int)) (by omega) (by omega),q01 (z:=((i%64:Nat):Int)) (by omega) (by omega),if_pos (by omega),if_pos (by omega),if_pos (by omega),tN,tN,hx,
  show u64.bits=64 from rfl,Nat.min_eq_left (by omega),q5v]
 have hand:Go.bits BinOp.and u64 ((x/2^(i%64):Nat):Int) (1:Int)=((x/2^(i%64)%2:Nat):Int):=by
  have:=q36 (a:=x/2^(i%64)) (k:=1) (by omega) (by decide)
  simpa using this
 rw[hand,<-hb]
 by_cases h1:x/2^(i%64)%2=1
 ·rw[dT h1,dT (by omega)]
 ·rw[dF h1,dF (by omega)]
end Go.Proofs.Tryz
