/- Law 12: frames of reference, of the program and of the reference. -/
import Derived.Test.YtpnabclcnplchaaGreatL12Enc
set_option linter.unusedVariables false
set_option linter.unusedSimpArgs false
namespace Go.Proofs.Tryz
open Go.Eng
open IntKind (i64 u64 u8)
/-! Rows that are filled place by place. -/
def fil (g:Nat->Int)(n i:Nat):List Int:=(List.range i).map g++List.replicate (n-i) 0
theorem q77 (g:Nat->Int)(n:Nat):fil g n 0=List.replicate n 0:=by simp[fil]
theorem q9v {g:Nat->Int}{n i:Nat}(h:i<=n):(fil g n i).length=n:=by simp[fil];omega
theorem q89 (g:Nat->Int)(n:Nat):fil g n n=(List.range n).map g:=by simp[fil]
theorem q8a {g:Nat->Int}{n i:Nat}{z:Int}(h:i<n)(hz:z=g i):(fil g n i).set i z=fil g n (i+1):=by
 subst hz
 obtain⟨m,hm⟩:∃m,n-i=m+1:=⟨n-i-1,by omega⟩
 have hr:((List.range i).map g).length=i:=by simp
 rw[fil,fil,hm,show n-(i+1)=m by omega,List.replicate_succ,List.set_append_right _ _ (by rw[hr];exact nR i),hr,Nat.sub_self,List.set_cons_zero,List.range_succ,List.map_append,aA]
 rfl
theorem q31 {g:Nat->Int}{n i:Nat}{d:Int}(h:i<n):((List.range n).map g).getD i d=g i:=by
 rw[gQ,List.getElem?_map,List.getElem?_range h]
 rfl
/-! Sizes of numbers. -/
theorem qly:∀(k n:Nat),n<128^k->(q0f n).length=max 1 ((q18 n+6)/7)
 |0,n,h=>by
  have:n=0:=by simpa using h
  subst this
  rw[q2f (by decide)]
  have:q18 0<=0:=q5c 0 0 (by decide)
  simp only[List.length_singleton]
  omega
 | k+1,n,h=>by
  by_cases hs:n<128
  ·rw[q2f hs]
   have:q18 n<=7:=q5c 7 n (by omega)
   simp only[List.length_singleton]
   omega
  ·have h1:n/128<128^k:=Nat.div_lt_of_lt_mul (by rw[Nat.mul_comm,<-Nat.pow_succ];exact h)
   rw[qbi (by omega),lC,qly k _ h1,q4o 7 n (by omega),show n/2^7=n/128 from rfl]
   have:1<=q18 (n/128):=by
    rw[q55 (by omega)]
    omega
   omega
theorem qba {x:Nat}(hx:x<18446744073709551616):F149.run Pka Rk6 4000000 ((x:Int),())=some (((((q0f x).length:Nat):Int),()),()):=by
 rw[show F149.run Pka Rk6 4000000 ((x:Int),())=_ from F149_run _ _,qcp hx,oB]
 have hb:q18 x<=64:=q5c 64 x hx
 have h6:i64.wrap ((q18 x:Int)+6)=((q18 x+6:Nat):Int):=by rw[q00 (by omega) (by omega)];omega
 dsimp only
 rw[h6,show(((q18 x+6:Nat):Int)).tdiv 7=(((q18 x+6)/7:Nat):Int)from by rw[Int.tdiv_eq_ediv_of_nonneg (by omega)];omega,q00 (by omega) (by omega),qly 10 x (by omega),qzs]
 congr 3
 split<;>omega
/-! What is added together. -/
theorem qhh {L:List (List Int)}(hL:L.length<=1000)(hF:L.flatten.length<=100000000):∀(d i n:Nat),L.length-i=d->i<=L.length->d<n->
  F97c3 n L (L.length:Int) i (L.take i).flatten=some ((L.flatten,()),())
 |0,i,n,hd,hi,hn=>by
  obtain⟨n,rfl⟩:∃n',n=n'+1:=⟨n-1,by omega⟩
  rw[F97c3_eq,dF (by omega),cF,tL (by omega)]
 |d+1,i,n,hd,hi,hn=>by
  obtain⟨n,rfl⟩:∃n',n=n'+1:=⟨n-1,by omega⟩
  have hlt:i<L.length:=by omega
  have hs:=qan hlt
  rw[F97c3_eq,dT (by omega),cT,if_pos (by omega),if_pos (by omega),tN,if_pos (by simp only[lim];omega),q00 (by omega) (by omega),<-q8d hlt]
  exact qhh hL hF d (i+1) n (by omega) (by omega) (by omega)
theorem qa5 {L:List (List Int)}(hL:L.length<=1000)(hF:L.flatten.length<=100000000):F97.run qs0 Rk1 4000000 (L,())=some ((L.flatten,()),()):=by
 rw[show F97.run qs0 Rk1 4000000 (L,())=_ from(F97_run _ _).trans (F97c1_eq 3999999 _)]
 exact qhh hL hF L.length 0 3999999 (by omega) (by omega) (by omega)
/-! The least of the numbers, and what they are above it. -/
def bas (l:List Int):Nat->Int
 |0=>0
 |i+1=>if i=0 then l.getD i 0 else if l.getD i 0<bas l i then l.getD i 0 else bas l i
def dif1 (l:List Int)(b:Int)(i:Nat):Int:=u64.wrap (u64.wrap (l.getD i 0)-u64.wrap b)
def q1w (l:List Int)(b:Int):List Int:=(List.range l.length).map (dif1 l b)
theorem q0m (l:List Int)(b:Int):(q1w l b).length=l.length:=by simp[q1w]
theorem qjb (z:Int):∃v:Nat,u64.wrap z=(v:Int)/\v<18446744073709551616:=by
 have h:u64.wrap z=z%18446744073709551616:=by simp[IntKind.wrap,IntKind.bits,IntKind.signed]
 exact⟨(z%18446744073709551616).toNat,by rw[h];omega,by omega⟩
theorem q5x (l:List Int)(b:Int):okU (q1w l b):=by
 intro i hi
 rw[q0m]at hi
 rw[q1w,q31 hi]
 exact qjb _
theorem qog {l:List Int}{b:Int}(hl:l.length<=1000000):∀(d i n:Nat),l.length-i=d->i<=l.length->d<n->
  F93c10 n b l (l.length:Int) i (fil (dif1 l b) l.length i)=some ((b,(q1w l b,())),())
 |0,i,n,hd,hi,hn=>by
  obtain⟨n,rfl⟩:∃n',n=n'+1:=⟨n-1,by omega⟩
  have:i=l.length:=by omega
  subst this
  rw[F93c10_eq,dF (by omega),cF,q89]
  rfl
 |d+1,i,n,hd,hi,hn=>by
  obtain⟨n,rfl⟩:∃n',n=n'+1:=⟨n-1,by omega⟩
  have hlt:i<l.length:=by omega
  rw[F93c10_eq,dT (by omega),cT,if_pos (by omega),if_pos (by omega),if_pos (by omega),if_pos (by rw[q9v hi];omega),tN,q00 (by omega) (by omega),q8a (g:=dif1 l b) (z:=u64.wrap (u64.wrap (l.getD i 0)-u64.wrap b)) hlt rfl]
  exact qog hl d (i+1) n (by omega) (by omega) (by omega)
theorem qsv {l:List Int}(hl:l.length<=1000000):∀(d i n:Nat),l.length-i=d->i<=l.length->2*d+l.length+2<n->
  F93c3 n l (bas l i) l (l.length:Int) i=some ((bas l l.length,(q1w l (bas l l.length),())),())
 |0,i,n,hd,hi,hn=>by
  obtain⟨n,rfl⟩:∃n',n=n'+1:=⟨n-1,by omega⟩
  have:i=l.length:=by omega
  subst this
  rw[F93c3_eq,dF (by omega),cF,if_pos (by simp only[lim];omega),tN,<-q77 (dif1 l (bas l l.length))]
  exact qog hl l.length 0 n (by omega) (by omega) (by omega)
 | d+1,i,n,hd,hi,hn=>by
  obtain⟨n,rfl⟩:∃n',n=n'+2:=⟨n-2,by omega⟩
  have hlt:i<l.length:=by omega
  have ih:=qsv hl d (i+1) n (by omega) (by omega) (by omega)
  have hnext:F93c7 (n+1) l (bas l (i+1)) l (l.length:Int) i=some ((bas l l.length,(q1w l (bas l l.length),())),()):=by
   rw[F93c7_eq,q00 (by omega) (by omega)]
   exact ih
  rw[F93c3_eq,dT (by omega),cT,if_pos (by omega),if_pos (by omega),tN]
  rw[bas]at hnext
  by_cases h0:i=0
  ·rw[if_pos h0]at hnext
   rw[dT (by omega),cT]
   exact hnext
  ·rw[if_neg h0]at hnext
   rw[dF (by omega),cF]
   by_cases h1:l.getD i 0<bas l i
   ·rw[if_pos h1]at hnext
    rw[dT h1,cT]
    exact hnext
   ·rw[if_neg h1]at hnext
    rw[dF h1,cF]
    exact hnext
theorem qx4 {l:List Int}(hl:l.length<=1000000):F93.run Pkc Rk2f 4000000 (l,())=some ((bas l l.length,(q1w l (bas l l.length),())),()):=by
 rw[show F93.run Pkc Rk2f 4000000 (l,())=_ from(F93_run _ _).trans (F93c1_eq 3999999 _)]
 exact qsv hl l.length 0 3999999 (by omega) (by omega) (by omega)
theorem qp4 {l:List Int}(hl:l.length<=1000000):∀(d i n:Nat),l.length-i=d->i<=l.length->2*d<n->F158c3 n l (bas l i) i=some ((bas l l.length,()),())
 |0,i,n,hd,hi,hn=>by
  obtain⟨n,rfl⟩:∃n',n=n'+1:=⟨n-1,by omega⟩
  have:i=l.length:=by omega
  subst this
  rw[F158c3_eq,dF (by omega),cF]
 | d+1,i,n,hd,hi,hn=>by
  obtain⟨n,rfl⟩:∃n',n=n'+2:=⟨n-2,by omega⟩
  have hlt:i<l.length:=by omega
  have ih:=qp4 hl d (i+1) n (by omega) (by omega) (by omega)
  have hnext:F158c4 (n+1) l (bas l (i+1)) i=some ((bas l l.length,()),()):=by
   rw[F158c4_eq,q00 (by omega) (by omega)]
   exact ih
  rw[F158c3_eq,dT (by omega),cT]
  simp only[if_pos (show(0:Int)<=(i:Int) by omega),if_pos (show(i:Int)<(l.length:Int) by omega),tN]
  rw[bas]at hnext
  by_cases h0:i=0
  ·rw[if_pos h0]at hnext
   rw[dT (by omega),cT]
   exact hnext
  ·rw[if_neg h0]at hnext
   rw[dF (by omega),cF]
   by_cases h1:l.getD i 0<bas l i
   ·rw[if_pos h1]at hnext
    rw[dT h1,cT]
    exact hnext
   ·rw[if_neg h1]at hnext
    rw[dF h1,cF]
    exact hnext
theorem qku {l:List Int}(hl:l.length<=1000000):F158.run Pkc Rk6 4000000 (l,())=some ((bas l l.length,()),()):=by
 rw[show F158.run Pkc Rk6 4000000 (l,())=_ from F158_run _ _]
 exact qp4 hl l.length 0 4000000 (by omega) (by omega) (by omega)
theorem q9o {l:List Int}(h:∀x∈l,-9223372036854775808<=x/\x<9223372036854775808):∀i,i<=l.length->-9223372036854775808<=bas l i/\bas l i<9223372036854775808
 |0,_=>by unfold bas;omega
 | i+1,hi=>by
  have h1:=h (l.getD i 0) (by rw[gQ,gE (by omega)];exact gM _)
  have h2:=q9o h i (by omega)
  unfold bas
  split
  ·exact h1
  ·split
   ·exact h1
   ·exact h2
theorem z12u (v k:Nat)(hk:k<=64):(v:Int)/(2:Int)^min (Int.toNat ((k:Nat):Int)) u64.bits=((v/2^k:Nat):Int):=shrs v k hk
/-! What stands above the low bits. -/
def hi (l:List Int)(w i:Nat):Nat:=(l.getD i 0).toNat/2^w
def exc (l:List Int)(w:Nat):Nat->Nat
 |0=>0
 |i+1=>if 0<hi l w i then exc l w i+1 else exc l w i
def pat (l:List Int)(w:Nat):Nat->List Int
 |0=>[]
 |i+1=>if 0<hi l w i then pat l w i++q0f i++q0f (hi l w i)else pat l w i
theorem qct (l:List Int)(w:Nat):∀i,exc l w i<=i
 |0=>nR _
 |i+1=>by
  have:=qct l w i
  unfold exc
  split<;>omega
theorem qu4 {l:List Int}(hu:okU l){w i:Nat}(h:i<l.length):hi l w i<18446744073709551616:=by
 obtain⟨v,h1,h2⟩:=hu i h
 unfold hi
 rw[h1,tN]
 exact Nat.lt_of_le_of_lt (Nat.div_le_self _ _) h2
theorem qcc {l:List Int}(hu:okU l)(hl:l.length<=1000000){w:Nat}:∀i,i<=l.length->(pat l w i).length<=20*i
 |0,_=>by simp[pat]
 |i+1,hi1=>by
  have h1:=qcc hu hl (w:=w) i (by omega)
  have h2:=q03 (qu4 hu (w:=w) (i:=i) (by omega))
  have h3:=q03 (x:=i) (by omega)
  unfold pat
  split
  ·rw[lA,lA];omega
  ·omega
theorem qoz {d w:Nat}(hd:d<18446744073709551616)(hw:w<=64):F96.run Pkj Rkf 4000000 ((d:Int),(w:Int),())=some ((((d/2^w:Nat):Int),()),()):=by
 rw[show F96.run Pkj Rkf 4000000 ((d:Int),(w:Int),())=_ from F96_run _ _ _]
 by_cases h:64<=w
 ·have:w=64:=by omega
  subst this
  rw[dT (by omega),cT,Nat.div_eq_of_lt hd]
  rfl
 ·rw[dF (by omega),cF,q01 (by omega) (by omega),if_pos (by omega),z12u d w hw]
theorem qvc {d w:Nat}(hd:d<18446744073709551616)(hw:w<=64):F160.run Pkj Rkf 4000000 ((d:Int),(w:Int),())=some ((((d/2^w:Nat):Int),()),()):=by
 rw[show F160.run Pkj Rkf 4000000 ((d:Int),(w:Int),())=_ from F160_run _ _ _]
 by_cases h:w=64
 ·subst h
  rw[dT (by omega),cT,Nat.div_eq_of_lt hd]
  rfl
 ·rw[dF (by omega),cF,q01 (by omega) (by omega),if_pos (by omega),z12u d w hw]
theorem qy7 {d w:Nat}(hd:d<18446744073709551616)(hw:w<=64):F159.run Pkj Rkf 4000000 ((d:Int),(w:Int),())=some ((((d%2^w:Nat):Int),()),()):=by
 rw[show F159.run Pkj Rkf 4000000 ((d:Int),(w:Int),())=_ from F159_run _ _ _]
 by_cases h:w=64
 ·subst h
  rw[dT (by omega),cT,Nat.mod_eq_of_lt hd]
 ·have hp:2^w<=2^63:=Nat.pow_le_pow_right (by decide) (by omega)
  have hp1:0<2^w:=Nat.two_pow_pos w
  have h64:u64.bits=64:=rfl
  rw[dF (by omega),cF,q01 (z:=(w:Int)) (by omega) (by omega),if_pos (by omega),tN,h64,Nat.min_eq_left hw,Int.one_mul,q34,
   q01 (z:=((2^w:Nat):Int)) (by omega) (by omega),show(((2^w:Nat):Int)-1)=((2^w-1:Nat):Int) by omega,q01 (by omega) (by omega),q4n hd hw]
def frT (l:List Int)(w:Nat):List Int:=
 q0f (zz (bas l l.length))++q0f w++q0f (exc (q1w l (bas l l.length)) w l.length)++q27 (q1w l (bas l l.length)) w++pat (q1w l (bas l l.length)) w l.length
def qkw (D:List Int)(w i:Nat):List Int:=(List.range i).map fun j=>(((D.getD j 0).toNat%2^w:Nat):Int)
theorem qdw (D:List Int)(w i:Nat):(qkw D w i).length=i:=by simp[qkw]
theorem qxs {D:List Int}(hu:okU D){w:Nat}:okU (qkw D w D.length):=by
 intro i hi
 rw[qdw]at hi
 obtain⟨v,h1,h2⟩:=hu i hi
 refine⟨(D.getD i 0).toNat%2^w,by rw[qkw,q31 hi],?_⟩
 rw[h1,tN]
 exact Nat.lt_of_le_of_lt (Nat.mod_le _ _) h2
theorem quz {D:List Int}{w n:Nat}:∀i,i<=n->pk w (qkw D w n) i=pk w D i
 |0,_=>rfl
 |i+1,h=>by
  rw[pk,pk,quz i (by omega),show(qkw D w n).getD i 0=(((D.getD i 0).toNat%2^w:Nat):Int)from q31 (by omega),tN,Nat.mod_mod]
theorem qrd (D:List Int)(w:Nat):q27 (qkw D w D.length) w=q27 D w:=by
 unfold q27
 rw[qdw,quz _ (nR _)]
theorem qb0 {D:List Int}(hl:D.length<=50000){w:Nat}(hw:w<=64):(q27 D w).length<=400000:=by
 rw[q4r]
 have:=Nat.mul_le_mul hl hw
 unfold q04
 omega
theorem qti {l:List Int}(hl:l.length<=50000)(hx:∀x∈l,-9223372036854775808<=x/\x<9223372036854775808){w:Nat}(hw:w<=64):(frT l w).length<=1500000:=by
 have hb:=q9o hx l.length (nR _)
 have h1:=q03 (q8r hb.1 hb.2)
 have h2:=q03 (x:=w) (by omega)
 have h3:=q03 (x:=exc (q1w l (bas l l.length)) w l.length) (by have:=qct (q1w l (bas l l.length)) w l.length;omega)
 have h4:=qb0 (D:=q1w l (bas l l.length)) (by rw[q0m];exact hl) hw
 have h5:=qcc (q5x l (bas l l.length)) (by rw[q0m];omega) (w:=w) l.length (by rw[q0m];exact nR _)
 unfold frT
 simp only[lA]
 omega
/-! The reference: a list in one width, and the width that gives the fewest bytes. -/
def okL (l:List Int):Prop:=∀x∈l,-9223372036854775808<=x/\x<9223372036854775808
theorem qw9 {l:List Int}(hl:l.length<=50000)(hx:okL l){w:Nat}(hw:w<=64):∀(d i n:Nat),l.length-i=d->i<=l.length->d<n->
  F112c6 n l (w:Int) (bas l l.length) ((exc (q1w l (bas l l.length)) w i:Nat):Int) (i:Int) (qkw (q1w l (bas l l.length)) w i) (pat (q1w l (bas l l.length)) w i)=some ((frT l w,()),())
 |0,i,n,hd,hi',hn=>by
  obtain⟨n,rfl⟩:∃n',n=n'+1:=⟨n-1,by omega⟩
  have:i=l.length:=by omega
  subst this
  have hb:=q9o hx l.length (nR _)
  have hz:=q8r hb.1 hb.2
  have h1:=q03 hz
  have h2:=q03 (x:=w) (by omega)
  have he:=qct (q1w l (bas l l.length)) w l.length
  have h3:=q03 (x:=exc (q1w l (bas l l.length)) w l.length) (by omega)
  have hu:=q5x l (bas l l.length)
  have h4:=qb0 (D:=q1w l (bas l l.length)) (by rw[q0m];exact hl) hw
  have h5:=qcc hu (by rw[q0m];omega) (w:=w) l.length (by rw[q0m];exact nR _)
  have hlo:=qxs hu (w:=w)
  rw[q0m]at hlo
  have hpk:=qrd (q1w l (bas l l.length)) w
  rw[q0m]at hpk
  rw[F112c6_eq,dF (by omega),cF,qb8 hb.1 hb.2,oB]
  dsimp only
  rw[q1c hz,oB]
  dsimp only
  rw[q01 (z:=(w:Int)) (by omega) (by omega),q1c (by omega),oB]
  dsimp only
  rw[if_pos (by simp only[lim];omega),q01 (by omega) (by omega),q1c (by omega),oB]
  dsimp only
  rw[if_pos (by simp only[lim,lA];omega),qfu hlo hw (by rw[qdw];exact hl),oB,hpk]
  dsimp only
  rw[if_pos (by simp only[lim,lA];omega),if_pos (by simp only[lim,lA];omega)]
  rfl
 | d+1,i,n,hd,hi',hn=>by
  obtain⟨n,rfl⟩:∃n',n=n'+1:=⟨n-1,by omega⟩
  have hlt:i<l.length:=by omega
  have hu:=q5x l (bas l l.length)
  have hil:i<(q1w l (bas l l.length)).length:=by rw[q0m];exact hlt
  have he:=qct (q1w l (bas l l.length)) w i
  have h5:=qcc hu (by rw[q0m];omega) (w:=w) i (by rw[q0m];omega)
  have ih:=qw9 hl hx hw d (i+1) n (by omega) (by omega) (by omega)
  have hg:u64.wrap (u64.wrap (l.getD i 0)-u64.wrap (bas l l.length))=(q1w l (bas l l.length)).getD i 0:=by
   rw[q1w,q31 hlt]
   rfl
  have hH:=qu4 hu (w:=w) hil
  have v1:=q03 (x:=i) (by omega)
  have v2:=q03 hH
  have hlow:qkw (q1w l (bas l l.length)) w (i+1)=qkw (q1w l (bas l l.length)) w i++[((((q1w l (bas l l.length)).getD i 0).toNat%2^w:Nat):Int)]:=by
   unfold qkw
   rw[List.range_succ,List.map_append]
   rfl
  rw[hlow]at ih
  unfold exc pat at ih
  obtain⟨v,hv,hvl⟩:=hu i hil
  rw[F112c6_eq,dT (by omega),cT,if_pos (by omega),if_pos (by omega),tN,hg,hv,qy7 hvl hw,oB]
  dsimp only
  have hvn:((q1w l (bas l l.length)).getD i 0).toNat=v:=by rw[hv,tN]
  have hhi:hi (q1w l (bas l l.length)) w i=v/2^w:=by rw[hi,hvn]
  rw[hvn]at ih
  have hrun:=qvc hvl hw
  rw[hhi]at ih hH v2
  generalize v/2^w=q at ih hH v2 hrun
  rw[if_pos (by rw[qdw];simp only[lim];omega),hrun,oB]
  dsimp only
  by_cases h0:0<q
  ·rw[if_pos h0,if_pos h0]at ih
   rw[dF (show¬((q:Nat):Int)=0 by omega)]
   simp only[nF,cT]
   rw[q01 (z:=(i:Int)) (by omega) (by omega),q1c (by omega),oB]
   dsimp only
   rw[if_pos (by simp only[lim];omega),q1c hH,oB]
   dsimp only
   rw[if_pos (by simp only[lim,lA];omega),q00 (z:=((exc (q1w l (bas l l.length)) w i:Nat):Int)+1) (by omega) (by omega),q00 (by omega) (by omega)]
   exact ih
  ·rw[if_neg h0,if_neg h0]at ih
   rw[dT (show((q:Nat):Int)=0 by omega)]
   simp only[nT,cF]
   rw[q00 (by omega) (by omega)]
   exact ih
theorem qjg {l:List Int}(hl:l.length<=50000)(hx:okL l){w:Nat}(hw:w<=64):F112.run Pkt Rk1 4000000 (l,(w:Int),())=some ((frT l w,()),()):=by
 rw[show F112.run Pkt Rk1 4000000 (l,(w:Int),())=_ from(F112_run _ _ _).trans (F112c1_eq 3999999 _ _),qku (by omega),oB]
 exact qw9 hl hx hw l.length 0 3999999 (by omega) (by omega) (by omega)
def nar (g:Nat->Nat):Nat->Nat
 |0=>0
 |w+1=>if g w<g (nar g w)then w else nar g w
theorem qfl (g:Nat->Nat):∀w,nar g w<=w-1/\(0<w->nar g w<w)
 |0=>by simp[nar]
 | w+1=>by
  have:=qfl g w
  unfold nar
  split
  ·omega
  ·constructor
   ·omega
   ·intro _
    rcases Nat.eq_zero_or_pos w with h|h
    ·subst h;simp[nar]
    ·have:=this.2 h;omega
theorem z126 (g:Nat->Nat):nar g 1=0:=by simp[nar]
def gl (l:List Int)(w:Nat):Nat:=(frT l w).length
theorem qsg {l:List Int}(hl:l.length<=50000)(hx:okL l):∀(d w n:Nat),65-w=d->w<=65->1<=w->d<n->
  F111c3 n l ((nar (gl l) w:Nat):Int) ((gl l (nar (gl l) w):Nat):Int) (w:Int)=some ((bas l l.length,(((nar (gl l) 65:Nat):Int),())),())
 |0,w,n,hd,hw,h1,hn=>by
  obtain⟨n,rfl⟩:∃n',n=n'+1:=⟨n-1,by omega⟩
  have:w=65:=by omega
  subst this
  rw[F111c3_eq,dF (by omega),cF,qku (by omega),oB]
 | d+1,w,n,hd,hw,h1,hn=>by
  obtain⟨n,rfl⟩:∃n',n=n'+1:=⟨n-1,by omega⟩
  have ih:=qsg hl hx d (w+1) n (by omega) (by omega) (by omega) (by omega)
  rw[F111c3_eq,dT (by omega),cT,qjg hl hx (by omega),oB]
  dsimp only
  rw[show(frT l w).length=gl l w from rfl,q00 (by omega) (by omega)]
  unfold nar at ih
  by_cases h:gl l w<gl l (nar (gl l) w)
  ·rw[if_pos h]at ih
   rw[dT (by omega),cT]
   exact ih
  ·rw[if_neg h]at ih
   rw[dF (by omega),cF]
   exact ih
def frE (l:List Int):List Int:=frT l (nar (gl l) 65)
theorem q6t {l:List Int}(hl:l.length<=50000)(hx:okL l):F64.run Pkc Rk1 4000000 (l,())=some ((frE l,()),()):=by
 have hn:=(qfl (gl l) 65).1
 have hb:F111.run Pkc Rk26 4000000 (l,())=some ((bas l l.length,(((nar (gl l) 65:Nat):Int),())),()):=by
  rw[show F111.run Pkc Rk26 4000000 (l,())=_ from F111_run _ _,
   show F112.run Pkt Rk1 4000000 (l,(0:Int),())=_ from qjg hl hx (w:=0) (by omega),oB]
  have:=qsg hl hx 64 1 4000000 (by omega) (by omega) (by omega) (by omega)
  rw[z126]at this
  exact this
 rw[show F64.run Pkc Rk1 4000000 (l,())=_ from(F64_run _ _).trans (F64c1_eq 3999999 _),hb,oB]
 dsimp only
 rw[qjg hl hx (by omega),oB]
 rfl
/-! The program: the bytes that every width gives, the width, the bytes. -/
def GL (l:List Int)(w:Nat):Int:=((gl l w:Nat):Int)
theorem z18l (l:List Int)(w:Nat):gl l w=(q0f (zz (bas l l.length))).length+(q0f w).length+q04 l.length w+(pat (q1w l (bas l l.length)) w l.length).length+(q0f (exc (q1w l (bas l l.length)) w l.length)).length:=by
 unfold gl frT
 simp only[lA,q4r,q0m]
 omega
theorem qq1 {l:List Int}(hl:l.length<=50000)(hx:okL l){w:Nat}(hw:w<65){z:List Int}:∀(d i k:Nat),l.length-i=d->i<=l.length->
  F95c8 (k+d+1) (bas l l.length) (q1w l (bas l l.length)) (w:Int) ((exc (q1w l (bas l l.length)) w i:Nat):Int)
   (((q0f (zz (bas l l.length))).length+(q0f w).length+q04 l.length w+(pat (q1w l (bas l l.length)) w i).length:Nat):Int) (w:Int) (q1w l (bas l l.length)) (l.length:Int) (i:Int) z (fil (GL l) 65 w)
   =F95c3 k (bas l l.length) (q1w l (bas l l.length)) ((w+1:Nat):Int) z (fil (GL l) 65 (w+1))
 | d,i,k,hd,hi'=>by
  have hb:=q9o hx l.length (nR _)
  have h1:=q03 (q8r hb.1 hb.2)
  have h2:=q03 (x:=w) (by omega)
  have hs:q04 l.length w<=500000:=by
   have:=Nat.mul_le_mul hl (show w<=64 by omega)
   unfold q04
   omega
  have hu:=q5x l (bas l l.length)
  have he:=qct (q1w l (bas l l.length)) w i
  have h5:=qcc hu (by rw[q0m];omega) (w:=w) i (by rw[q0m];omega)
  match d,hd with
  |0,hd=>
   have:i=l.length:=by omega
   subst this
   have h3:=q03 (x:=exc (q1w l (bas l l.length)) w l.length) (by omega)
   rw[F95c8_eq,dF (by omega),cF,q01 (by omega) (by omega),qba (by omega),oB]
   dsimp only
   rw[if_pos (by omega),if_pos (show(w:Int)<((65:Nat):Int) by omega),tN,q00 (by omega) (by omega),q00 (by omega) (by omega),q8a (g:=GL l) hw (by rw[GL,z18l];omega)]
   rfl
  | d+1,hd=>
   have hlt:i<l.length:=by omega
   have hil:i<(q1w l (bas l l.length)).length:=by rw[q0m];exact hlt
   have ih:=qq1 hl hx hw (z:=z) d (i+1) k (by omega) (by omega)
   have hH:=qu4 hu (w:=w) hil
   have v1:=q03 (x:=i) (by omega)
   have v2:=q03 hH
   unfold exc pat at ih
   obtain⟨v,hv,hvl⟩:=hu i hil
   have hvn:((q1w l (bas l l.length)).getD i 0).toNat=v:=by rw[hv,tN]
   have hhi:hi (q1w l (bas l l.length)) w i=v/2^w:=by rw[hi,hvn]
   have hrun:=qoz hvl (w:=w) (by omega)
   rw[hhi]at ih hH v2
   generalize v/2^w=q at ih hH v2 hrun
   rw[show k+(d+1)+1=(k+d+1)+1 from rfl,F95c8_eq,dT (by omega),cT,if_pos (by omega),if_pos (by rw[q0m];omega),tN,hv,hrun,oB]
   dsimp only
   by_cases h0:0<q
   ·rw[if_pos h0,if_pos h0]at ih
    rw[dT (show(0:Int)<((q:Nat):Int) by omega),cT,q01 (z:=(i:Int)) (by omega) (by omega),qba (by omega),oB,qba hH,oB]
    dsimp only
    rw[lA,lA]at ih
    rw[q00 (z:=((exc (q1w l (bas l l.length)) w i:Nat):Int)+1) (by omega) (by omega),q00 (z:=(((q0f i).length:Nat):Int)+(((q0f q).length:Nat):Int)) (by omega) (by omega),q00 (z:=(_:Int)+((((q0f i).length:Nat):Int)+(((q0f q).length:Nat):Int))) (by omega) (by omega),q00 (by omega) (by omega)]
    rw[show(((q0f (zz (bas l l.length))).length+(q0f w).length+q04 l.length w+(pat (q1w l (bas l l.length)) w i).length:Nat):Int)+((((q0f i).length:Nat):Int)+(((q0f q).length:Nat):Int))=(((q0f (zz (bas l l.length))).length+(q0f w).length+q04 l.length w+((pat (q1w l (bas l l.length)) w i).length+(q0f i).length+(q0f q).length):Nat):Int) by omega]
    exact ih
   ·rw[if_neg h0,if_neg h0]at ih
    rw[dF (show¬(0:Int)<((q:Nat):Int) by omega),cF,q00 (by omega) (by omega)]
    exact ih
theorem qq0 {l:List Int}(hl:l.length<=50000)(hx:okL l){z:List Int}:∀(e w n:Nat),65-w=e->w<=65->e*(l.length+2)<n->
  F95c3 n (bas l l.length) (q1w l (bas l l.length)) (w:Int) z (fil (GL l) 65 w)=some ((qs5 (0:Int) (65:Nat) ((List.range 65).map (GL l)),()),())
 |0,w,n,he,hw,hn=>by
  obtain⟨n,rfl⟩:∃n',n=n'+1:=⟨n-1,by omega⟩
  have:w=65:=by omega
  subst this
  rw[F95c3_eq,dF (by omega),cF,q89]
 | e+1,w,n,he,hw,hn=>by
  rw[Nat.succ_mul]at hn
  obtain⟨m,rfl⟩:∃m,n=(m+l.length+1)+1:=⟨n-l.length-2,by omega⟩
  have ih:=qq0 hl hx (z:=z) e (w+1) m (by omega) (by omega) (by omega)
  have hb:=q9o hx l.length (nR _)
  have hz:=q8r hb.1 hb.2
  have h1:=q03 hz
  have h2:=q03 (x:=w) (by omega)
  have hs:q04 l.length w<=500000:=by
   have:=Nat.mul_le_mul hl (show w<=64 by omega)
   unfold q04
   omega
  have h8:=qq1 hl hx (w:=w) (by omega) (z:=z) l.length 0 m (by omega) (by omega)
  rw[ih]at h8
  rw[F95c3_eq,dT (by omega),cT,qjh hb.1 hb.2,oB]
  dsimp only
  rw[qba hz,oB,q01 (by omega) (by omega),qba (by omega),oB,q0m,q5n (by omega) (by omega),oB]
  dsimp only
  rw[q00 (z:=(((q0f (zz (bas l l.length))).length:Nat):Int)+(((q0f w).length:Nat):Int)) (by omega) (by omega),q00 (by omega) (by omega),<-h8]
  congr 1
theorem qvn {l:List Int}(hl:l.length<=50000)(hx:okL l):F95.run Pk2i [RK.v (Ty.nm 6)] 4000000 (bas l l.length,q1w l (bas l l.length),())=some ((qs5 (0:Int) (65:Nat) ((List.range 65).map (GL l)),()),()):=by
 rw[show F95.run Pk2i [RK.v (Ty.nm 6)] 4000000 (bas l l.length,q1w l (bas l l.length),())=_ from F95_run _ _ _]
 exact qq0 hl hx 65 0 4000000 (by omega) (by omega) (by omega)
theorem qpa (g:Nat->Int)(k:Nat):qs5 (0:Int) k ((List.range k).map g)=(List.range k).map g:=by
 unfold qs5
 refine List.map_congr_left fun i hi=>?_
 exact q31 (List.mem_range.1 hi)
theorem qzw {l:List Int}:∀(d w n:Nat),65-w=d->w<=65->d<n->F94c3 n ((nar (gl l) w:Nat):Int) (w:Int) ((List.range 65).map (GL l))=some ((((nar (gl l) 65:Nat):Int),()),())
 |0,w,n,hd,hw,hn=>by
  obtain⟨n,rfl⟩:∃n',n=n'+1:=⟨n-1,by omega⟩
  have:w=65:=by omega
  subst this
  rw[F94c3_eq,dF (by omega),cF]
 | d+1,w,n,hd,hw,hn=>by
  obtain⟨n,rfl⟩:∃n',n=n'+1:=⟨n-1,by omega⟩
  have ih:=qzw (l:=l) d (w+1) n (by omega) (by omega) (by omega)
  have hle:=(qfl (gl l) w).1
  rw[F94c3_eq,dT (by omega),cT,if_pos (by omega),if_pos (show(w:Int)<((65:Nat):Int) by omega),if_pos (by omega),if_pos (show((nar (gl l) w:Nat):Int)<((65:Nat):Int) by omega),tN,tN,q31 (by omega),q31 (by omega),q00 (by omega) (by omega)]
  unfold nar at ih
  unfold GL
  by_cases h:gl l w<gl l (nar (gl l) w)
  ·rw[if_pos h]at ih
   rw[dT (by omega),cT]
   exact ih
  ·rw[if_neg h]at ih
   rw[dF (by omega),cF]
   exact ih
theorem qir {l:List Int}:F94.run [PK.v (Ty.nm 6)] Rk6 4000000 (qs5 (0:Int) (65:Nat) ((List.range 65).map (GL l)),())=some ((((nar (gl l) 65:Nat):Int),()),()):=by
 rw[show F94.run [PK.v (Ty.nm 6)] Rk6 4000000 (qs5 (0:Int) (65:Nat) ((List.range 65).map (GL l)),())=_ from F94_run _ _,qpa,qpa]
 exact qzw 65 0 4000000 (by omega) (by omega) (by omega)
theorem qz4 {l:List Int}(hl:l.length<=50000)(hx:okL l){w:Nat}(hw:w<=64):∀(d i n:Nat),l.length-i=d->i<=l.length->d<n->
  F52c6 n (bas l l.length) (w:Int) ((exc (q1w l (bas l l.length)) w i:Nat):Int) (l.length:Int) (i:Int) (q1w l (bas l l.length)) (pat (q1w l (bas l l.length)) w i)=some ((frT l w,()),())
 | d,i,n,hd,hi',hn=>by
  obtain⟨n,rfl⟩:∃n',n=n'+1:=⟨n-1,by omega⟩
  have hb:=q9o hx l.length (nR _)
  have hz:=q8r hb.1 hb.2
  have h1:=q03 hz
  have h2:=q03 (x:=w) (by omega)
  have he:=qct (q1w l (bas l l.length)) w i
  have h3:=q03 (x:=exc (q1w l (bas l l.length)) w i) (by omega)
  have hu:=q5x l (bas l l.length)
  have h4:=qb0 (D:=q1w l (bas l l.length)) (by rw[q0m];exact hl) hw
  have h5:=qcc hu (by rw[q0m];omega) (w:=w) i (by rw[q0m];omega)
  match d,hd with
  |0,hd=>
   have:i=l.length:=by omega
   subst this
   rw[F52c6_eq,dF (by omega),cF,qjh hb.1 hb.2,oB]
   dsimp only
   rw[q2m hz,oB]
   dsimp only
   rw[q01 (z:=(w:Int)) (by omega) (by omega),q2m (by omega),oB]
   dsimp only
   rw[q01 (by omega) (by omega),q2m (by omega),oB]
   dsimp only
   rw[qa5 (by simp) (by simp only[List.flatten_cons,List.flatten_nil,lA,List.length_nil];omega),oB,qix hu hw (by rw[q0m];omega),oB]
   dsimp only
   rw[qa5 (by simp) (by simp only[List.flatten_cons,List.flatten_nil,lA,List.length_nil];omega),oB]
   simp only[List.flatten_cons,List.flatten_nil,List.append_nil,frT,aA]
  | d+1,hd=>
   have hlt:i<l.length:=by omega
   have hil:i<(q1w l (bas l l.length)).length:=by rw[q0m];exact hlt
   have ih:=qz4 hl hx hw d (i+1) n (by omega) (by omega) (by omega)
   have hH:=qu4 hu (w:=w) hil
   have v1:=q03 (x:=i) (by omega)
   have v2:=q03 hH
   unfold exc pat at ih
   obtain⟨v,hv,hvl⟩:=hu i hil
   have hvn:((q1w l (bas l l.length)).getD i 0).toNat=v:=by rw[hv,tN]
   have hhi:hi (q1w l (bas l l.length)) w i=v/2^w:=by rw[hi,hvn]
   have hrun:=qoz hvl hw
   rw[hhi]at ih hH v2
   generalize v/2^w=q at ih hH v2 hrun
   rw[F52c6_eq,dT (by omega),cT,if_pos (by omega),if_pos (by rw[q0m];omega),tN,hv,hrun,oB]
   dsimp only
   by_cases h0:0<q
   ·rw[if_pos h0,if_pos h0]at ih
    rw[dT (show(0:Int)<((q:Nat):Int) by omega),cT,q01 (z:=(i:Int)) (by omega) (by omega),q2m (by omega),oB,q2m hH,oB]
    dsimp only
    rw[qa5 (by simp) (by simp only[List.flatten_cons,List.flatten_nil,lA,List.length_nil];omega),oB,q00 (z:=((exc (q1w l (bas l l.length)) w i:Nat):Int)+1) (by omega) (by omega),q00 (by omega) (by omega)]
    simp only[List.flatten_cons,List.flatten_nil,List.append_nil]
    rw[aA]at ih
    exact ih
   ·rw[if_neg h0,if_neg h0]at ih
    rw[dF (show¬(0:Int)<((q:Nat):Int) by omega),cF,q00 (by omega) (by omega)]
    exact ih
theorem qf6 {l:List Int}(hl:l.length<=50000)(hx:okL l):F52.run Pkc Rk1 4000000 (l,())=some ((frE l,()),()):=by
 have hn:=(qfl (gl l) 65).1
 rw[show F52.run Pkc Rk1 4000000 (l,())=_ from(F52_run _ _).trans (F52c1_eq 3999999 _),qx4 (by omega),oB]
 dsimp only
 rw[qvn hl hx,oB]
 dsimp only
 rw[qir,oB,q0m]
 exact qz4 hl hx (by omega) l.length 0 3999999 (by omega) (by omega) (by omega)
theorem qf5 {l:List Int}(hl:l.length<=50000)(hx:okL l):(frE l).length<=1500000:=qti hl hx (by have:=(qfl (gl l) 65).1;omega)
/-! Differences. -/
def dif2 (l:List Int)(i:Nat):Int:=i64.wrap (l.getD (i+1) 0-l.getD i 0)
def dl (l:List Int):List Int:=(List.range (l.length-1)).map (dif2 l)
theorem q82 (l:List Int):(dl l).length=l.length-1:=by simp[dl]
theorem qbw (l:List Int):okL (dl l):=by
 intro x hx
 obtain⟨i,_,rfl⟩:=List.mem_map.1 hx
 exact q3y _
theorem z149 {l:List Int}(hl:l.length<=1000000)(h2:2<=l.length):∀(d i n:Nat),l.length-1-i=d->i<=l.length-1->d<n->
  F100c5 n l ((l.length-1:Nat):Int) (i:Int) (fil (dif2 l) (l.length-1) i)=some ((dl l,()),())
 |0,i,n,hd,hi',hn=>by
  obtain⟨n,rfl⟩:∃n',n=n'+1:=⟨n-1,by omega⟩
  have:i=l.length-1:=by omega
  subst this
  rw[F100c5_eq,dF (by omega),cF,q89]
  rfl
 | d+1,i,n,hd,hi',hn=>by
  obtain⟨n,rfl⟩:∃n',n=n'+1:=⟨n-1,by omega⟩
  rw[F100c5_eq,dT (by omega),cT,q00 (z:=(i:Int)+1) (by omega) (by omega),show((i:Int)+1)=((i+1:Nat):Int) by omega,if_pos (by omega),if_pos (by omega),if_pos (by omega),if_pos (by omega),if_pos (by omega),if_pos (by rw[q9v hi'];omega),tN,tN,
   q8a (g:=dif2 l) (z:=i64.wrap (l.getD (i+1) 0-l.getD i 0)) (by omega) rfl]
  exact z149 hl h2 d (i+1) n (by omega) (by omega) (by omega)
theorem qyw {l:List Int}(hl:l.length<=1000000):F100.run Pkc qo2 4000000 (l,())=some ((dl l,()),()):=by
 rw[show F100.run Pkc qo2 4000000 (l,())=_ from(F100_run _ _).trans (F100c1_eq 3999999 _)]
 by_cases h2:l.length<2
 ·rw[dT (by omega),cT,dl,show l.length-1=0 by omega]
  rfl
 ·rw[dF (by omega),cF,q00 (by omega) (by omega),show((l.length:Int)-1)=((l.length-1:Nat):Int) by omega,if_pos (by omega),if_pos (by simp only[lim];omega),tN,List.length_replicate,<-q77 (dif2 l)]
  exact z149 hl (by omega) (l.length-1) 0 3999999 (by omega) (by omega) (by omega)
theorem qzy {l:List Int}(hl:l.length<=1000000):∀(d i n:Nat),l.length-i=d->i<=l.length->1<=i->d<n->F161c3 n l (i:Int) ((List.range (i-1)).map (dif2 l))=some ((dl l,()),())
 |0,i,n,hd,hi',h1,hn=>by
  obtain⟨n,rfl⟩:∃n',n=n'+1:=⟨n-1,by omega⟩
  have:i=l.length:=by omega
  subst this
  rw[F161c3_eq,dF (by omega),cF]
  rfl
 |d+1,i,n,hd,hi',h1,hn=>by
  obtain⟨n,rfl⟩:∃n',n=n'+1:=⟨n-1,by omega⟩
  have ih:=qzy hl d (i+1) n (by omega) (by omega) (by omega) (by omega)
  obtain⟨j,rfl⟩:∃j,i=j+1:=⟨i-1,by omega⟩
  rw[show j+1+1-1=j+1 from rfl,List.range_succ,List.map_append]at ih
  rw[F161c3_eq,dT (by omega),cT,q00 (z:=((j+1:Nat):Int)-1) (by omega) (by omega),show(((j+1:Nat):Int)-1)=((j:Nat):Int) by omega,if_pos (by omega),if_pos (by omega),if_pos (by omega),if_pos (by omega),if_pos (by simp only[List.length_map,List.length_range,lim];omega),tN,tN,q00 (by omega) (by omega)]
  exact ih
theorem qni {l:List Int}(hl:l.length<=1000000):F161.run Pkc qo2 4000000 (l,())=some ((dl l,()),()):=by
 rw[show F161.run Pkc qo2 4000000 (l,())=_ from(F161_run _ _).trans (F161c1_eq 3999999 _)]
 by_cases h1:1<=l.length
 ·exact qzy hl (l.length-1) 1 3999999 (by omega) (by omega) (by omega) (by omega)
 ·have:l=[]:=List.eq_nil_of_length_eq_zero (by omega)
  subst this
  rw[F161c3_eq (n:=3999998)]
  rfl
end Go.Proofs.Tryz
