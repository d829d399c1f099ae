/- Law 12, after law 10: runs and the encoding of strings: what the program and the reference compute. -/
import Derived.Test.YtpnabclcnplchaaGreatL12Pack
set_option linter.unusedVariables false
set_option linter.unusedSimpArgs false
namespace Go.Proofs.Tryz
open Go.Eng
open IntKind (i64 u64 u8)
theorem bifT {α:Type}{p:Prop}{h:Decidable p}(hp:p)(x y:α):(bif@decide p h then x else y)=x:=by rw[dT hp];rfl
theorem bifF {α:Type}{p:Prop}{h:Decidable p}(hp:¬p)(x y:α):(bif@decide p h then x else y)=y:=by rw[dF hp];rfl
def q5p (out:List Run)(v:Int):List Run:=
 if 0<out.length/\(out.getD (out.length-1) q0x).value=v then out.set (out.length-1) ⟨(out.getD (out.length-1) q0x).value,(out.getD (out.length-1) q0x).count+1⟩else out++[⟨v,1⟩]
def q12 (l:List Int):List Run:=l.foldl q5p []
theorem qb7 {l:List Int}{i:Nat}(h:i<l.length):q12 (l.take (i+1))=q5p (q12 (l.take i)) (l.getD i 0):=by
 rw[List.take_succ_eq_append_getElem h,q12,List.foldl_append,gQ,gE h]
 rfl
theorem qik {α:Type}(V:List α)(p j:Nat)(x d:α)(hp:p<V.length):(V.set p x).getD j d=if p=j then x else V.getD j d:=by
 rw[gQ,List.getElem?_set,gQ]
 by_cases hpj:p=j
 ·rw[if_pos hpj,if_pos hpj];subst hpj;simp[hp]
 ·rw[if_neg hpj,if_neg hpj]
theorem q4h {α:Type}(V:List α)(x d:α)(j:Nat):(V++[x]).getD j d=if j<V.length then V.getD j d else if j=V.length then x else d:=by
 rw[gQ,List.getElem?_append,gQ]
 by_cases h:j<V.length
 ·rw[if_pos h,if_pos h]
 ·rw[if_neg h,if_neg h]
  by_cases h2:j=V.length
  ·rw[if_pos h2,h2];simp
  ·rw[if_neg h2,List.getElem?_eq_none (by simp;omega)];rfl
structure RunsOk (l:List Int) (i:Nat) (out:List Run):Prop where
 len:out.length<=i
 ne:0<i->0<out.length/\(out.getD (out.length-1) q0x).value=l.getD (i-1) 0
 cnt:∀j,j<out.length->1<=(out.getD j q0x).count/\(out.getD j q0x).count<=i
 val:∀j,j<out.length->∃k,k<i/\(out.getD j q0x).value=l.getD k 0
theorem qd3 {l:List Int}:∀i,i<=l.length->RunsOk l i (q12 (l.take i))
 |0,_=>⟨by simp[q12],fun h=>by omega,fun j h=>by simp[q12]at h,fun j h=>by simp[q12]at h⟩
 | i+1,hi=>by
  have ih:=qd3 (l:=l) i (by omega)
  rw[qb7 (by omega)]
  generalize q12 (l.take i)=out at ih
  unfold q5p
  by_cases h:0<out.length/\(out.getD (out.length-1) q0x).value=l.getD i 0
  ·rw[if_pos h]
   refine⟨by rw[List.length_set];have:=ih.len;omega,fun _=>⟨by rw[List.length_set];exact h.1,?_⟩,fun j hj=>?_,fun j hj=>?_⟩
   ·rw[List.length_set,qik _ _ _ _ _ (by omega),if_pos rfl]
    exact h.2
   ·rw[List.length_set]at hj
    rw[qik _ _ _ _ _ (by omega)]
    have:=ih.cnt (out.length-1) (by omega)
    have:=ih.cnt j hj
    by_cases hp:out.length-1=j
    ·rw[if_pos hp];simp only;omega
    ·rw[if_neg hp];omega
   ·rw[List.length_set]at hj
    rw[qik _ _ _ _ _ (by omega)]
    by_cases hp:out.length-1=j
    ·rw[if_pos hp];exact⟨i,by omega,h.2⟩
    ·rw[if_neg hp];obtain⟨k,k1,k2⟩:=ih.val j hj;exact⟨k,by omega,k2⟩
  ·rw[if_neg h]
   refine⟨by rw[lA,List.length_singleton];have:=ih.len;omega,fun _=>⟨by simp,?_⟩,fun j hj=>?_,fun j hj=>?_⟩
   ·rw[lA,List.length_singleton,q4h,if_neg (by omega),if_pos (by omega)]
    rfl
   ·rw[lA,List.length_singleton]at hj
    rw[q4h]
    by_cases hp:j<out.length
    ·rw[if_pos hp];have:=ih.cnt j hp;omega
    ·rw[if_neg hp,if_pos (by omega)];simp only;omega
   ·rw[lA,List.length_singleton]at hj
    rw[q4h]
    by_cases hp:j<out.length
    ·rw[if_pos hp];obtain⟨k,k1,k2⟩:=ih.val j hp;exact⟨k,by omega,k2⟩
    ·rw[if_neg hp,if_pos (by omega)];exact⟨i,by omega,rfl⟩
theorem qps {l:List Int}(hl:l.length<=1000000):∀(d i n:Nat),l.length-i=d->i<=l.length->2*d<n->F63c3 n l i (q12 (l.take i))=some ((q12 l,()),())
 |0,i,n,hd,hi,hn=>by
  obtain⟨n,rfl⟩:∃n',n=n'+1:=⟨n-1,by omega⟩
  rw[F63c3_eq,dF (by omega),cF,tL (by omega)]
 | d+1,i,n,hd,hi,hn=>by
  obtain⟨n,rfl⟩:∃n',n=n'+2:=⟨n-2,by omega⟩
  have hlt:i<l.length:=by omega
  have ok:=qd3 (l:=l) i hi
  have hr:=qb7 hlt
  have ih:=qps hl d (i+1) n (by omega) (by omega) (by omega)
  rw[hr]at ih
  generalize q12 (l.take i)=out at ok ih ⊢
  have hnext:F63c4 (n+1) l i (q5p out (l.getD i 0))=some ((q12 l,()),()):=by
   rw[F63c4_eq,q00 (by omega) (by omega)]
   exact ih
  have hol:=ok.len
  rw[F63c3_eq,dT (by omega),cT]
  unfold q5p at hnext
  by_cases h0:0<out.length
  ·have hw:i64.wrap ((out.length:Int)-1)=((out.length-1:Nat):Int):=by rw[q00 (by omega) (by omega)];omega
   have hc:=ok.cnt (out.length-1) (by omega)
   rw[hw]
   simp only[dT (show(0:Int)<(out.length:Int) by omega),cT,if_pos (show(0:Int)<=((out.length-1:Nat):Int) by omega),if_pos (show((out.length-1:Nat):Int)<(out.length:Int) by omega),if_pos (show(0:Int)<=(i:Int) by omega),if_pos (show(i:Int)<(l.length:Int) by omega),tN]
   rw[if_pos (show out.length+1<=lim by simp only[lim];omega)]
   rw[q00 (z:=(out.getD (out.length-1) q0x).count+1) (by omega) (by omega)]
   by_cases hv:(out.getD (out.length-1) q0x).value=l.getD i 0
   ·refine(bifT hv _ _).trans ?_
    rw[if_pos ⟨h0,hv⟩]at hnext
    exact hnext
   ·refine(bifF hv _ _).trans ?_
    rw[if_neg (fun h=>hv h.2)]at hnext
    exact hnext
  ·simp only[dF (show¬(0:Int)<(out.length:Int) by omega),cF,if_pos (show(0:Int)<=(i:Int) by omega),if_pos (show(i:Int)<(l.length:Int) by omega),tN]
   rw[if_pos (show out.length+1<=lim by simp only[lim];omega)]
   rw[if_neg (fun h=>h0 h.1)]at hnext
   exact hnext
theorem qlk {l:List Int}(hl:l.length<=1000000):F63.run Pkc qyo 4000000 (l,())=some ((q12 l,()),()):=by
 rw[show F63.run Pkc qyo 4000000 (l,())=_ from(F63_run _ _).trans (F63c1_eq 3999999 _)]
 exact qps hl l.length 0 3999999 (by omega) (by omega) (by omega)
theorem qnn {l:List Int}(hl:l.length<=1000000):∀(d i n:Nat),l.length-i=d->i<=l.length->2*d<n->F50c3 n l l (l.length:Int) i (q12 (l.take i))=some ((q12 l,()),())
 |0,i,n,hd,hi,hn=>by
  obtain⟨n,rfl⟩:∃n',n=n'+1:=⟨n-1,by omega⟩
  rw[F50c3_eq,dF (by omega),cF,tL (by omega)]
 | d+1,i,n,hd,hi,hn=>by
  obtain⟨n,rfl⟩:∃n',n=n'+2:=⟨n-2,by omega⟩
  have hlt:i<l.length:=by omega
  have ok:=qd3 (l:=l) i hi
  have hr:=qb7 hlt
  have ih1:=qnn hl d (i+1) n (by omega) (by omega) (by omega)
  have ih2:=qnn hl d (i+1) (n+1) (by omega) (by omega) (by omega)
  rw[hr]at ih1 ih2
  generalize q12 (l.take i)=out at ok ih1 ih2 ⊢
  have hol:=ok.len
  have push:∀h:¬(0<out.length/\(out.getD (out.length-1) q0x).value=l.getD i 0),F50c7 (n+1) l (l.getD i 0) l (l.length:Int) i out=some ((q12 l,()),()):=by
   intro h
   rw[F50c7_eq,if_pos (by simp only[lim];omega),q00 (by omega) (by omega)]
   unfold q5p at ih1
   rw[if_neg h]at ih1
   exact ih1
  rw[F50c3_eq]
  simp only[dT (show(i:Int)<(l.length:Int) by omega),cT,if_pos (show(0:Int)<=(i:Int) by omega),if_pos (show(i:Int)<(l.length:Int) by omega),tN]
  by_cases h0:0<i
  ·obtain⟨n1,n2⟩:=ok.ne h0
   have hw:i64.wrap ((out.length:Int)-1)=((out.length-1:Nat):Int):=by rw[q00 (by omega) (by omega)];omega
   have hwi:i64.wrap ((i:Int)-1)=((i-1:Nat):Int):=by rw[q00 (by omega) (by omega)];omega
   have hc:=ok.cnt (out.length-1) (by omega)
   rw[hw,hwi]
   simp only[dT (show(0:Int)<(i:Int) by omega),cT,if_pos (show(0:Int)<=((i-1:Nat):Int) by omega),if_pos (show((i-1:Nat):Int)<(l.length:Int) by omega),if_pos (show(0:Int)<=((out.length-1:Nat):Int) by omega),if_pos (show((out.length-1:Nat):Int)<(out.length:Int) by omega),tN]
   rw[q00 (z:=(out.getD (out.length-1) q0x).count+1) (by omega) (by omega),q00 (z:=(i:Int)+1) (by omega) (by omega)]
   by_cases hv:l.getD i 0=l.getD (i-1) 0
   ·refine(bifT hv _ _).trans ?_
    unfold q5p at ih2
    rw[if_pos ⟨n1,by rw[n2,hv]⟩]at ih2
    exact ih2
   ·refine(bifF hv _ _).trans ?_
    exact push (fun h=>hv (by rw[<-h.2,n2]))
  ·rw[dF (by omega),cF]
   exact push (fun h=>by omega)
theorem qpu {l:List Int}(hl:l.length<=1000000):F50.run Pkc qyo 4000000 (l,())=some ((q12 l,()),()):=by
 rw[show F50.run Pkc qyo 4000000 (l,())=_ from(F50_run _ _).trans (F50c1_eq 3999999 _)]
 exact qnn hl l.length 0 3999999 (by omega) (by omega) (by omega)
/-! Signed numbers. -/
theorem q3y (z:Int):-9223372036854775808<=i64.wrap z/\i64.wrap z<9223372036854775808:=by
 rw[IntKind.wrap_i64]
 omega
def zz (d:Int):Nat:=if 0<=d then 2*d.toNat else 2*(-(d+1)).toNat+1
theorem q8r {d:Int}(h1:-9223372036854775808<=d)(h2:d<9223372036854775808):zz d<18446744073709551616:=by
 unfold zz
 by_cases h:0<=d
 ·rw[if_pos h];omega
 ·rw[if_neg h];omega
theorem qb8 {d:Int}(h1:-9223372036854775808<=d)(h2:d<9223372036854775808):F109.run Pky Rkf 4000000 (d,())=some ((((zz d:Nat):Int),()),()):=by
 rw[show F109.run Pky Rkf 4000000 (d,())=_ from F109_run _ _]
 unfold zz
 by_cases h:0<=d
 ·rw[dT h,cT,if_pos h,q01 (z:=d) h (by omega),q01 (by omega) (by omega)]
  congr 3
  omega
 ·rw[dF h,cF,if_neg h,q00 (z:=d+1) (by omega) (by omega),q00 (by omega) (by omega),q01 (z:=0-(d+1)) (by omega) (by omega),q01 (z:=2*(0-(d+1))) (by omega) (by omega),q01 (by omega) (by omega)]
  congr 3
  omega
theorem qwb {a b:Nat}(ha:a<18446744073709551616)(hb:b<18446744073709551616):Go.bits .xor .u64 (a:Int) (b:Int)=((a^^^b:Nat):Int):=by
 unfold Go.bits
 simp only[q5k,BitVec.toNat_xor,BitVec.toNat_ofNat,show u64.bits=64 from rfl]
 rw[Nat.mod_eq_of_lt (show a<2^64 from ha),Nat.mod_eq_of_lt (show b<2^64 from hb),qbf,Nat.mod_eq_of_lt]
 exact Nat.xor_lt_two_pow (n:=64) ha hb
theorem qyi {a:Nat}(ha:a<18446744073709551616):a^^^18446744073709551615=18446744073709551615-a:=by
 have h:BitVec.ofNat 64 a^^^BitVec.allOnes 64= ~~~(BitVec.ofNat 64 a):=BitVec.xor_allOnes
 have h2:=congrArg BitVec.toNat h
 rw[BitVec.toNat_xor,BitVec.toNat_not,BitVec.toNat_ofNat,BitVec.toNat_allOnes,Nat.mod_eq_of_lt (show a<2^64 from ha)]at h2
 exact h2
theorem qjh {d:Int}(h1:-9223372036854775808<=d)(h2:d<9223372036854775808):F92.run Pky Rkf 4000000 (d,())=some ((((zz d:Nat):Int),()),()):=by
 rw[show F92.run Pky Rkf 4000000 (d,())=_ from F92_run _ _]
 rw[show u64.bits=64 from rfl,show i64.bits=64 from rfl,show(2:Int)^min (Int.toNat 1) 64=2 from rfl,show(2:Int)^min (Int.toNat 63) 64=9223372036854775808 from rfl]
 unfold zz
 by_cases h:0<=d
 ·rw[if_pos h,show d/9223372036854775808=((0:Nat):Int) by omega,q01 (z:=d) h (by omega),show d*2=((2*d.toNat:Nat):Int) by omega,q01 (z:=((2*d.toNat:Nat):Int)) (by omega) (by omega),q01 (z:=((0:Nat):Int)) (by omega) (by omega),qwb (by omega) (by omega),Nat.xor_zero]
 ·obtain⟨e,he⟩:∃e:Nat,d=-((e:Int)+1):=⟨(-(d+1)).toNat,by omega⟩
  have w1:u64.wrap d=((18446744073709551615-e:Nat):Int):=by
   rw[show d=d from rfl,he]
   simp only[IntKind.wrap,IntKind.bits,IntKind.signed]
   simp
   omega
  have w2:u64.wrap (((18446744073709551615-e:Nat):Int)*2)=((18446744073709551614-2*e:Nat):Int):=by
   rw[show((18446744073709551615-e:Nat):Int)*2=(((18446744073709551615-e)*2:Nat):Int) by omega,qbf]
   omega
  have w3:u64.wrap (-1)=((18446744073709551615:Nat):Int):=rfl
  rw[if_neg h,show d/9223372036854775808=-1 by omega,w1,w2,w3,qwb (by omega) (by omega),qyi (by omega)]
  congr 3
  omega
/-! Runs encoded. -/
def q2j (l:List Run)(last:Int):List Int:=match l with
 |[]=>[]
 |r::t=>q0f (zz (i64.wrap (r.value-last)))++q0f r.count.toNat++q2j t r.value
def q9b (l:List Run):List Int:=q0f l.length++q2j l 0
def okR (l:List Run):Prop:=∀j,j<l.length->(-9223372036854775808<=(l.getD j q0x).value/\(l.getD j q0x).value<9223372036854775808)/\1<=(l.getD j q0x).count/\(l.getD j q0x).count<1000000000
def q49 (l:List Run)(i:Nat):Int:=if i=0 then 0 else(l.getD (i-1) q0x).value
theorem qb5:∀(l:List Run) (v:Int),(∀r∈l,(-9223372036854775808<=r.value/\r.value<9223372036854775808)/\1<=r.count/\r.count<1000000000)->(q2j l v).length<=20*l.length
 |[],_,_=>by simp[q2j]
 |r::t,v,h=>by
  obtain⟨⟨a1,a2⟩,a3,a4⟩:=h r mS
  have:=qb5 t r.value (fun r hr=>h r (mC _ hr))
  have:=q03 (x:=zz (i64.wrap (r.value-v))) (q8r (q3y _).1 (q3y _).2)
  have:=q03 (x:=r.count.toNat) (by omega)
  simp only[q2j,lA,lC]
  omega
theorem qnb {l:List Run}(h:okR l):∀r∈l,(-9223372036854775808<=r.value/\r.value<9223372036854775808)/\1<=r.count/\r.count<1000000000:=by
 intro r hr
 obtain⟨j,hj,rfl⟩:=List.mem_iff_getElem.1 hr
 have:=h j hj
 rwa [gQ,gE hj]at this
theorem z102 {l:List Run}(hok:okR l)(hl:l.length<=100000):∀(n i:Nat) (acc:List Int),l.length-i<n->i<=l.length->acc.length+20*(l.length-i)<=4000000000->
  F49c4 n (q49 l i) l (l.length:Int) i acc=some ((acc++q2j (l.drop i) (q49 l i),()),())
 |0,i,acc,h,_,_=>by omega
 | n+1,i,acc,h,hi,ha=>by
  rw[F49c4_eq]
  by_cases hlt:i<l.length
  ·obtain⟨⟨a1,a2⟩,a3,a4⟩:=hok i hlt
   have hz:=q8r (q3y ((l.getD i q0x).value-q49 l i)).1 (q3y _).2
   have v1:=q03 hz
   have v2:=q03 (x:=(l.getD i q0x).count.toNat) (by omega)
   simp only[dT (show(i:Int)<(l.length:Int) by omega),cT,if_pos (show(0:Int)<=(i:Int) by omega),if_pos (show(i:Int)<(l.length:Int) by omega),tN]
   rw[qjh (q3y _).1 (q3y _).2,oB,q2m hz,oB]
   dsimp only
   rw[if_pos (by simp only[lim];omega),q01 (z:=(l.getD i q0x).count) (by omega) (by omega),show(l.getD i q0x).count=(((l.getD i q0x).count.toNat:Nat):Int) by omega,q2m (by omega),oB]
   dsimp only
   rw[if_pos (by simp only[lim,lA,tN];omega),q00 (by omega) (by omega)]
   have ih:=z102 hok hl n (i+1) (acc++q0f (zz (i64.wrap ((l.getD i q0x).value-q49 l i)))++q0f (l.getD i q0x).count.toNat) (by omega) (by omega) (by rw[lA,lA];omega)
   have e1:q49 l (i+1)=(l.getD i q0x).value:=by unfold q49;rw[if_neg (by omega)];rfl
   rw[e1]at ih
   rw[show((i:Int)+1)=((i+1:Nat):Int) by omega,ih]
   have e2:l.drop i=l.getD i q0x::l.drop (i+1):=by rw[List.drop_eq_getElem_cons hlt,gQ,gE hlt];rfl
   rw[e2,q2j,aA,aA,aA]
  ·rw[dF (by omega),cF,List.drop_eq_nil_of_le (by omega),q2j,List.append_nil]
theorem qve {l:List Run}(hok:okR l)(hl:l.length<=100000):F49.run qji Rk1 4000000 (l,())=some ((q9b l,()),()):=by
 have hv:=q03 (x:=l.length) (by omega)
 rw[show F49.run qji Rk1 4000000 (l,())=_ from(F49_run _ _).trans (F49c1_eq 3999999 _),q01 (by omega) (by omega),q2m (by omega),oB]
 exact z102 hok hl 3999999 0 (q0f l.length) (by omega) (by omega) (by omega)
def qrl (l:List Run)(last:Int):List (List Int):=match l with
 |[]=>[]
 |r::t=>q0f (zz (i64.wrap (r.value-last)))::q0f r.count.toNat::qrl t r.value
theorem qh8:∀(l:List Run) (v:Int),(qrl l v).flatten=q2j l v
 |[],_=>rfl
 |r::t,v=>by simp only[qrl,q2j,List.flatten_cons,qh8 t,aA]
theorem qvh {l:List Run}(hok:okR l)(hl:l.length<=50000):∀(n i:Nat) (acc:List (List Int)),l.length-i<n->i<=l.length->acc.length<=1+2*i->acc.flatten.length<=10+20*i->
  F62c4 n l (q49 l i) i acc=some (((acc++qrl (l.drop i) (q49 l i)).flatten,()),())
 |0,i,acc,h,_,_,_=>by omega
 | n+1,i,acc,h,hi,ha,hf=>by
  rw[F62c4_eq]
  by_cases hlt:i<l.length
  ·obtain⟨⟨a1,a2⟩,a3,a4⟩:=hok i hlt
   have hz:=q8r (q3y ((l.getD i q0x).value-q49 l i)).1 (q3y _).2
   have v1:=q03 hz
   have v2:=q03 (x:=(l.getD i q0x).count.toNat) (by omega)
   simp only[dT (show(i:Int)<(l.length:Int) by omega),cT,if_pos (show(0:Int)<=(i:Int) by omega),if_pos (show(i:Int)<(l.length:Int) by omega),tN]
   simp only[if_pos (show acc.length+1<=lim by simp only[lim];omega)]
   rw[qb8 (q3y _).1 (q3y _).2,oB,q1c hz,oB,q01 (z:=(l.getD i q0x).count) (by omega) (by omega),show(l.getD i q0x).count=(((l.getD i q0x).count.toNat:Nat):Int) by omega,q1c (by omega),oB]
   dsimp only
   rw[if_pos (by simp only[lim,lA,List.length_singleton];omega),q00 (by omega) (by omega)]
   have ih:=qvh hok hl n (i+1) (acc++[q0f (zz (i64.wrap ((l.getD i q0x).value-q49 l i)))]++[q0f (l.getD i q0x).count.toNat]) (by omega) (by omega) (by simp only[lA,List.length_singleton];omega) (by simp only[List.flatten_append,lA,List.flatten_cons,List.flatten_nil,List.append_nil];omega)
   have e1:q49 l (i+1)=(l.getD i q0x).value:=by unfold q49;rw[if_neg (by omega)];rfl
   rw[e1]at ih
   rw[show((i:Int)+1)=((i+1:Nat):Int) by omega,ih]
   have e2:l.drop i=l.getD i q0x::l.drop (i+1):=by rw[List.drop_eq_getElem_cons hlt,gQ,gE hlt];rfl
   rw[e2,qrl,aA,aA]
   rfl
  ·rw[dF (by omega),cF,List.drop_eq_nil_of_le (by omega),qrl,List.append_nil,qbv (by omega) (by omega),oB]
theorem qpq {l:List Run}(hok:okR l)(hl:l.length<=50000):F62.run qji Rk1 4000000 (l,())=some ((q9b l,()),()):=by
 have hv:=q03 (x:=l.length) (by omega)
 rw[show F62.run qji Rk1 4000000 (l,())=_ from(F62_run _ _).trans (F62c1_eq 3999999 _),q01 (by omega) (by omega),q1c (by omega),oB]
 have h:=qvh hok hl 3999999 0 [q0f l.length] (by omega) (by omega) (by simp) (by simp;omega)
 rw[show F62c4 3999999 l 0 0 [q0f l.length]=_ from h]
 rw[List.drop_zero,List.flatten_append,qh8]
 simp only[List.flatten_cons,List.flatten_nil,List.append_nil]
 rfl
end Go.Proofs.Tryz
