/- Law 10: packed numbers read. -/
import Derived.Test.YtpnabclcnplchaaGreatL12Dec1
set_option linter.unusedVariables false
set_option linter.unusedSimpArgs false
namespace Go.Proofs.Tryz
open Go.Eng
open IntKind (i64 u64 u8)
def q2g:List Int->Nat
 |[]=>0
 |x::r=>x.toNat+256*q2g r
theorem qjf:∀{b:List Int},(∀x∈b,0<=x/\x<256)->q2g b<256^b.length
 |[],_=>by simp[q2g]
 |x::r,h=>by
  have h1:=h x mS
  have h2:=qjf (b:=r) (fun y hy=>h y (mC _ hy))
  rw[q2g,lC,Nat.pow_succ]
  omega
theorem qca {b:List Int}(h:okB b):∀x∈b,0<=x/\x<256:=by
 intro x hx
 obtain⟨j,hj,rfl⟩:=List.mem_iff_getElem.1 hx
 obtain⟨v,h1,h2⟩:=h j hj
 rw[gQ,gE hj]at h1
 have h1:b[j]=(v:Int):=h1
 omega
theorem qbj:∀{b:List Int} {j:Nat},(∀x∈b,0<=x/\x<256)->j<b.length->b.getD j 0=((q2g b/256^j%256:Nat):Int)
 |[],j,_,h=>by simp at h
 |x::r,0,h,_=>by
  have h1:=h x mS
  simp only[List.getD_cons_zero,q2g,Nat.pow_zero,Nat.div_one]
  omega
 |x::r,j+1,h,hj=>by
  have h1:=h x mS
  rw[List.getD_cons_succ,qbj (fun y hy=>h y (mC _ hy)) (by simpa using hj),q2g,Nat.pow_succ',<-Nat.div_div_eq_div_mul]
  congr 3
  omega
theorem qjr {V j r t:Nat}(h:r+t<=8):V/256^j%256/2^r%2^t=V/2^(8*j+r)%2^t:=by
 have e1:V/256^j%256/2^r=V/256^j/2^r%2^(8-r):=by
  have:=Nat.mod_mul_right_div_self (V/256^j) (2^r) (2^(8-r))
  rw[<-Nat.pow_add,show r+(8-r)=8 by omega]at this
  exact this
 rw[e1,Nat.div_div_eq_div_mul,<-qb2,Nat.mod_mod_of_dvd _ (Nat.pow_dvd_pow 2 (by omega))]
theorem qsi {b:List Int}(hb:okB b)(hl:b.length<=100000000){P:Nat}(hP:P<8*b.length):
  F167.run Pk5 Rkf 4000000 (b,(P:Int),())=some ((((q2g b/2^P%2:Nat):Int),()),()):=by
 rw[show F167.run Pk5 Rkf 4000000 (b,(P:Int),())=_ from F167_run _ _ _]
 have e2:i64.wrap ((P:Int).tdiv 8)=((P/8:Nat):Int):=by rw[Int.tdiv_eq_ediv_of_nonneg (by omega),q00 (by omega) (by omega)];omega
 have e3:u64.wrap ((P:Int).tmod 8)=((P%8:Nat):Int):=by rw[Int.tmod_eq_emod_of_nonneg (by omega),q01 (by omega) (by omega)];omega
 rw[e2,e3,if_pos (by omega),if_pos (by omega),if_pos (by omega),tN,tN,qbj (qca hb) (by omega),show u8.bits=8 from rfl,Nat.min_eq_left (by omega),q94]
 have hlt:q2g b/256^(P/8)%256/2^(P%8)<256:=Nat.lt_of_le_of_lt (Nat.div_le_self _ _) (Nat.mod_lt _ (by decide))
 have h1:=q4n (a:=q2g b/256^(P/8)%256/2^(P%8)) (k:=1) (by omega) (by decide)
 rw[q01 (z:=((q2g b/256^(P/8)%256/2^(P%8):Nat):Int)) (Int.natCast_nonneg _) (by
  generalize q2g b/256^(P/8)%256/2^(P%8)=q at hlt ⊢
  omega),show(1:Int)=((2^1-1:Nat):Int)from rfl,h1,qjr (by omega),show 8*(P/8)+P%8=P by omega]
theorem qpp {b:List Int}(hb:okB b)(hl:b.length<=100000000){w i:Nat}(hw:w<=64)(hi:i<=1000000)(hin:(i+1)*w<=8*b.length):∀(n k:Nat),w-k<n->k<=w->
  F168c3 n b i w ((q2g b/2^(i*w)%2^k:Nat):Int) k=some ((((q2g b/2^(i*w)%2^w:Nat):Int),()),())
 |0,k,h,_=>by omega
 | n+1,k,h,hk=>by
  rw[F168c3_eq]
  rw[Nat.succ_mul]at hin
  have hiw:i*w<=64000000:=Nat.le_trans (Nat.mul_le_mul hi hw) (by decide)
  by_cases hlt:k<w
  ·have e1:i64.wrap (i64.wrap ((i:Int)*(w:Int))+(k:Int))=((i*w+k:Nat):Int):=by
    rw[<-Int.natCast_mul,q00 (z:=((i*w:Nat):Int)) (by omega) (by omega),<-Int.natCast_add,q00 (by omega) (by omega)]
   have h2k:(2:Nat)^(k+1)<=2^64:=Nat.pow_le_pow_right (by decide) (by omega)
   have h64:(2:Nat)^64=18446744073709551616:=by decide
   have hlo:q2g b/2^(i*w)%2^k<2^k:=Nat.mod_lt _ (Nat.two_pow_pos k)
   have hbt:q2g b/2^(i*w+k)%2<2:=Nat.mod_lt _ (by decide)
   have hmul:q2g b/2^(i*w+k)%2*2^k<=2^k:=by
    have:q2g b/2^(i*w+k)%2*2^k<=1*2^k:=Nat.mul_le_mul_right _ (by omega)
    omega
   rw[Nat.pow_succ]at h2k
   rw[dT (by omega),cT,e1,qsi hb hl (by omega),oB,q01 (z:=(k:Int)) (by omega) (by omega),if_pos (by omega)]
   dsimp only
   rw[tN,show u64.bits=64 from rfl,Nat.min_eq_left (by omega),q34,<-Int.natCast_mul,q01 (by omega) (by omega),qh2 (by omega) (by omega),qay hlo,q00 (by omega) (by omega)]
   have ih:=qpp hb hl hw hi (by rw[Nat.succ_mul];exact hin) n (k+1) (by omega) (by omega)
   have e2:q2g b/2^(i*w)%2^(k+1)=q2g b/2^(i*w)%2^k+q2g b/2^(i*w+k)%2*2^k:=by
    rw[Nat.pow_succ,Nat.mod_mul,Nat.div_div_eq_div_mul,<-Nat.pow_add,Nat.mul_comm (2^k)]
   rw[e2]at ih
   exact ih
  ·have:k=w:=by omega
   rw[dF (by omega),cF,this]
theorem qlj {b:List Int}(hb:okB b)(hl:b.length<=100000000){w i:Nat}(hw:w<=64)(hi:i<=1000000)(hin:(i+1)*w<=8*b.length):
  F168.run Pk2 Rkf 4000000 (b,(i:Int),(w:Int),())=some ((((q2g b/2^(i*w)%2^w:Nat):Int),()),()):=by
 rw[show F168.run Pk2 Rkf 4000000 (b,(i:Int),(w:Int),())=_ from F168_run _ _ _ _]
 have:=qpp hb hl hw hi hin 4000000 0 (by omega) (by omega)
 rw[Nat.pow_zero,Nat.mod_one]at this
 exact this
theorem z12m {b:List Int}(hb:okB b)(hl:b.length<=100000000){w a:Nat}(hw:w<=64)(ha:a+w<=8*b.length):∀(d k n:Nat),w-k=d->k<=w->d<n->
  F165c3 n b ((a+k:Nat):Int) w ((q2g b/2^a%2^k:Nat):Int) k=some ((((q2g b/2^a%2^w:Nat):Int),()),()):=by
 intro d
 induction d using Nat.strongRecOn with
 | ind d ih=>
  intro k n hd hk hn
  obtain⟨n,rfl⟩:∃n',n=n'+1:=⟨n-1,by omega⟩
  rw[F165c3_eq]
  rcases Nat.eq_zero_or_pos d with rfl|hdp
  ·have:k=w:=by omega
   rw[dF (by omega),cF,this]
  ·have e2:i64.wrap (((a+k:Nat):Int).tdiv 8)=(((a+k)/8:Nat):Int):=by
    rw[Int.tdiv_eq_ediv_of_nonneg (by omega),q00 (by omega) (by omega)];omega
   have e3:((a+k:Nat):Int).tmod 8=(((a+k)%8:Nat):Int):=by
    rw[Int.tmod_eq_emod_of_nonneg (by omega)];omega
   have e4:i64.wrap ((w:Int)-(k:Int))=((w-k:Nat):Int):=by rw[q00 (by omega) (by omega)];omega
   obtain⟨t,ht,ht8,htd,ht1⟩:∃t:Nat,q9x (i64.wrap ((8:Int)-(((a+k)%8:Nat):Int))) ((w-k:Nat):Int)=(t:Int)/\t<=8-(a+k)%8/\t<=d/\1<=t:=by
    rw[q00 (by omega) (by omega)]
    unfold q9x
    by_cases h:((w-k:Nat):Int)<(8:Int)-(((a+k)%8:Nat):Int)
    ·rw[if_pos h];exact⟨w-k,rfl,by omega,by omega,by omega⟩
    ·rw[if_neg h];exact⟨8-(a+k)%8,by omega,by omega,by omega,by omega⟩
   rw[e2,e3,e4,ht,dT (by omega),cT,if_pos (by omega),if_pos (by omega),if_pos (by omega),if_pos (by omega),if_pos (by omega)]
   rw[tN,tN,tN,tN,qbj (qca hb) (by omega),show u8.bits=8 from rfl,show u64.bits=64 from rfl,Nat.min_eq_left (show(a+k)%8<=8 by omega),Nat.min_eq_left (show t<=8 by omega),Nat.min_eq_left (show k<=64 by omega),q94]
   have h2t:2^t<=256:=Nat.pow_le_pow_right (n:=2) (j:=8) (by decide) (by omega)
   have h2p:0<2^t:=Nat.two_pow_pos t
   have hlt:q2g b/256^((a+k)/8)%256/2^((a+k)%8)<256:=Nat.lt_of_le_of_lt (Nat.div_le_self _ _) (Nat.mod_lt _ (by decide))
   have e6:u8.wrap (u8.wrap ((1:Int)*(2:Int)^t)-(1:Int))=((2^t-1:Nat):Int):=by
    rw[Int.one_mul,q34]
    by_cases h8:t=8
    ·rw[h8];rfl
    ·have h7:2^t<=128:=Nat.pow_le_pow_right (n:=2) (j:=7) (by decide) (by omega)
     rw[q23 (z:=((2^t:Nat):Int)) (by omega) (by omega),q23 (by omega) (by omega)]
     omega
   have e7:Go.bits BinOp.and u8 ((q2g b/256^((a+k)/8)%256/2^((a+k)%8):Nat):Int) ((2^t-1:Nat):Int)=((q2g b/2^(a+k)%2^t:Nat):Int):=by
    rw[qsd hlt (by omega),Nat.and_two_pow_sub_one_eq_mod,qjr (by omega),show 8*((a+k)/8)+(a+k)%8=a+k by omega]
   have hy:q2g b/2^(a+k)%2^t<2^t:=Nat.mod_lt _ h2p
   have hlo:q2g b/2^a%2^k<2^k:=Nat.mod_lt _ (Nat.two_pow_pos k)
   have hkt:2^t*2^k<=2^64:=by rw[<-Nat.pow_add];exact Nat.pow_le_pow_right (by decide) (by omega)
   have h64:(2:Nat)^64=18446744073709551616:=by decide
   have hmul:(q2g b/2^(a+k)%2^t+1)*2^k<=2^t*2^k:=Nat.mul_le_mul_right _ hy
   rw[Nat.add_mul,Nat.one_mul]at hmul
   rw[e6,e7,q01 (z:=((q2g b/2^(a+k)%2^t:Nat):Int)) (by omega) (by omega),q34,<-Int.natCast_mul,q01 (by omega) (by omega),qh2 (by omega) (by omega),qay hlo,q00 (by omega) (by omega),q00 (by omega) (by omega)]
   have:=ih (d-t) (by omega) (k+t) n (by omega) (by omega) (by omega)
   have e8:q2g b/2^a%2^(k+t)=q2g b/2^a%2^k+q2g b/2^(a+k)%2^t*2^k:=by
    rw[Nat.pow_add 2 k t,Nat.mod_mul,Nat.div_div_eq_div_mul,<-Nat.pow_add,Nat.mul_comm (2^k)]
   rw[e8]at this
   rw[show((a+k:Nat):Int)+(t:Int)=((a+(k+t):Nat):Int) by omega,show(k:Int)+(t:Int)=((k+t:Nat):Int) by omega]
   exact this
theorem qy6 {b:List Int}(hb:okB b)(hl:b.length<=100000000){w a:Nat}(hw:w<=64)(ha:a+w<=8*b.length):
  F165.run Pk2 Rkf 4000000 (b,(a:Int),(w:Int),())=some ((((q2g b/2^a%2^w:Nat):Int),()),()):=by
 rw[show F165.run Pk2 Rkf 4000000 (b,(a:Int),(w:Int),())=_ from F165_run _ _ _ _]
 have:=z12m hb hl hw ha w 0 4000000 (by omega) (by omega) (by omega)
 rw[Nat.pow_zero,Nat.mod_one]at this
 exact this
def unp (b:List Int)(w:Nat)(i:Nat):List Int:=(List.range i).map fun k=>((q2g b/2^(k*w)%2^w:Nat):Int)
theorem qjd (b:List Int)(w i:Nat):unp b w (i+1)=unp b w i++[((q2g b/2^(i*w)%2^w:Nat):Int)]:=by
 rw[unp,List.range_succ,List.map_append];rfl
theorem q6f (b:List Int)(w i:Nat):(unp b w i).length=i:=by simp[unp]
theorem qpt {b:List Int}(hb:okB b){w N:Nat}(hw:w<=64)(hN:N<=65536)(hl:b.length=q04 N w):∀(n i:Nat),N-i<n->i<=N->F137c14 n b N w i (unp b w i)=some ((unp b w N,((0:Int),())),())
 |0,i,h,_=>by omega
 | n+1,i,h,hi=>by
  have hNw:N*w<=65536*64:=Nat.mul_le_mul hN hw
  rw[F137c14_eq]
  by_cases hlt:i<N
  ·have h1:(i+1)*w<=N*w:=Nat.mul_le_mul_right _ hlt
   rw[dT (by omega),cT,qlj hb (by unfold q04 at hl;omega) hw (by omega) (by unfold q04 at hl;omega),oB]
   dsimp only
   rw[if_pos (by rw[q6f];simp only[lim];omega),q00 (by omega) (by omega),<-qjd]
   exact qpt hb hw hN hl n (i+1) (by omega) (by omega)
  ·have:i=N:=by omega
   rw[dF (by omega),cF,this]
theorem z13a (b:List Int)(w i N:Nat)(h:i<N)(z:Int)(hz:z=((q2g b/2^(i*w)%2^w:Nat):Int)):(unp b w i++List.replicate (N-i) (0:Int)).set i z=unp b w (i+1)++List.replicate (N-(i+1)) (0:Int):=by
 rw[List.set_append_right _ _ (by rw[q6f];exact nR _),q6f,Nat.sub_self,show N-i=(N-(i+1))+1 by omega,List.replicate_succ,List.set_cons_zero,qjd,hz,aA]
 rfl
theorem qw4 {b:List Int}(hb:okB b){w N:Nat}(hw:w<=64)(hN:N<=65536)(hl:b.length=q04 N w):∀(n i:Nat),N-i<n->i<=N->F119c13 n b w N i (unp b w i++List.replicate (N-i) 0)=some ((unp b w N,((0:Int),())),())
 |0,i,h,_=>by omega
 | n+1,i,h,hi=>by
  have hNw:N*w<=65536*64:=Nat.mul_le_mul hN hw
  rw[F119c13_eq]
  by_cases hlt:i<N
  ·have h1:(i+1)*w<=N*w:=Nat.mul_le_mul_right _ hlt
   rw[Nat.succ_mul]at h1
   rw[dT (by omega),cT,<-Int.natCast_mul,q00 (z:=((i*w:Nat):Int)) (by omega) (by omega),qy6 hb (by unfold q04 at hl;omega) hw (by unfold q04 at hl;omega),oB]
   dsimp only
   rw[if_pos (by omega),if_pos (by rw[lA,q6f,List.length_replicate];omega),q00 (by omega) (by omega),tN,z13a b w i N hlt _ rfl]
   exact qw4 hb hw hN hl n (i+1) (by omega) (by omega)
  ·have:i=N:=by omega
   subst this
   rw[dF (by omega),cF,Nat.sub_self,List.replicate_zero,List.append_nil]
theorem qvf {b:List Int}(hb:okB b){w N:Nat}(hw:w<=64)(hN:N<=65536)(hl:b.length=q04 N w):∀(d i n:Nat),8*b.length-i=d->N*w<=i->i<=8*b.length->d+N+10<n->(∀k,N*w<=k->k<i->q2g b/2^k%2=0)->
  (F137c8 n b N w i=some ((unp b w N,((0:Int),())),())/\∀k,N*w<=k->k<8*b.length->q2g b/2^k%2=0)\/
  (F137c8 n b N w i=some (([],((4:Int),())),())/\∃k,N*w<=k/\k<8*b.length/\q2g b/2^k%2≠0)
 |0,i,n,hd,h1,h2,hn,hz=>by
  obtain⟨n,rfl⟩:∃n',n=n'+1:=⟨n-1,by omega⟩
  have hNw:N*w<=65536*64:=Nat.mul_le_mul hN hw
  have hps:q04 N w<=600000:=by unfold q04;omega
  have hps2:N*w<=8*q04 N w:=by unfold q04;omega
  left
  refine⟨?_,fun k k1 k2=>hz k k1 (by omega)⟩
  rw[F137c8_eq,show(8:Int)*(b.length:Int)=((8*b.length:Nat):Int) by omega,q00 (z:=((8*b.length:Nat):Int)) (by omega) (by omega),dF (by omega),cF]
  exact qpt hb hw hN hl n 0 (by omega) (by omega)
 | d+1,i,n,hd,h1,h2,hn,hz=>by
  obtain⟨n,rfl⟩:∃n',n=n'+1:=⟨n-1,by omega⟩
  have hNw:N*w<=65536*64:=Nat.mul_le_mul hN hw
  have hps:q04 N w<=600000:=by unfold q04;omega
  have hps2:N*w<=8*q04 N w:=by unfold q04;omega
  rw[F137c8_eq,show(8:Int)*(b.length:Int)=((8*b.length:Nat):Int) by omega,q00 (z:=((8*b.length:Nat):Int)) (by omega) (by omega),dT (by omega),cT,qsi hb (by omega) (by omega),oB]
  dsimp only
  by_cases hbit:q2g b/2^i%2=0
  ·rw[dF (show¬((q2g b/2^i%2:Nat):Int)=1 by rw[hbit];decide),cF,q00 (by omega) (by omega)]
   exact qvf hb hw hN hl d (i+1) n (by omega) (by omega) (by omega) (by omega) (fun k k1 k2=>by
    rcases Nat.eq_or_lt_of_le (Nat.le_of_lt_succ k2)with rfl|hk
    ·exact hbit
    ·exact hz k k1 hk)
  ·rw[dT (show((q2g b/2^i%2:Nat):Int)=1 by rw[(Nat.mod_two_eq_zero_or_one (q2g b/2^i)).resolve_left hbit];rfl),cT]
   exact .inr ⟨rfl,i,h1,by omega,hbit⟩
theorem qkl {V a:Nat}:∀(d:Nat),V<2^(a+d)->(∀k,a<=k->k<a+d->V/2^k%2=0)->V/2^a=0
 |0,h,_=>Nat.div_eq_of_lt (by simpa using h)
 | d+1,h,hz=>by
  have h1:V/2^(a+d)<2:=Nat.div_lt_of_lt_mul (by rw[<-Nat.pow_succ];exact h)
  have h2:=hz (a+d) (by omega) (by omega)
  have h3:V/2^(a+d)=0:=by
   generalize V/2^(a+d)=q at h1 h2 ⊢
   omega
  refine qkl d ?_ (fun k k1 k2=>hz k k1 (by omega))
  have hp:=Nat.two_pow_pos (a+d)
  rcases Nat.lt_or_ge V (2^(a+d))with h4|h4
  ·exact h4
  ·have:=Nat.div_pos h4 hp
   omega
abbrev upA:List PK:=[PK.v (Ty.int u8).sl,PK.v (Ty.int .i64),PK.v (Ty.int .i64)]
abbrev upR:List RK:=[RK.own 83 (Ty.int u64),RK.v (Ty.int .i64)]
theorem q96 {b:List Int}(hb:okB b){w N:Nat}(hw:w<=64)(hN:N<=65536)(hl:b.length=q04 N w):
  ∃(l:List Int) (e:Nat),F119.run upA upR 4000000 (b,(N:Int),(w:Int),())=some ((l,((e:Int),())),())/\F137.run upA upR 4000000 (b,(N:Int),(w:Int),())=some ((l,((e:Int),())),())/\
   (e=0->l=unp b w N)/\(e≠0->l=[])/\(q2g b/2^(N*w)=0->e=0):=by
 have hNw:N*w<=65536*64:=Nat.mul_le_mul hN hw
 rw[show F119.run upA upR 4000000 (b,(N:Int),(w:Int),())=_ from F119_run _ _ _ _,show F137.run upA upR 4000000 (b,(N:Int),(w:Int),())=_ from F137_run _ _ _ _]
 rw[show F119c1 4000000 b N w=_ from F119c1_eq 3999999 _ _ _,show F137c1 4000000 b N w=_ from F137c1_eq 3999999 _ _ _]
 rw[q5n (by omega) hw,oB,qur (by omega) hw,oB,qnl (by omega) hw,oB,q6u (by omega) hw]
 dsimp only
 rw[nT,cF,cF,oB]
 dsimp only
 rw[oB]
 dsimp only
 rw[hl,dF (Int.lt_irrefl ((q04 N w:Nat):Int)),cF,cF,cF,cF,<-Int.natCast_mul,q00 (z:=((N*w:Nat):Int)) (by omega) (by omega)]
 have hV:=qjf (qca hb)
 have hV8:q2g b<2^(N*w+(8*b.length-N*w)):=by
  rw[show N*w+(8*b.length-N*w)=8*b.length by unfold q04 at hl;omega,Nat.pow_mul]
  exact hV
 have hread:F119c11 3999999 b N w=some ((unp b w N,((0:Int),())),()):=by
  rw[show F119c11 3999999 b N w=_ from F119c11_eq 3999998 _ _ _,if_pos (by omega),if_pos (show(N:Int)<=((lim:Nat):Int) by have:lim=4294967296:=rfl;omega),tN]
  exact qw4 hb hw hN hl 3999998 0 (by omega) (by omega)
 -- the program's test
 have hprog:(q2g b/2^(N*w)=0->(bif !decide (((N*w:Nat):Int).tmod 8=0)then
       if (0:Int)<=i64.wrap (((q04 N w:Nat):Int)-1)then
        if i64.wrap (((q04 N w:Nat):Int)-1)<((q04 N w:Nat):Int)then
         if(0:Int)<=((N*w:Nat):Int).tmod 8 then
          bif !decide (b.getD (i64.wrap (((q04 N w:Nat):Int)-1)).toNat 0/(2:Int)^min (((N*w:Nat):Int).tmod 8).toNat u8.bits=0)then some (([],((4:Int),())),())else F119c11 3999999 b N w
         else none
        else none
       else none
      else F119c11 3999999 b N w)=some ((unp b w N,((0:Int),())),()))/\(q2g b/2^(N*w)≠0->(bif !decide (((N*w:Nat):Int).tmod 8=0)then
       if (0:Int)<=i64.wrap (((q04 N w:Nat):Int)-1)then
        if i64.wrap (((q04 N w:Nat):Int)-1)<((q04 N w:Nat):Int)then
         if(0:Int)<=((N*w:Nat):Int).tmod 8 then
          bif !decide (b.getD (i64.wrap (((q04 N w:Nat):Int)-1)).toNat 0/(2:Int)^min (((N*w:Nat):Int).tmod 8).toNat u8.bits=0)then some (([],((4:Int),())),())else F119c11 3999999 b N w
         else none
        else none
       else none
      else F119c11 3999999 b N w)=some (([],((4:Int),())),())):=by
  rw[hread,Int.tmod_eq_emod_of_nonneg (by omega),show(((N*w:Nat):Int)%8)=((N*w%8:Nat):Int) by omega]
  by_cases h8:N*w%8=0
  ·rw[dT (show((N*w%8:Nat):Int)=0 by omega)]
   have hz:q2g b/2^(N*w)=0:=by
    refine Nat.div_eq_of_lt ?_
    have:8*b.length=N*w:=by unfold q04 at hl;omega
    rw[<-this,Nat.pow_mul]
    exact hV
   exact⟨fun _=>rfl,fun h=>absurd hz h⟩
  ·have hs1:i64.wrap (((q04 N w:Nat):Int)-1)=((N*w/8:Nat):Int):=by
    have:q04 N w=N*w/8+1:=by unfold q04;omega
    rw[this,q00 (by omega) (by omega)]
    omega
   have hlast:q2g b/256^(N*w/8)<256:=Nat.div_lt_of_lt_mul (by
    have:b.length=N*w/8+1:=by unfold q04 at hl;omega
    rw[this,Nat.pow_succ]at hV
    exact hV)
   have hval:((q2g b/256^(N*w/8)%256:Nat):Int)/(2:Int)^(N*w%8)=((q2g b/2^(N*w):Nat):Int):=by
    rw[Nat.mod_eq_of_lt hlast,q94,Nat.div_div_eq_div_mul,<-qb2,show 8*(N*w/8)+N*w%8=N*w by omega]
   rw[dF (show¬((N*w%8:Nat):Int)=0 by omega),hs1,tN,tN,qbj (qca hb) (by unfold q04 at hl;omega),show u8.bits=8 from rfl,Nat.min_eq_left (by omega),hval]
   simp only[nF,cT]
   rw[if_pos (by omega),if_pos (by unfold q04;omega),if_pos (by omega)]
   refine⟨fun h=>?_,fun h=>?_⟩
   ·rw[dT (by omega)];rfl
   ·rw[dF (by omega)];rfl
 rcases qvf hb hw hN hl (8*b.length-N*w) (N*w) 3999999 rfl (nR _) (by unfold q04 at hl;omega) (by unfold q04 at hl;omega) (fun k k1 k2=>by omega)with⟨h1,h2⟩|⟨h1,k,k1,k2,k3⟩
 ·have hz:=qkl (8*b.length-N*w) hV8 (fun k k1 k2=>h2 k k1 (by omega))
  exact⟨unp b w N,0,hprog.1 hz,h1,fun _=>rfl,fun h=>absurd rfl h,fun _=>rfl⟩
 ·have hnz:q2g b/2^(N*w)≠0:=fun h=>by
   have:q2g b/2^k=0:=by
    rw[show k=N*w+(k-N*w) by omega,Nat.pow_add,<-Nat.div_div_eq_div_mul,h,Nat.zero_div]
   rw[this]at k3
   exact k3 rfl
  exact⟨[],4,hprog.2 hnz,h1,(fun h=>by cases h),(fun _=>rfl),(fun h=>absurd h hnz)⟩
end Go.Proofs.Tryz
