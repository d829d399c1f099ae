/- Law 12, after law 10: packed numbers and runs: what the program and the reference compute. -/
import Derived.Test.YtpnabclcnplchaaGreatL12Code
set_option linter.unusedVariables false
set_option linter.unusedSimpArgs false
namespace Go.Proofs.Tryz
open Go.Eng
open IntKind (i64 u64 u8)
def pk (w:Nat)(l:List Int):Nat->Nat
 |0=>0
 |i+1=>pk w l i+(l.getD i 0).toNat%2^w*2^(i*w)
theorem qne {w:Nat}{l:List Int}{i k m:Nat}(h:pk w l i<2^(i*w)):pk w l i+m%2^k*2^(i*w)<2^(i*w+k):=by
 have h1:m%2^k<2^k:=Nat.mod_lt _ (Nat.two_pow_pos k)
 rw[Nat.pow_add]
 calc pk w l i+m%2^k*2^(i*w)<2^(i*w)+m%2^k*2^(i*w):=Nat.add_lt_add_right h _
  _=2^(i*w)*(m%2^k+1):=by rw[Nat.mul_add,Nat.mul_one,Nat.mul_comm (m%2^k),Nat.add_comm]
  _<=2^(i*w)*2^k:=Nat.mul_le_mul_left _ h1
theorem ql1 (w:Nat)(l:List Int):∀i,pk w l i<2^(i*w)
 |0=>by simp[pk]
 |i+1=>by
  rw[pk,Nat.succ_mul]
  exact qne (ql1 w l i)
def q04 (n w:Nat):Nat:=(n*w+7)/8
theorem qv0 {w:Nat}{l:List Int}{i k t v len:Nat}(hk:k+t<=w)(ht:t<=8-(i*w+k)%8)(hv:v=(l.getD i 0).toNat){z:Int}{j r:Nat}(hj:j=(i*w+k)/8)(hr:r=(i*w+k)%8)
  (hz:z=(((pk w l i+v%2^k*2^(i*w))/256^j+v/2^k%2^t*2^r:Nat):Int)):
  (dig (pk w l i+v%2^k*2^(i*w)) len).set j z=dig (pk w l i+v%2^(k+t)*2^(i*w)) len:=by
 have hP:8*j+r=i*w+k:=by omega
 have hM:pk w l i+v%2^k*2^(i*w)<2^(8*j+r):=by rw[hP];exact qne (ql1 w l i)
 have hy:v/2^k%2^t<2^(8-r):=Nat.lt_of_lt_of_le (Nat.mod_lt _ (Nat.two_pow_pos t)) (Nat.pow_le_pow_right (by decide) (by omega))
 rw[z10w (by omega) hM hy hz,hP]
 congr 1
 rw[Nat.pow_add 2 k t,Nat.mod_mul,Nat.add_mul,Nat.add_assoc]
 congr 2
 rw[Nat.pow_add]
 simp only[Nat.mul_comm,Nat.mul_left_comm,Nat.mul_assoc]
theorem qux {w:Nat}{l:List Int}{i k v j r len:Nat}(hj:j=(i*w+k)/8)(hr:r=(i*w+k)%8)(hl:j<len):
  (dig (pk w l i+v%2^k*2^(i*w)) len).getD j 0=(((pk w l i+v%2^k*2^(i*w))/256^j:Nat):Int)/\(pk w l i+v%2^k*2^(i*w))/256^j<2^r:=by
 have hP:8*j+r=i*w+k:=by omega
 have hM:pk w l i+v%2^k*2^(i*w)<2^(8*j+r):=by rw[hP];exact qne (ql1 w l i)
 have hb:(pk w l i+v%2^k*2^(i*w))/256^j<2^r:=Nat.div_lt_of_lt_mul (by rw[<-qb2];exact hM)
 have h8:2^r<=256:=Nat.pow_le_pow_right (n:=2) (j:=8) (by decide) (by omega)
 exact⟨by rw[qx5 hl,Nat.mod_eq_of_lt (by omega)],hb⟩
theorem qsn {b y r t:Nat}(hb:b<2^r)(hr:r<8)(ht:t<=8-r)(hy:y<2^t):y*2^r<256/\b<256/\b|||(y*2^r)=b+y*2^r:=by
 have h1:2^t*2^r<=256:=by rw[<-Nat.pow_add];exact Nat.pow_le_pow_right (n:=2) (j:=8) (by decide) (by omega)
 have h2:2^r<=256:=Nat.pow_le_pow_right (n:=2) (j:=8) (by decide) (by omega)
 exact⟨Nat.lt_of_lt_of_le (Nat.mul_lt_mul_of_pos_right hy (Nat.two_pow_pos r)) h1,by omega,qay hb⟩
def okU (l:List Int):Prop:=∀i,i<l.length->∃v:Nat,l.getD i 0=(v:Int)/\v<18446744073709551616
/-! The reference: bit by bit. -/
theorem qpn {l:List Int}(hu:okU l){w i:Nat}(hw:w<=64)(hi:i<l.length)(hl:l.length<=100000):∀(d k n:Nat),w-k=d->k<=w->d<n->
  ∃m,n=m+d+1/\F105c8 n l w i k (dig (pk w l i+(l.getD i 0).toNat%2^k*2^(i*w)) (q04 l.length w))=F105c5 m l w ((i+1:Nat):Int) (dig (pk w l (i+1)) (q04 l.length w))
 |0,k,n,hd,hk,hn=>by
  obtain⟨n,rfl⟩:∃n',n=n'+1:=⟨n-1,by omega⟩
  have hkw:k=w:=by omega
  subst hkw
  refine⟨n,rfl,?_⟩
  rw[F105c8_eq,dF (by omega),cF,q00 (by omega) (by omega)]
  rfl
 | d+1,k,n,hd,hk,hn=>by
  obtain⟨n,rfl⟩:∃n',n=n'+1:=⟨n-1,by omega⟩
  obtain⟨m,h1,h2⟩:=qpn hu hw hi hl d (k+1) n (by omega) (by omega) (by omega)
  refine⟨m,by omega,?_⟩
  obtain⟨v,hv,hvl⟩:=hu i hi
  have hiw:i*w<=6400000:=Nat.le_trans (Nat.mul_le_mul (show i<=100000 by omega) hw) (by decide)
  have hsz:(i*w+k)/8<q04 l.length w:=by
   have:(i+1)*w<=l.length*w:=Nat.mul_le_mul_right _ (by omega)
   rw[Nat.succ_mul]at this
   unfold q04
   omega
  have e1:i64.wrap (i64.wrap ((i:Int)*(w:Int))+(k:Int))=((i*w+k:Nat):Int):=by
   rw[show(i:Int)*(w:Int)=((i*w:Nat):Int) by simp,q00 (z:=((i*w:Nat):Int)) (by omega) (by omega),show((i*w:Nat):Int)+(k:Int)=((i*w+k:Nat):Int) by omega,q00 (by omega) (by omega)]
  have e2:i64.wrap (((i*w+k:Nat):Int).tdiv 8)=(((i*w+k)/8:Nat):Int):=by
   rw[Int.tdiv_eq_ediv_of_nonneg (by omega),q00 (by omega) (by omega)];omega
  have e3:u64.wrap (((i*w+k:Nat):Int).tmod 8)=(((i*w+k)%8:Nat):Int):=by
   rw[Int.tmod_eq_emod_of_nonneg (by omega),q01 (by omega) (by omega)];omega
  have e4:u64.wrap (k:Int)=(k:Int):=q01 (by omega) (by omega)
  obtain⟨b1,b2⟩:=qux (w:=w) (l:=l) (i:=i) (k:=k) (v:=v) (len:=q04 l.length w) rfl rfl hsz
  have hvt:(l.getD i 0).toNat=v:=by rw[hv];rfl
  rw[hvt]at h2 ⊢
  rw[F105c8_eq,e1,e2,e3,e4]
  simp only[dT (show(k:Int)<(w:Int) by omega),cT,q57,if_pos (show(0:Int)<=(((i*w+k)/8:Nat):Int) by omega),if_pos (show(((i*w+k)/8:Nat):Int)<((q04 l.length w:Nat):Int) by omega),if_pos (show(0:Int)<=(i:Int) by omega),if_pos (show(i:Int)<(l.length:Int) by omega),if_pos (show(0:Int)<=(k:Int) by omega),if_pos (show(0:Int)<=(((i*w+k)%8:Nat):Int) by omega),tN]
  rw[b1,hv,show u64.bits=64 from rfl,show u8.bits=8 from rfl,Nat.min_eq_left (show k<=64 by omega),Nat.min_eq_left (show(i*w+k)%8<=8 by omega),q94]
  obtain⟨c1,c2,c3⟩:=qsn (y:=v/2^k%2^1) (t:=1) b2 (by omega) (by omega) (Nat.mod_lt _ (by decide))
  have e5:Go.bits BinOp.and u64 ((v/2^k:Nat):Int) (1:Int)=((v/2^k%2^1:Nat):Int):=q4n (k:=1) (Nat.lt_of_le_of_lt (Nat.div_le_self _ _) hvl) (by decide)
  have hy2:v/2^k%2^1<2:=Nat.mod_lt _ (by decide)
  rw[e5,q23 (z:=((v/2^k%2^1:Nat):Int)) (by omega) (by omega),q34,<-Int.natCast_mul,q23 (by omega) (by omega),z12a c2 c1,c3,q00 (by omega) (by omega),
   qv0 (t:=1) (by omega) (by omega) hvt.symm rfl rfl rfl]
  exact h2
theorem qpm {l:List Int}(hu:okU l){w:Nat}(hw:w<=64)(hl:l.length<=50000):∀(d i n:Nat),l.length-i=d->i<=l.length->d*(w+2)<n->
  F105c5 n l w i (dig (pk w l i) (q04 l.length w))=some ((dig (pk w l l.length) (q04 l.length w),()),())
 |0,i,n,hd,hi,hn=>by
  obtain⟨n,rfl⟩:∃n',n=n'+1:=⟨n-1,by omega⟩
  have:i=l.length:=by omega
  rw[F105c5_eq,dF (by omega),cF,this]
 |d+1,i,n,hd,hi,hn=>by
  obtain⟨n,rfl⟩:∃n',n=n'+1:=⟨n-1,by omega⟩
  rw[Nat.succ_mul]at hn
  obtain⟨m,h1,h2⟩:=qpn hu hw (i:=i) (by omega) (by omega) w 0 n (by omega) (by omega) (by omega)
  rw[F105c5_eq,dT (by omega),cT]
  simp only[Nat.pow_zero,Nat.mod_one,Nat.zero_mul,Nat.add_zero]at h2
  rw[show F105c8 n l w i 0 _=_ from h2]
  exact qpm hu hw hl d (i+1) m (by omega) (by omega) (by omega)
theorem size_eq {n w:Nat}(hn:n<=1048576)(hw:w<=64):i64.wrap ((i64.wrap (i64.wrap ((n:Int)*(w:Int))+(7:Int))).tdiv (8:Int))=((q04 n w:Nat):Int)/\q04 n w<=8388608:=by
 have hnw:n*w<=67108864:=Nat.le_trans (Nat.mul_le_mul hn hw) (by decide)
 refine⟨?_,by unfold q04;omega⟩
 rw[show(n:Int)*(w:Int)=((n*w:Nat):Int) by simp,q00 (z:=((n*w:Nat):Int)) (by omega) (by omega),show((n*w:Nat):Int)+7=((n*w+7:Nat):Int) by omega,q00 (z:=((n*w+7:Nat):Int)) (by omega) (by omega),Int.tdiv_eq_ediv_of_nonneg (by omega),q00 (by omega) (by omega)]
 unfold q04
 omega
theorem qnl {n w:Nat}(hn:n<=1048576)(hw:w<=64):F157.run Pk9 Rkl 4000000 ((n:Int),(w:Int),())=some ((true,()),()):=by
 rw[show F157.run Pk9 Rkl 4000000 ((n:Int),(w:Int),())=_ from F157_run _ _ _,dT (show(0:Int)<=(n:Int) by omega),cT,dT (show(n:Int)<=1048576 by omega),cT,dT (show(0:Int)<=(w:Int) by omega),cT,dT (show(w:Int)<=64 by omega)]
theorem qur {n w:Nat}(hn:n<=1048576)(hw:w<=64):F150.run Pk9 Rkl 4000000 ((n:Int),(w:Int),())=some ((true,()),()):=by
 rw[show F150.run Pk9 Rkl 4000000 ((n:Int),(w:Int),())=_ from F150_run _ _ _,dT (show(0:Int)<=(n:Int) by omega),cT,dT (show(n:Int)<=1048576 by omega),cT,dT (show(0:Int)<=(w:Int) by omega),cT,dT (show(w:Int)<=64 by omega)]
theorem q6u {n w:Nat}(hn:n<=1048576)(hw:w<=64):F136.run Pk9 Rk6 4000000 ((n:Int),(w:Int),())=some ((((q04 n w:Nat):Int),()),()):=by
 rw[show F136.run Pk9 Rk6 4000000 ((n:Int),(w:Int),())=_ from F136_run _ _ _,qnl hn hw,oB,(size_eq hn hw).1]
 rfl
theorem q5n {n w:Nat}(hn:n<=1048576)(hw:w<=64):F118.run Pk9 Rk6 4000000 ((n:Int),(w:Int),())=some ((((q04 n w:Nat):Int),()),()):=by
 rw[show F118.run Pk9 Rk6 4000000 ((n:Int),(w:Int),())=_ from F118_run _ _ _,qur hn hw,oB,(size_eq hn hw).1]
 rfl
def q27 (l:List Int)(w:Nat):List Int:=dig (pk w l l.length) (q04 l.length w)
theorem q4r (l:List Int)(w:Nat):(q27 l w).length=q04 l.length w:=q57 _ _
theorem qfu {l:List Int}(hu:okU l){w:Nat}(hw:w<=64)(hl:l.length<=50000):F105.run Pko Rk1 4000000 (l,(w:Int),())=some ((q27 l w,()),()):=by
 rw[show F105.run Pko Rk1 4000000 (l,(w:Int),())=_ from(F105_run _ _ _).trans (F105c1_eq 3999999 _ _),qnl (by omega) hw,oB]
 simp only[nT,cF]
 have hs:=(size_eq (n:=l.length) (w:=w) (by omega) hw).2
 rw[q6u (by omega) hw,oB]
 dsimp only
 rw[if_pos (by omega),if_pos (show((q04 l.length w:Nat):Int)<=((lim:Nat):Int) by have:lim=4294967296:=rfl;omega),tN,<-qoh]
 refine qpm hu hw hl l.length 0 3999999 (by omega) (by omega) ?_
 have:l.length*(w+2)<=50000*66:=Nat.mul_le_mul hl (by omega)
 omega
/-! The program: as many bits at once as a byte takes. -/
theorem z15w {l:List Int}{w i v:Nat}(hw:w<=64)(hi:i<l.length)(hl:l.length<=100000)(hv:(l.getD i 0).toNat=v)(hvl:v<18446744073709551616):∀(d k n:Nat),w-k=d->k<=w->d<n->
  F151c1 n ((v/2^k:Nat):Int) ((w-k:Nat):Int) (dig (pk w l i+v%2^k*2^(i*w)) (q04 l.length w)) w ((i*w+k:Nat):Int)=some ((),((w:Int),(((i+1)*w:Nat):Int),(dig (pk w l (i+1)) (q04 l.length w),()),())):=by
 intro d
 induction d using Nat.strongRecOn with
 | ind d ih=>
  intro k n hd hk hn
  obtain⟨n,rfl⟩:∃n',n=n'+1:=⟨n-1,by omega⟩
  rw[F151c1_eq]
  rcases Nat.eq_zero_or_pos d with rfl|hdp
  ·have hkw:k=w:=by omega
   subst hkw
   rw[dF (by omega),cF,Nat.succ_mul]
   subst hv
   rfl
  ·have hiw:i*w<=6400000:=Nat.le_trans (Nat.mul_le_mul (show i<=100000 by omega) hw) (by decide)
   have hsz:(i*w+k)/8<q04 l.length w:=by
    have:(i+1)*w<=l.length*w:=Nat.mul_le_mul_right _ (by omega)
    rw[Nat.succ_mul]at this
    unfold q04
    omega
   have e2:i64.wrap (((i*w+k:Nat):Int).tdiv 8)=(((i*w+k)/8:Nat):Int):=by
    rw[Int.tdiv_eq_ediv_of_nonneg (by omega),q00 (by omega) (by omega)];omega
   have e3:((i*w+k:Nat):Int).tmod 8=(((i*w+k)%8:Nat):Int):=by
    rw[Int.tmod_eq_emod_of_nonneg (by omega)];omega
   obtain⟨t,ht,ht8,htd,ht1⟩:∃t:Nat,q9x (i64.wrap ((8:Int)-(((i*w+k)%8:Nat):Int))) ((w-k:Nat):Int)=(t:Int)/\t<=8-(i*w+k)%8/\t<=d/\1<=t:=by
    rw[q00 (by omega) (by omega)]
    unfold q9x
    by_cases h:((w-k:Nat):Int)<(8:Int)-(((i*w+k)%8:Nat):Int)
    ·rw[if_pos h];exact⟨w-k,rfl,by omega,by omega,by omega⟩
    ·rw[if_neg h];exact⟨8-(i*w+k)%8,by omega,by omega,by omega,by omega⟩
   obtain⟨b1,b2⟩:=qux (w:=w) (l:=l) (i:=i) (k:=k) (v:=v) (len:=q04 l.length w) rfl rfl hsz
   rw[e2,e3,ht]
   simp only[dT (show(0:Int)<((w-k:Nat):Int) by omega),cT,q57,if_pos (show(0:Int)<=(((i*w+k)/8:Nat):Int) by omega),if_pos (show(((i*w+k)/8:Nat):Int)<((q04 l.length w:Nat):Int) by omega),if_pos (show(0:Int)<=(t:Int) by omega),if_pos (show(0:Int)<=(((i*w+k)%8:Nat):Int) by omega),tN]
   rw[b1,show u64.bits=64 from rfl,show u8.bits=8 from rfl,Nat.min_eq_left (show t<=64 by omega),Nat.min_eq_left (show(i*w+k)%8<=8 by omega),q94]
   have h2t:2^t<=256:=Nat.pow_le_pow_right (n:=2) (j:=8) (by decide) (by omega)
   have h2p:0<2^t:=Nat.two_pow_pos t
   have e6:u64.wrap (u64.wrap ((1:Int)*(2:Int)^t)-(1:Int))=((2^t-1:Nat):Int):=by
    rw[Int.one_mul,q34,q01 (z:=((2^t:Nat):Int)) (by omega) (by omega),q01 (by omega) (by omega)]
    omega
   obtain⟨c1,c2,c3⟩:=qsn (y:=v/2^k%2^t) (t:=t) b2 (by omega) (by omega) (Nat.mod_lt _ h2p)
   have hy2:v/2^k%2^t<2^t:=Nat.mod_lt _ h2p
   rw[e6,q4n (Nat.lt_of_le_of_lt (Nat.div_le_self _ _) hvl) (by omega),q23 (z:=((v/2^k%2^t:Nat):Int)) (by omega) (by omega),q34,<-Int.natCast_mul,q23 (by omega) (by omega),z12a c2 c1,c3,
    qv0 (t:=t) (by omega) (by omega) hv.symm rfl rfl rfl,q00 (by omega) (by omega),q00 (by omega) (by omega),Nat.div_div_eq_div_mul,<-Nat.pow_add]
   have:=ih (d-t) (by omega) (k+t) n (by omega) (by omega) (by omega)
   rw[show((w-k:Nat):Int)-(t:Int)=((w-(k+t):Nat):Int) by omega,show((i*w+k:Nat):Int)+(t:Int)=((i*w+(k+t):Nat):Int) by omega]
   exact this
theorem z12i {l:List Int}{w i v:Nat}(hw:w<=64)(hi:i<l.length)(hl:l.length<=100000)(hv:l.getD i 0=(v:Int))(hvl:v<18446744073709551616):
  F151.run Pk1k [] 4000000 (l.getD i 0,(w:Int),((i*w:Nat):Int),(dig (pk w l i) (q04 l.length w),()),())=some ((),((w:Int),(((i+1)*w:Nat):Int),(dig (pk w l (i+1)) (q04 l.length w),()),())):=by
 rw[show F151.run Pk1k [] 4000000 (l.getD i 0,(w:Int),((i*w:Nat):Int),(dig (pk w l i) (q04 l.length w),()),())=_ from F151_run _ _ _ _ _]
 have:=z15w (l:=l) (w:=w) (i:=i) (v:=v) hw hi hl (by rw[hv];rfl) hvl w 0 4000000 (by omega) (by omega) (by omega)
 simp only[Nat.pow_zero,Nat.mod_one,Nat.zero_mul,Nat.add_zero,Nat.div_one,Nat.sub_zero]at this
 rw[hv]
 exact this
theorem quu {l:List Int}(hu:okU l){w:Nat}(hw:w<=64)(hl:l.length<=100000):∀(n i:Nat),l.length-i<n->i<=l.length->
  F98c7 n l (l.length:Int) i w ((i*w:Nat):Int) (dig (pk w l i) (q04 l.length w))=some ((q27 l w,()),())
 |0,i,h,_=>by omega
 | n+1,i,h,hi=>by
  rw[F98c7_eq]
  by_cases hlt:i<l.length
  ·obtain⟨v,hv,hvl⟩:=hu i hlt
   simp only[dT (show(i:Int)<(l.length:Int) by omega),cT,if_pos (show(0:Int)<=(i:Int) by omega),if_pos (show(i:Int)<(l.length:Int) by omega),tN]
   rw[z12i hw hlt hl hv hvl,oB,q00 (by omega) (by omega)]
   exact quu hu hw hl n (i+1) (by omega) (by omega)
  ·have:i=l.length:=by omega
   rw[dF (by omega),cF,this]
   rfl
theorem qix {l:List Int}(hu:okU l){w:Nat}(hw:w<=64)(hl:l.length<=100000):F98.run Pko Rk1 4000000 (l,(w:Int),())=some ((q27 l w,()),()):=by
 rw[show F98.run Pko Rk1 4000000 (l,(w:Int),())=_ from(F98_run _ _ _).trans (F98c1_eq 3999999 _ _),qur (by omega) hw,oB]
 simp only[nT,cF]
 have hs:=(size_eq (n:=l.length) (w:=w) (by omega) hw).2
 rw[q5n (by omega) hw,oB]
 dsimp only
 rw[if_pos (by omega),if_pos (show((q04 l.length w:Nat):Int)<=((lim:Nat):Int) by have:lim=4294967296:=rfl;omega),tN,<-qoh]
 have:=quu hu hw hl 3999999 0 (by omega) (by omega)
 rw[Nat.zero_mul]at this
 exact this
end Go.Proofs.Tryz
