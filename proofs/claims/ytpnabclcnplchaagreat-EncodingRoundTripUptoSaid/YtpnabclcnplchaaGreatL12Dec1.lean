/- Law 10: numbers read: of seven bits a byte, signed ones, packed ones. -/
import Derived.Test.YtpnabclcnplchaaGreatL12Dict
import Derived.Test.YtpnabclcnplchaaGreatL12FnD
set_option linter.unusedVariables false
set_option linter.unusedSimpArgs false
namespace Go.Proofs.Tryz
open Go.Eng
open IntKind (i64 u64 u8)
def okB (b:List Int):Prop:=∀i,i<b.length->∃v:Nat,b.getD i 0=(v:Int)/\v<256
/-! Numbers of seven bits a byte. -/
set_option maxHeartbeats 1000000 in
theorem qht {b:List Int}(hb:okB b)(hl:b.length<=4000000000){p:Nat}(hp:p<=b.length):∀(d i v n m:Nat),10-i=d->i<=9->v<128^i->2*d+1<n->2*d<m->
  ∃(x q e:Nat),F121c5 n b p v i=some (((x:Int),((q:Int),((e:Int),()))),())/\F132c6 m b p v ((128^i:Nat):Int) i=some (((x:Int),((q:Int),((e:Int),()))),())/\
   (e=0->p+i<q/\q<=b.length/\x<18446744073709551616)/\(e≠0->x=0/\q=0)
 |0,i,v,n,m,hd,hi,hv,hn,hm=>by omega
 | d + 1,i,v,n,m,hd,hi,hv,hn,hm=>by
  obtain⟨n,rfl⟩:∃n',n=n'+3:=⟨n-3,by omega⟩
  obtain⟨m,rfl⟩:∃m',m=m'+2:=⟨m-2,by omega⟩
  have hw:i64.wrap ((p:Int)+(i:Int))=((p+i:Nat):Int):=by rw[q00 (by omega) (by omega)];omega
  rw[F121c5_eq,F132c6_eq,hw]
  by_cases hend:b.length<=p+i
  ·simp only[dT (show(i:Int)<10 by omega),cT,dT (show(b.length:Int)<=((p+i:Nat):Int) by omega),cT]
   exact⟨0,0,2,rfl,rfl,fun h=>by omega,fun _=>⟨rfl,rfl⟩⟩
  ·obtain⟨c,hc,hc8⟩:=hb (p+i) (by omega)
   have hc':b.getD (((p+i:Nat):Int)).toNat 0=(c:Int):=by rw[tN];exact hc
   generalize b.getD (((p+i:Nat):Int)).toNat 0=z at hc' ⊢
   subst hc'
   simp only[dT (show(i:Int)<10 by omega),cT,dF (show¬(b.length:Int)<=((p+i:Nat):Int) by omega),cF,if_pos (show(0:Int)<=((p+i:Nat):Int) by omega),if_pos (show((p+i:Nat):Int)<(b.length:Int) by omega)]
   -- the error by form
   by_cases h9:i=9/\1<c
   ·simp only[dT (show(i:Int)=9 by omega),dT (show(1:Int)<(c:Int) by omega),cT]
    exact⟨0,0,4,rfl,rfl,fun h=>by omega,fun _=>⟨rfl,rfl⟩⟩
   ·have hpow:(128:Nat)^i<=128^9:=Nat.pow_le_pow_right (by decide) hi
    have h9v:(128:Nat)^9=9223372036854775808:=by decide
    have hpos:0<(128:Nat)^i:=Nat.pow_pos (by decide)
    have h27:(2:Nat)^(7*i)=128^i:=by rw[Nat.pow_mul]
    -- the bits that come in
    have hbit:c%128*128^i<18446744073709551616:=by
     by_cases h:i=9
     ·have:c<=1:=by omega
      rw[h,h9v,Nat.mod_eq_of_lt (by omega)]
      omega
     ·have h8:(128:Nat)^i<=128^8:=Nat.pow_le_pow_right (by decide) (by omega)
      have h8v:(128:Nat)^8=72057594037927936:=by decide
      have:c%128*128^i<=127*128^8:=Nat.mul_le_mul (by omega) h8
      omega
    have hsum:v+c%128*128^i<18446744073709551616:=by
     by_cases h:i=9
     ·have:c<=1:=by omega
      have h1:c%128*128^i<=1*128^9:=Nat.mul_le_mul (by omega) hpow
      omega
     ·have h8:(128:Nat)^i<=128^8:=Nat.pow_le_pow_right (by decide) (by omega)
      have h8v:(128:Nat)^8=72057594037927936:=by decide
      have:c%128*128^i<=127*128^8:=Nat.mul_le_mul (by omega) h8
      omega
    have hv':v+c%128*128^i<128^(i+1):=by
     have h1:c%128<128:=Nat.mod_lt _ (by decide)
     have:(c%128+1)*128^i<=128*128^i:=Nat.mul_le_mul_right _ (by omega)
     rw[Nat.add_mul,Nat.one_mul]at this
     rw[Nat.pow_succ']
     omega
    have e7:i64.wrap ((7:Int)*(i:Int))=((7*i:Nat):Int):=by rw[q00 (by omega) (by omega)];omega
    have e127:Go.bits BinOp.and u8 (c:Int) (127:Int)=((c%128:Nat):Int):=by
     rw[show(127:Int)=((127:Nat):Int)from rfl,qsd hc8 (by decide),show c&&&127=c%2^7 from Nat.and_two_pow_sub_one_eq_mod c 7]
    have eP:Go.bits BinOp.or u64 (v:Int) (u64.wrap (u64.wrap (Go.bits BinOp.and u8 (c:Int) (127:Int))*(2:Int)^min (i64.wrap ((7:Int)*(i:Int))).toNat u64.bits))=((v+c%128*128^i:Nat):Int):=by
     rw[e127,e7,q01 (z:=((c%128:Nat):Int)) (by omega) (by omega),tN,show u64.bits=64 from rfl,Nat.min_eq_left (by omega),q34,h27,<-Int.natCast_mul,q01 (by omega) (by omega),qh2 (by omega) hbit,<-h27,qay (by rw[h27];exact hv)]
    have eR:u64.wrap ((v:Int)+u64.wrap (u64.wrap ((c:Int).tmod 128)*((128^i:Nat):Int)))=((v+c%128*128^i:Nat):Int):=by
     rw[Int.tmod_eq_emod_of_nonneg (by omega),show((c:Int)%128)=((c%128:Nat):Int) by omega,q01 (z:=((c%128:Nat):Int)) (by omega) (by omega),<-Int.natCast_mul,q01 (z:=((c%128*128^i:Nat):Int)) (by omega) (by omega),<-Int.natCast_add,q01 (by omega) (by omega)]
    have e1:i64.wrap ((i:Int)+1)=((i+1:Nat):Int):=by rw[q00 (by omega) (by omega)];omega
    have hA:(bif decide ((i:Int)=9)then bif decide ((1:Int)<(c:Int))then some (((0:Int),((0:Int),((4:Int),()))),())else F121c12 (n+2) b p v i c i else F121c12 (n+2) b p v i c i)=F121c12 (n+2) b p v i c i:=by
     by_cases h:i=9
     ·rw[dT (by omega),dF (by omega),cT,cF]
     ·rw[dF (by omega),cF]
    rw[hA]
    have hstop:∀k,F121c16 (k+1) (p:Int) ((v+c%128*128^i:Nat):Int) (i:Int)=some ((((v+c%128*128^i:Nat):Int),(((p+i+1:Nat):Int),((0:Int),()))),()):=by
     intro k
     rw[F121c16_eq,hw,q00 (by omega) (by omega)]
     rfl
    -- no zero at the end
    by_cases hz:0<i/\c=0
    ·refine⟨0,0,4,?_,?_,fun h=>by omega,fun _=>⟨rfl,rfl⟩⟩
     ·rw[F121c12_eq,e7,if_pos (by omega),dF (by omega),cF,dT (show(c:Int)=0 by omega),cT,dT (by omega)]
      rfl
     ·by_cases h:i=9
      ·simp only[dT (show(i:Int)=9 by omega),dF (show¬(1:Int)<(c:Int) by omega),dT (show(0:Int)<(i:Int) by omega),dT (show(c:Int)=0 by omega),cT,cF]
       rfl
      ·simp only[dF (show¬(i:Int)=9 by omega),dT (show(0:Int)<(i:Int) by omega),dT (show(c:Int)=0 by omega),cT,cF]
       rfl
    ·have hB:(bif decide ((i:Int)=9)then bif decide ((1:Int)<(c:Int))then some (((0:Int),((0:Int),((4:Int),()))),())else bif decide ((0:Int)<(i:Int))then bif decide ((c:Int)=0)then some (((0:Int),((0:Int),((4:Int),()))),())else F132c11 (m+1) b p v ((128^i:Nat):Int) i c else F132c11 (m+1) b p v ((128^i:Nat):Int) i c else
       bif decide ((0:Int)<(i:Int))then bif decide ((c:Int)=0)then some (((0:Int),((0:Int),((4:Int),()))),())else F132c11 (m+1) b p v ((128^i:Nat):Int) i c else F132c11 (m+1) b p v ((128^i:Nat):Int) i c)=F132c11 (m+1) b p v ((128^i:Nat):Int) i c:=by
      have hin:(bif decide ((0:Int)<(i:Int))then bif decide ((c:Int)=0)then some (((0:Int),((0:Int),((4:Int),()))),())else F132c11 (m+1) b p v ((128^i:Nat):Int) i c else F132c11 (m+1) b p v ((128^i:Nat):Int) i c)=F132c11 (m+1) b p v ((128^i:Nat):Int) i c:=by
       by_cases h:0<i
       ·rw[dT (by omega),dF (by omega),cT,cF]
       ·rw[dF (by omega),cF]
      rw[hin]
      by_cases h:i=9
      ·rw[dT (by omega),dF (by omega),cT,cF]
      ·rw[dF (by omega),cF]
     rw[hB]
     by_cases hbig:128<=c
     ·have hi9:i<9:=by omega
      obtain⟨x,q,e,r1,r2,r3,r4⟩:=qht hb hl hp d (i+1) (v+c%128*128^i) (n+1) m (by omega) (by omega) hv' (by omega) (by omega)
      refine⟨x,q,e,?_,?_,fun h=>by have:=r3 h;omega,r4⟩
      ·rw[F121c12_eq,eP,e7,if_pos (by omega),dT (by omega),cT,e1]
       exact r1
      ·have h8:(128:Nat)^(i+1)<=128^9:=Nat.pow_le_pow_right (by decide) (by omega)
       rw[F132c11_eq,eR,dF (by omega),cF,e1,show((128^i:Nat):Int)*128=((128^(i+1):Nat):Int) by rw[Nat.pow_succ,Int.natCast_mul];rfl,q01 (by omega) (by omega)]
       exact r2
     ·refine⟨v+c%128*128^i,p+i+1,0,?_,?_,fun _=>⟨by omega,by omega,hsum⟩,fun h=>absurd rfl h⟩
      ·rw[F121c12_eq,eP,e7,if_pos (by omega),dF (by omega),cF]
       by_cases hc0:c=0
       ·rw[dT (show(c:Int)=0 by omega),cT,dF (by omega),cF]
        exact hstop n
       ·rw[dF (show¬(c:Int)=0 by omega),cF]
        exact hstop n
      ·rw[F132c11_eq,eR,dT (by omega),cT,hw,q00 (by omega) (by omega)]
       rfl
abbrev q99:List PK:=[PK.v (Ty.int u8).sl,PK.v (Ty.int .i64)]
abbrev qcq:List RK:=[RK.v (Ty.int u64),RK.v (Ty.int .i64),RK.v (Ty.int .i64)]
theorem q38 {b:List Int}(hb:okB b)(hl:b.length<=4000000000)(at_:Int):
  ∃(x q e:Nat),F121.run q99 qcq 4000000 (b,at_,())=some (((x:Int),((q:Int),((e:Int),()))),())/\F132.run q99 qcq 4000000 (b,at_,())=some (((x:Int),((q:Int),((e:Int),()))),())/\
   (e=0->at_<q/\q<=b.length/\x<18446744073709551616)/\(e≠0->x=0/\q=0):=by
 rw[show F121.run q99 qcq 4000000 (b,at_,())=_ from F121_run _ _ _,show F132.run q99 qcq 4000000 (b,at_,())=_ from F132_run _ _ _]
 by_cases h0:at_<0
 ·rw[dT h0]
  exact⟨0,0,1,rfl,rfl,fun h=>by omega,fun _=>⟨rfl,rfl⟩⟩
 ·obtain⟨p,rfl⟩:=Int.eq_ofNat_of_zero_le (by omega:0<=at_)
  rw[dF h0,cF,cF]
  by_cases h1:b.length<p
  ·rw[dT (show(b.length:Int)<(p:Int) by omega)]
   exact⟨0,0,1,rfl,rfl,fun h=>by omega,fun _=>⟨rfl,rfl⟩⟩
  ·rw[dF (show¬(b.length:Int)<(p:Int) by omega),cF,cF]
   obtain⟨x,q,e,r1,r2,r3,r4⟩:=qht hb hl (p:=p) (by omega) 10 0 0 3999998 3999999 (by omega) (by omega) (by decide) (by omega) (by omega)
   refine⟨x,q,e,?_,?_,fun h=>by have:=r3 h;omega,r4⟩
   ·rw[show F121c3 4000000 b p=_ from F121c3_eq 3999999 b p]
    rw[show F121c5 3999999 b (p:Int) 0 0=F121c5 (3999998+1) b (p:Int) 0 0 from rfl]
    obtain⟨x',q',e',s1,s2,_⟩:=qht hb hl (p:=p) (by omega) 10 0 0 3999999 3999999 (by omega) (by omega) (by decide) (by omega) (by omega)
    have:F132c6 3999999 b p 0 ((128^0:Nat):Int) 0=some (((x:Int),((q:Int),((e:Int),()))),()):=r2
    rw[show F132c6 3999999 b p 0 ((128^0:Nat):Int) 0=_ from s2]at this
    exact s1.trans this
   ·rw[show F132c3 4000000 b p=_ from F132c3_eq 3999999 b p]
    exact r2
/-! Signed numbers. -/
theorem q97 {n:Nat}(hn:n<18446744073709551616):∃z:Int,(-9223372036854775808<=z/\z<9223372036854775808)/\F125.run Pka Rk6 4000000 ((n:Int),())=some ((z,()),())/\F141.run Pka Rk6 4000000 ((n:Int),())=some ((z,()),())/\z=if n%2=0 then((n/2:Nat):Int)else-((n/2:Nat):Int)-1:=by
 have xor_lo:∀a:Nat,a<9223372036854775808->Go.bits .xor .i64 (a:Int) (0:Int)=(a:Int):=by
  intro a ha
  unfold Go.bits
  simp only[show(0:Int)=((0:Nat):Int)from rfl,q5k,BitVec.toNat_xor,BitVec.toNat_ofNat,show i64.bits=64 from rfl]
  rw[Nat.mod_eq_of_lt (show a<2^64 by omega),Nat.zero_mod,Nat.xor_zero,q00 (by omega) (by omega)]
 have xor_hi:∀a:Nat,a<9223372036854775808->Go.bits .xor .i64 (a:Int) (-1:Int)=-(a:Int)-1:=by
  intro a ha
  have h1:BitVec.ofInt 64 (-1)=BitVec.allOnes 64:=by decide
  change i64.wrap (((BitVec.ofInt 64 (a:Int)^^^BitVec.ofInt 64 (-1)).toNat:Nat):Int)=_
  rw[h1,q5k,BitVec.xor_allOnes,BitVec.toNat_not,BitVec.toNat_ofNat,Nat.mod_eq_of_lt (show a<2^64 by omega)]
  simp only[IntKind.wrap,IntKind.bits,IntKind.signed]
  simp
  omega
 refine⟨if n%2=0 then((n/2:Nat):Int)else-((n/2:Nat):Int)-1,?_,?_,?_,rfl⟩
 ·by_cases h:n%2=0
  ·rw[if_pos h];omega
  ·rw[if_neg h];omega
 ·rw[show F125.run Pka Rk6 4000000 ((n:Int),())=_ from F125_run _ _]
  have e1:Go.bits .and .u64 (n:Int) (1:Int)=((n%2:Nat):Int):=by
   have:=q4n (a:=n) (k:=1) hn (by decide)
   simpa using this
  rw[e1,show((n:Int)/(2:Int)^min (Int.toNat (1:Int)) u64.bits)=((n/2^1:Nat):Int)from shrs n 1 (by decide),q00 (z:=((n/2^1:Nat):Int)) (by omega) (by omega),q00 (z:=((n%2:Nat):Int)) (by omega) (by omega),q00 (by omega) (by omega),Nat.pow_one]
  by_cases h:n%2=0
  ·rw[if_pos h,h,show(0:Int)-((0:Nat):Int)=0 from rfl,xor_lo _ (by omega)]
  ·rw[if_neg h,show n%2=1 by omega,show(0:Int)-((1:Nat):Int)=-1 from rfl,xor_hi _ (by omega)]
 ·rw[show F141.run Pka Rk6 4000000 ((n:Int),())=_ from F141_run _ _]
  rw[Int.tmod_eq_emod_of_nonneg (by omega),Int.tdiv_eq_ediv_of_nonneg (by omega),show((n:Int)/2)=((n/2:Nat):Int) by omega,q01 (by omega) (by omega),q00 (z:=((n/2:Nat):Int)) (by omega) (by omega),q00 (z:=0-((n/2:Nat):Int)) (by omega) (by omega),q00 (by omega) (by omega)]
  by_cases h:n%2=0
  ·rw[if_pos h,dT (by omega)];rfl
  ·rw[if_neg h,dF (by omega),cF]
   congr 3
   omega
end Go.Proofs.Tryz
