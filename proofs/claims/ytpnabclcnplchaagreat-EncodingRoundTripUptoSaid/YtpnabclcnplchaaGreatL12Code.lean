/- Law 12, after law 10: numbers of seven bits a byte, widths, packed numbers, runs: what the program and the reference compute. -/
import Derived.Test.YtpnabclcnplchaaGreatL12Build
import Derived.Test.YtpnabclcnplchaaGreatEngine4
set_option linter.unusedVariables false
set_option linter.unusedSimpArgs false
namespace Go.Proofs.Tryz
open Go.Eng
open IntKind (i64 u64 u8)
/-! Widths. -/
def len8:List Int:=[0,1,2,2,3,3,3,3,4,4,4,4,4,4,4,4,5,5,5,5,5,5,5,5,5,5,5,5,5,5,5,5,6,6,6,6,6,6,6,6,6,6,6,6,6,6,6,6,6,6,6,6,6,6,6,6,6,6,6,6,6,6,6,6,7,7,7,7,7,7,7,7,7,7,7,7,7,7,7,7,7,7,7,7,7,7,7,7,7,7,7,7,7,7,7,7,7,7,7,7,7,7,7,7,7,7,7,7,7,7,7,7,7,7,7,7,7,7,7,7,7,7,7,7,7,7,7,7,8,8,8,8,8,8,8,8,8,8,8,8,8,8,8,8,8,8,8,8,8,8,8,8,8,8,8,8,8,8,8,8,8,8,8,8,8,8,8,8,8,8,8,8,8,8,8,8,8,8,8,8,8,8,8,8,8,8,8,8,8,8,8,8,8,8,8,8,8,8,8,8,8,8,8,8,8,8,8,8,8,8,8,8,8,8,8,8,8,8,8,8,8,8,8,8,8,8,8,8,8,8,8,8,8,8,8,8,8,8,8,8,8,8,8,8,8,8,8,8,8,8,8,8,8,8,8,8]
def bl:Nat->Nat->Nat
 |0,_=>0
 |f+1,n=>if n=0 then 0 else bl f (n/2)+1
theorem z145:∀(f n:Nat),n<2^f->bl f n=q18 n
 |0,n,h=>by
  have:n=0:=by simpa using h
  rw[this,q18,bl]
 |f+1,n,h=>by
  rw[bl]
  by_cases hn:n=0
  ·rw[if_pos hn,hn,q18]
  ·rw[if_neg hn,z145 f (n/2) (by rw[Nat.pow_succ]at h;omega),<-q55 (by omega)]
theorem qxq:∀x:Fin 256,len8.getD x.val 0=((bl 8 x.val:Nat):Int):=by decide+kernel
theorem z122 {x:Nat}(h:x<256):len8.getD x 0=((q18 x:Nat):Int):=by
 rw[qxq ⟨x,h⟩,z145 8 x h]
theorem q34 (k:Nat):(2:Int)^k=((2^k:Nat):Int):=by simp
theorem q94 (v k:Nat):(v:Int)/(2:Int)^k=((v/2^k:Nat):Int):=by rw[q34,Int.natCast_ediv]
theorem qkv {n x w:Nat}(hx:x<256)(hw:w<=100):F173c10 (n+1) x w=some ((((w+q18 x:Nat):Int),()),()):=by
 have h:=F173c10_eq n x w
 rw[qck,Nat.mod_eq_of_lt hx]at h
 rw[h]
 have hl:=z122 hx
 have hb:=q5c 8 x hx
 rw[if_pos (by omega),if_pos (by omega),tN]
 show some ((i64.wrap ((w:Int)+i64.wrap (len8.getD x 0)),()),())=_
 rw[hl,q00 (z:=((q18 x:Nat):Int)) (by omega) (by omega),q00 (by omega) (by omega)]
 rfl
theorem shrs (v k:Nat)(hk:k<=64):(v:Int)/(2:Int)^min (Int.toNat (k:Int)) u64.bits=((v/2^k:Nat):Int):=by
 rw[show u64.bits=64 from rfl,tN,Nat.min_eq_left hk,q94]
theorem qp6 {n x w:Nat}(hx:x<65536)(hw:w<=90):F173c7 (n+2) x w=some ((((w+q18 x:Nat):Int),()),()):=by
 rw[F173c7_eq]
 by_cases h:256<=x
 ·rw[dT (by omega),cT,show((x:Int)/(2:Int)^min (Int.toNat (8:Int)) u64.bits)=((x/2^8:Nat):Int)from shrs x 8 (by decide),q00 (by omega) (by omega),show((w:Int)+8)=((w+8:Nat):Int) by omega,qkv (by omega) (by omega),q4o 8 x h]
  congr 4
  omega
 ·rw[dF (by omega),cF,qkv (by omega) (by omega)]
theorem qp5 {n x w:Nat}(hx:x<4294967296)(hw:w<=70):F173c4 (n+3) x w=some ((((w+q18 x:Nat):Int),()),()):=by
 rw[F173c4_eq]
 by_cases h:65536<=x
 ·rw[dT (by omega),cT,show((x:Int)/(2:Int)^min (Int.toNat (16:Int)) u64.bits)=((x/2^16:Nat):Int)from shrs x 16 (by decide),q00 (by omega) (by omega),show((w:Int)+16)=((w+16:Nat):Int) by omega,qp6 (by omega) (by omega),q4o 16 x h]
  congr 4
  omega
 ·rw[dF (by omega),cF,qp6 (by omega) (by omega)]
theorem qud {x:Nat}(hx:x<18446744073709551616):F173.run Pka Rk6 4000000 ((x:Int),())=some ((((q18 x:Nat):Int),()),()):=by
 rw[show F173.run Pka Rk6 4000000 ((x:Int),())=_ from F173_run _ _]
 by_cases h:4294967296<=x
 ·rw[dT (by omega),cT,show((x:Int)/(2:Int)^min (Int.toNat (32:Int)) u64.bits)=((x/2^32:Nat):Int)from shrs x 32 (by decide)]
  have:=qp5 (n:=3999997) (x:=x/2^32) (w:=32) (by omega) (by omega)
  rw[q4o 32 x h,Nat.add_comm]
  exact this
 ·rw[dF (by omega),cF]
  have:=qp5 (n:=3999997) (x:=x) (w:=0) (by omega) (by omega)
  rw[Nat.zero_add]at this
  exact this
theorem qcp {x:Nat}(hx:x<18446744073709551616):F155.run Pka Rk6 4000000 ((x:Int),())=some ((((q18 x:Nat):Int),()),()):=by
 rw[show F155.run Pka Rk6 4000000 ((x:Int),())=_ from F155_run _ _,qud hx]
 rfl
theorem qfr:∀(n x w:Nat),x<18446744073709551616->q18 x<n->w+q18 x<=1000->F163c2 n x w=some ((((w+q18 x:Nat):Int),()),())
 |0,x,w,_,h,_=>by omega
 | n+1,x,w,hx,h,hw=>by
  rw[F163c2_eq]
  rcases Nat.eq_zero_or_pos x with rfl|hp
  ·rw[dF (by omega),q18];rfl
  ·have hb:=q55 hp
   rw[dT (by omega),cT,Int.tdiv_eq_ediv_of_nonneg (by omega),show((x:Int)/2)=((x/2:Nat):Int) by omega,q01 (by omega) (by omega),q00 (by omega) (by omega),show((w:Int)+1)=((w+1:Nat):Int) by omega,qfr n (x/2) (w+1) (by omega) (by omega) (by omega),hb]
   congr 4
   omega
theorem ql9 {x:Nat}(hx:x<18446744073709551616):F163.run Pka Rk6 4000000 ((x:Int),())=some ((((q18 x:Nat):Int),()),()):=by
 rw[show F163.run Pka Rk6 4000000 ((x:Int),())=_ from F163_run _ _]
 have hb:=q5c 64 x hx
 have:=qfr 4000000 x 0 hx (by omega) (by omega)
 rw[Nat.zero_add]at this
 exact this
def cw (n:Nat):Nat:=if n=0 then 0 else q18 (n-1)
theorem qg9 {x:Nat}(hx:x<4000000):F102.run Pky Rk6 4000000 ((x:Int),())=some ((((cw x:Nat):Int),()),()):=by
 rw[show F102.run Pky Rk6 4000000 ((x:Int),())=_ from F102_run _ _,cw]
 by_cases h:x=0
 ·rw[dT (by omega),if_pos h];rfl
 ·rw[dF (by omega),if_neg h,cF,q00 (by omega) (by omega),show((x:Int)-1)=((x-1:Nat):Int) by omega,q01 (by omega) (by omega),qcp (by omega)]
  rfl
theorem qch {x:Nat}(hx:x<4000000):F116.run Pky Rk6 4000000 ((x:Int),())=some ((((cw x:Nat):Int),()),()):=by
 rw[show F116.run Pky Rk6 4000000 ((x:Int),())=_ from F116_run _ _,cw]
 by_cases h:x=0
 ·rw[dT (by omega),if_pos h];rfl
 ·rw[dF (by omega),if_neg h,cF,q00 (by omega) (by omega),show((x:Int)-1)=((x-1:Nat):Int) by omega,q01 (by omega) (by omega),ql9 (by omega)]
  rfl
theorem qsr {x:Nat}(hx:x<4000000):cw x<=22:=by
 unfold cw
 by_cases h:x=0
 ·rw[if_pos h];omega
 ·rw[if_neg h];exact q5c 22 _ (by omega)
/-! Numbers of seven bits a byte. -/
theorem z18t {a:Nat}(h:a<256):a|||128=128+a%128:=by
 by_cases hs:a<128
 ·have:=qay (a:=a) (y:=1) (r:=7) hs
  simp only[Nat.one_mul,show(2:Nat)^7=128 from rfl]at this
  rw[this]
  omega
 ·have h1:=qay (a:=a-128) (y:=1) (r:=7) (by omega)
  simp only[Nat.one_mul,show(2:Nat)^7=128 from rfl]at h1
  have h2:a=(a-128)|||128:=by rw[h1];omega
  rw[h2,Nat.or_assoc,Nat.or_self,h1]
  omega
theorem qw8:∀(n x:Nat) (acc:List Int),x<18446744073709551616->(q0f x).length<n->acc.length+(q0f x).length<=4294967296->F91c2 n x acc=some ((acc++q0f x,()),())
 |0,x,acc,_,h,_=>by omega
 | n+1,x,acc,hx,h,hl=>by
  rw[F91c2_eq]
  by_cases hs:x<128
  ·rw[q2f hs]at hl ⊢
   simp only[List.length_singleton]at hl
   rw[dF (by omega),cF,if_pos (by simp only[lim];omega),q23 (by omega) (by omega)]
  ·rw[qbi (by omega)]at hl h ⊢
   simp only[lC]at hl h
   rw[dT (by omega),cT,if_pos (by simp only[lim];omega),show((x:Int)/(2:Int)^min (Int.toNat (7:Int)) u64.bits)=((x/2^7:Nat):Int)from shrs x 7 (by decide),qck,
    show Go.bits BinOp.or u8 ((x%256:Nat):Int) (128:Int)=((x%256|||128:Nat):Int)from z12a (by omega) (by decide),z18t (by omega),show x%256%128=x%128 by omega,
    qw8 n (x/2^7) _ (by omega) (by rw[show x/2^7=x/128 from rfl];omega) (by rw[show x/2^7=x/128 from rfl,lA,List.length_singleton];omega),aA]
   rfl
theorem q03 {x:Nat}(hx:x<18446744073709551616):(q0f x).length<=10:=qqd 9 x (by omega)
theorem q2m {x:Nat}(hx:x<18446744073709551616):F91.run Pka Rk1 4000000 ((x:Int),())=some ((q0f x,()),()):=by
 have:=q03 hx
 rw[show F91.run Pka Rk1 4000000 ((x:Int),())=_ from(F91_run _ _).trans (F91c1_eq 3999999 _),qw8 3999999 x [] hx (by omega) (by simp only[List.length_nil];omega),List.nil_append]
theorem qpv:∀(n x:Nat) (acc:List Int),x<18446744073709551616->(q0f x).length<n->acc.length+(q0f x).length<=4294967296->F108c2 n x acc=some ((acc++q0f x,()),())
 |0,x,acc,_,h,_=>by omega
 | n+1,x,acc,hx,h,hl=>by
  rw[F108c2_eq]
  by_cases hs:x<128
  ·rw[q2f hs]at hl ⊢
   simp only[List.length_singleton]at hl
   rw[dF (by omega),cF,if_pos (by simp only[lim];omega),q23 (by omega) (by omega)]
  ·rw[qbi (by omega)]at hl h ⊢
   simp only[lC]at hl h
   rw[dT (by omega),cT,if_pos (by simp only[lim];omega),Int.tdiv_eq_ediv_of_nonneg (by omega),Int.tmod_eq_emod_of_nonneg (by omega),show((x:Int)/128)=((x/128:Nat):Int) by omega,show((128:Int)+(x:Int)%128)=((128+x%128:Nat):Int) by omega,
    q01 (by omega) (by omega),q01 (by omega) (by omega),q23 (by omega) (by omega),qpv n (x/128) _ (by omega) (by omega) (by rw[lA,List.length_singleton];omega),aA]
   rfl
theorem q1c {x:Nat}(hx:x<18446744073709551616):F108.run Pka Rk1 4000000 ((x:Int),())=some ((q0f x,()),()):=by
 have:=q03 hx
 rw[show F108.run Pka Rk1 4000000 ((x:Int),())=_ from(F108_run _ _).trans (F108c1_eq 3999999 _),qpv 3999999 x [] hx (by omega) (by simp only[List.length_nil];omega),List.nil_append]
/-! Parts put together. -/
theorem qjy {L:List (List Int)}{i:Nat}(hi:i<L.length)(hL:L.length<=3000000):∀(d k n:Nat) (acc:List Int),(L.getD i []).length-k=d->k<=(L.getD i []).length->d<n->acc.length+d<=4294967296->(L.getD i []).length<=200000000->
  ∃m,n=m+d+1/\F110c6 n L i k acc=F110c3 m L ((i+1:Nat):Int) (acc++(L.getD i []).drop k)
 |0,k,n,acc,hd,hk,hn,ha,h4=>by
  obtain⟨n,rfl⟩:∃n',n=n'+1:=⟨n-1,by omega⟩
  refine⟨n,rfl,?_⟩
  rw[F110c6_eq]
  simp only[if_pos (show(0:Int)<=(i:Int) by omega),if_pos (show(i:Int)<(L.length:Int) by omega),tN]
  rw[dF (by omega),cF,q00 (by omega) (by omega),List.drop_eq_nil_of_le (by omega),List.append_nil]
  rfl
 |d+1,k,n,acc,hd,hk,hn,ha,h4=>by
  obtain⟨n,rfl⟩:∃n',n=n'+1:=⟨n-1,by omega⟩
  have hkl:k<(L.getD i []).length:=by omega
  obtain⟨m,h1,h2⟩:=qjy hi hL d (k+1) n (acc++[(L.getD i []).getD k 0]) (by omega) (by omega) (by omega) (by rw[lA,List.length_singleton];omega) h4
  refine⟨m,by omega,?_⟩
  rw[F110c6_eq]
  simp only[if_pos (show(0:Int)<=(i:Int) by omega),if_pos (show(i:Int)<(L.length:Int) by omega),tN]
  rw[dT (by omega),cT]
  simp only[if_pos (show(0:Int)<=(k:Int) by omega)]
  rw[if_pos (by omega),if_pos (by simp only[lim,List.length_singleton];omega),q00 (by omega) (by omega),show((k:Int)+1)=((k+1:Nat):Int) by omega,h2,aA]
  congr 2
  rw[List.drop_eq_getElem_cons hkl,gQ (l:=L.getD i []) (i:=k),gE hkl]
  rfl
theorem q8d {L:List (List Int)}{i:Nat}(hi:i<L.length):(L.take (i+1)).flatten=(L.take i).flatten++L.getD i []:=by
 rw[List.take_succ_eq_append_getElem hi,List.flatten_append,gQ,gE hi]
 simp
theorem qan {L:List (List Int)}{i:Nat}(hi:i<L.length):L.flatten.length=(L.take i).flatten.length+(L.getD i []).length+(L.drop (i+1)).flatten.length:=by
 have h:=List.take_append_drop (i+1) L
 have h2:L.flatten=(L.take (i+1)).flatten++(L.drop (i+1)).flatten:=by rw[<-List.flatten_append,h]
 rw[h2,q8d hi,lA,lA]
theorem qjx {L:List (List Int)}(hL:L.length<=1000000)(hF:L.flatten.length<=190000000):∀(d i n:Nat),L.length-i=d->i<=L.length->(L.drop i).flatten.length+2*d<n->F110c3 n L i (L.take i).flatten=some ((L.flatten,()),())
 |0,i,n,hd,hi,hn=>by
  obtain⟨n,rfl⟩:∃n',n=n'+1:=⟨n-1,by omega⟩
  rw[F110c3_eq,dF (by omega),cF,tL (by omega)]
 | d+1,i,n,hd,hi,hn=>by
  obtain⟨n,rfl⟩:∃n',n=n'+1:=⟨n-1,by omega⟩
  have hlt:i<L.length:=by omega
  have hs:=qan hlt
  have hdr:(L.drop i).flatten.length=(L.getD i []).length+(L.drop (i+1)).flatten.length:=by
   rw[List.drop_eq_getElem_cons hlt,List.flatten_cons,lA,gQ,gE hlt]
   rfl
  obtain⟨m,h1,h2⟩:=qjy hlt (by omega) (L.getD i []).length 0 n (L.take i).flatten (by omega) (by omega) (by omega) (by omega) (by omega)
  rw[F110c3_eq,dT (by omega),cT]
  rw[show F110c6 n L i 0 (L.take i).flatten=_ from h2,List.drop_zero,<-q8d hlt]
  exact qjx hL hF d (i+1) m (by omega) (by omega) (by omega)
theorem qbv {L:List (List Int)}(hL:L.length<=900000)(hF:L.flatten.length<=190000000):F110.run qs0 Rk1 400000000 (L,())=some ((L.flatten,()),()):=by
 rw[show F110.run qs0 Rk1 400000000 (L,())=_ from(F110_run _ _).trans (F110c1_eq 399999999 _)]
 exact qjx (by omega) hF L.length 0 399999999 (by omega) (by omega) (by rw[List.drop_zero];omega)
theorem qyb {s:List Int}(hs:s.length<=1000000):F115.run [PK.v Ty.str] Rk1 4000000 (s,())=some ((q0f s.length++s,()),()):=by
 have hv:=q03 (x:=s.length) (by omega)
 rw[show F115.run [PK.v Ty.str] Rk1 4000000 (s,())=_ from(F115_run _ _).trans (F115c1_eq 3999999 _),q01 (by omega) (by omega),q1c (by omega),oB,if_pos (show s.length<=lim by simp only[lim];omega),qbv (L:=[q0f s.length,s]) (by simp) (by simp;omega)]
 simp
end Go.Proofs.Tryz
