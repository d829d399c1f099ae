/- Law 12: EncodingDecode. -/
import Derived.Test.YtpnabclcnplchaaGreatL12Fn4
set_option linter.unusedVariables false
set_option linter.unusedSimpArgs false
namespace Go.Proofs.Tryz
open Go.Eng
/-! Equality of vectors. -/
theorem qxt {v:Vec} (hl:v.nulls.length<=1000000):∀(d i n:Nat),v.nulls.length-i=d->i<=v.nulls.length->2*d<n->F20c14 n (i:Int) v v=some ((true,()),())
 |0,i,n,hd,hi,hn=>by
  obtain⟨n,rfl⟩:∃n',n=n'+1:=⟨n-1,by omega⟩
  rw[F20c14_eq,dF (by omega),cF]
 |d+1,i,n,hd,hi,hn=>by
  obtain⟨n,rfl⟩:∃n',n=n'+2:=⟨n-2,by omega⟩
  rw[F20c14_eq,dT (by omega),cT,cT,F20c16_eq,if_pos (by omega),if_pos (by omega),if_pos (by omega),if_pos (by omega),dT rfl,nT,cF,q00 (z:=(i:Int)+1) (by omega) (by omega)]
  exact qxt hl d (i+1) n (by omega) (by omega) (by omega)
theorem z13k {v:Vec} (hl:v.nulls.length<=1000000) (ht:v.texts.length<=400000):∀(d i n:Nat),v.texts.length-i=d->i<=v.texts.length->2*d+2*v.nulls.length+2<n->F20c9 n (i:Int) v v=some ((true,()),())
 |0,i,n,hd,hi,hn=>by
  obtain⟨n,rfl⟩:∃n',n=n'+2:=⟨n-2,by omega⟩
  rw[F20c9_eq,dF (by omega),cF,F20c13_eq]
  exact qxt hl v.nulls.length 0 n (by omega) (by omega) (by omega)
 |d+1,i,n,hd,hi,hn=>by
  obtain⟨n,rfl⟩:∃n',n=n'+2:=⟨n-2,by omega⟩
  rw[F20c9_eq,dT (by omega),cT,cT,F20c11_eq,if_pos (by omega),if_pos (by omega),if_pos (by omega),if_pos (by omega),dT rfl,nT,cF,q00 (z:=(i:Int)+1) (by omega) (by omega)]
  exact z13k hl ht d (i+1) n (by omega) (by omega) (by omega)
theorem z13j {v:Vec} (hl:v.nulls.length<=1000000) (ht:v.texts.length<=400000) (hi':v.ints.length<=400000):∀(d i n:Nat),v.ints.length-i=d->i<=v.ints.length->2*d+2*v.texts.length+2*v.nulls.length+4<n->F20c4 n (i:Int) v v=some ((true,()),())
 |0,i,n,hd,hi,hn=>by
  obtain⟨n,rfl⟩:∃n',n=n'+2:=⟨n-2,by omega⟩
  rw[F20c4_eq,dF (by omega),cF,F20c8_eq]
  exact z13k hl ht v.texts.length 0 n (by omega) (by omega) (by omega)
 |d+1,i,n,hd,hi,hn=>by
  obtain⟨n,rfl⟩:∃n',n=n'+2:=⟨n-2,by omega⟩
  rw[F20c4_eq,dT (by omega),cT,cT,F20c6_eq,if_pos (by omega),if_pos (by omega),if_pos (by omega),if_pos (by omega),dT rfl,nT,cF,q00 (z:=(i:Int)+1) (by omega) (by omega)]
  exact z13j hl ht hi' d (i+1) n (by omega) (by omega) (by omega)
theorem z13l {v:Vec} (hl:v.nulls.length<=400000) (ht:v.texts.length<=400000) (hi:v.ints.length<=400000):F20.run Pk2e Rkp 4000000 (v,v,())=some ((true,()),()):=by
 rw[show F20.run Pk2e Rkp 4000000 (v,v,())=_ from F20_run _ _ _,dT rfl,dT rfl,dT rfl,dT rfl,nT,cF,cF,cF,cF,F20c3_eq (n:=3999999)]
 exact z13j (by omega) ht hi v.ints.length 0 3999999 (by omega) (by omega) (by omega)
theorem qux {t n:Int} {v:Vec} {q e:Nat} (h:qvf t n v q e) (hn:n<=10000\/65536<n):v.nulls.length<=400000/\v.texts.length<=400000/\v.ints.length<=400000:=by
 by_cases he:e=0
 ·obtain⟨h1,h2,h3,h4,h5,h6⟩:=h.1 he
  have:=(q2u h3).2.2.1
  have:=h4.ints
  have:=h4.texts
  omega
 ·rw[(h.2 he).1]
  exact⟨by simp[q2r],by simp[q2r],by simp[q2r]⟩
theorem z13m {b:List Int} (hb:okB b) (t n:Int):F4.run Pk0 [.v .bool] 4000000 (b,t,n,())=some ((true,()),()):=by
 have main:b.length<=1000->(n<=300\/65536<n)->F4c3 4000000 b t n=some ((true,()),()):=by
  intro h1 h2
  obtain⟨v,q,e,r1,r2,r3,_⟩:=quv hb (by omega) (t:=t) (n:=n) (fun _=>by omega) (by omega)
  obtain⟨l1,l2,l3⟩:=qux r3 (by omega)
  rw[F4c3_eq (n:=3999999),r1,oB,r2,oB]
  dsimp only
  rw[z13l l1 l2 l3,oB]
  dsimp only
  rw[cT,dT rfl,dT rfl,cT,cT]
 rw[show F4.run Pk0 [.v .bool] 4000000 (b,t,n,())=_ from F4_run _ _ _ _]
 by_cases h1:1000<b.length
 ·rw[dT (by omega),cT]
 rw[dF (by omega),cF]
 by_cases h2:300<n
 ·rw[dT h2,cT]
  by_cases h3:n<=65536
  ·rw[dT h3,cT]
  ·rw[dF h3,cF]
   exact main (by omega) (by omega)
 ·rw[dF h2,cF]
  exact main (by omega) (by omega)
theorem law4 (x:HIn NN.ρ [.v (.sl (.int .u8)),.v (.int .i64),.v (.int .i64)]) (hm:∀k,qab k [.v (.sl (.int .u8)),.v (.int .i64),.v (.int .i64)] x<=1048576) (ho:∀k,okI k [.v (.sl (.int .u8)),.v (.int .i64),.v (.int .i64)] x):
  ∃o,F4.run Pk0 [.v .bool] 4000000 x=some ((true,()),o):=by
 obtain⟨b,t,n,u⟩:=x
 obtain⟨o1,_⟩:=ho 0
 have hb:∀x∈b,0<=x/\x<256:=fun x hx=>by
  have h3:(Lit.int .u8 x).wf=true:=o1 x hx
  simp[Lit.wf,IntKind.min,IntKind.max,IntKind.bits,IntKind.signed]at h3
  exact⟨h3.1,Int.lt_of_le_of_lt h3.2 (by decide)⟩
 exact⟨(),z13m (qtj hb) t n⟩
end Go.Proofs.Tryz
