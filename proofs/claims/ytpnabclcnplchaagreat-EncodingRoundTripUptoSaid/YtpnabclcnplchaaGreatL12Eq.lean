/- Law 12: equality of vectors. -/
import Derived.Test.YtpnabclcnplchaaGreatL12Dec6
set_option linter.unusedVariables false
set_option linter.unusedSimpArgs false
namespace Go.Proofs.Tryz
open Go.Eng
/-! Equality of vectors. -/
theorem qz5 {v:Vec}(hl:v.nulls.length<=1000000):∀(d i n:Nat),v.nulls.length-i=d->i<=v.nulls.length->2*d<n->F20c14 n (i:Int) v v=some ((true,()),())
 |0,i,n,hd,hi,hn=>by
  obtain⟨n,rfl⟩:∃n',n=n'+1:=⟨n-1,by omega⟩
  rw[F20c14_eq,dF (by omega),cF]
 |d+1,i,n,hd,hi,hn=>by
  obtain⟨n,rfl⟩:∃n',n=n'+2:=⟨n-2,by omega⟩
  rw[F20c14_eq,dT (by omega),cT,cT,F20c16_eq,if_pos (by omega),if_pos (by omega),if_pos (by omega),if_pos (by omega),dT rfl,nT,cF,q00 (z:=(i:Int)+1) (by omega) (by omega)]
  exact qz5 hl d (i+1) n (by omega) (by omega) (by omega)
theorem z14e {v:Vec}(hl:v.nulls.length<=1000000)(ht:v.texts.length<=400000):∀(d i n:Nat),v.texts.length-i=d->i<=v.texts.length->2*d+2*v.nulls.length+2<n->F20c9 n (i:Int) v v=some ((true,()),())
 |0,i,n,hd,hi,hn=>by
  obtain⟨n,rfl⟩:∃n',n=n'+2:=⟨n-2,by omega⟩
  rw[F20c9_eq,dF (by omega),cF,F20c13_eq]
  exact qz5 hl v.nulls.length 0 n (by omega) (by omega) (by omega)
 |d+1,i,n,hd,hi,hn=>by
  obtain⟨n,rfl⟩:∃n',n=n'+2:=⟨n-2,by omega⟩
  rw[F20c9_eq,dT (by omega),cT,cT,F20c11_eq,if_pos (by omega),if_pos (by omega),if_pos (by omega),if_pos (by omega),dT rfl,nT,cF,q00 (z:=(i:Int)+1) (by omega) (by omega)]
  exact z14e hl ht d (i+1) n (by omega) (by omega) (by omega)
theorem z14d {v:Vec}(hl:v.nulls.length<=1000000)(ht:v.texts.length<=400000)(hi':v.ints.length<=400000):∀(d i n:Nat),v.ints.length-i=d->i<=v.ints.length->2*d+2*v.texts.length+2*v.nulls.length+4<n->F20c4 n (i:Int) v v=some ((true,()),())
 |0,i,n,hd,hi,hn=>by
  obtain⟨n,rfl⟩:∃n',n=n'+2:=⟨n-2,by omega⟩
  rw[F20c4_eq,dF (by omega),cF,F20c8_eq]
  exact z14e hl ht v.texts.length 0 n (by omega) (by omega) (by omega)
 |d+1,i,n,hd,hi,hn=>by
  obtain⟨n,rfl⟩:∃n',n=n'+2:=⟨n-2,by omega⟩
  rw[F20c4_eq,dT (by omega),cT,cT,F20c6_eq,if_pos (by omega),if_pos (by omega),if_pos (by omega),if_pos (by omega),dT rfl,nT,cF,q00 (z:=(i:Int)+1) (by omega) (by omega)]
  exact z14d hl ht hi' d (i+1) n (by omega) (by omega) (by omega)
theorem z14f {v:Vec}(hl:v.nulls.length<=400000)(ht:v.texts.length<=400000)(hi:v.ints.length<=400000):F20.run Pk2e Rkl 4000000 (v,v,())=some ((true,()),()):=by
 rw[show F20.run Pk2e Rkl 4000000 (v,v,())=_ from F20_run _ _ _,dT rfl,dT rfl,dT rfl,dT rfl,nT,cF,cF,cF,cF,F20c3_eq (n:=3999999)]
 exact z14d (by omega) ht hi v.ints.length 0 3999999 (by omega) (by omega) (by omega)
end Go.Proofs.Tryz
