/- Law 12: Filter, of the program and of the reference. -/
import Derived.Test.YtpnabclcnplchaaGreatL12Dec6
import Derived.Test.YtpnabclcnplchaaGreatL12FnE
set_option linter.unusedVariables false
set_option linter.unusedSimpArgs false
namespace Go.Proofs.Tryz
open Go.Eng
/-! Values compared. -/
def sgn (a b:Bool):Int:=bif a then-1 else bif b then 1 else 0
def cmpV (a c:Val):Int:=if a.kind=3 then qvu a.text c.text else sgn (decide (a.int<c.int)) (decide (c.int<a.int))
def opB (op z:Int):Bool:=if op=1 then decide (z=0)else if op=2 then !decide (z=0)else if op=3 then decide (z<0)else if op=4 then decide (z<=0)else if op=5 then decide (0<z)else decide (0<=z)
def tst (op:Int)(a c:Val):Bool:=decide (a.kind=c.kind)&&(decide (1<=op)&&(decide (op<=6)&&opB op (cmpV a c)))
abbrev tsA:List PK:=[PK.v (Ty.int .i64),PK.v (Ty.nm 2),PK.v (Ty.nm 2)]
abbrev tsR:List RK:=[RK.v (Ty.nm 2)]
def isTr (r:Val):Bool:=decide (r.kind=(1:Int))&&(decide (r.int=(1:Int))&&(decide (r.text=[])&&true))
def bVal (x:Bool):Val:=bif x then{kind:=(1:Int),int:=(1:Int),text:=[]}else{kind:=(1:Int),int:=(0:Int),text:=[]}
theorem z16p (x:Bool):isTr (bVal x)=x:=by cases x<;>rfl
theorem z10m (x:Bool):F86.run Pk39 tsR 4000000 (x,())=some ((bVal x,()),()):=by
 rw[show F86.run Pk39 tsR 4000000 (x,())=_ from F86_run _ _]
 cases x<;>rfl
theorem qxn (x:Bool):F88.run Pk39 tsR 4000000 (x,())=some ((bVal x,()),()):=by
 rw[show F88.run Pk39 tsR 4000000 (x,())=_ from F88_run _ _]
 cases x<;>rfl
theorem z13c (a b:Bool):F145.run qw2 Rk5 4000000 (a,b,())=some ((sgn a b,()),()):=by
 rw[show F145.run qw2 Rk5 4000000 (a,b,())=_ from F145_run _ _ _]
 cases a<;>cases b<;>rfl
theorem qp1 (a b:Bool):F148.run qw2 Rk5 4000000 (a,b,())=some ((sgn a b,()),()):=by
 rw[show F148.run qw2 Rk5 4000000 (a,b,())=_ from F148_run _ _ _]
 cases a<;>cases b<;>rfl
abbrev vvA:List PK:=[PK.v (Ty.nm 2),PK.v (Ty.nm 2)]
theorem z10p {a c:Val}(ha:a.kind=1\/a.kind=2\/a.kind=3)(hk:a.kind=c.kind):F85.run vvA [RK.v (Ty.int .i64)] 4000000 (a,c,())=some ((cmpV a c,()),()):=by
 rw[show F85.run vvA [RK.v (Ty.int .i64)] 4000000 (a,c,())=_ from F85_run _ _ _,dT hk,nT,cF]
 unfold cmpV
 by_cases h3:a.kind=3
 ·rw[dT h3,cT,if_pos h3,show F146.run _ _ 4000000 (a.text,c.text,())=_ from F146_run _ _ _,oB]
 ·rw[dF h3,cF,if_neg h3]
  have h8:F85c8 4000000 a c=some ((sgn (decide (a.int<c.int)) (decide (c.int<a.int)),()),()):=by
   rw[F85c8_eq (n:=3999999),z13c,oB]
  by_cases h1:a.kind=1
  ·rw[dT h1,cT,h8]
  ·rw[dF h1,cF,dT (show a.kind=2 by omega),cT,h8]
theorem qxo {a c:Val}(hk:a.kind=c.kind):F90.run vvA [RK.v (Ty.int .i64)] 4000000 (a,c,())=some ((cmpV a c,()),()):=by
 rw[show F90.run vvA [RK.v (Ty.int .i64)] 4000000 (a,c,())=_ from F90_run _ _ _,dT hk,nT,cF,qp1,qp1,oB,oB]
 unfold cmpV
 by_cases h3:a.kind=3
 ·rw[dT h3,cT,if_pos h3]
  rfl
 ·rw[dF h3,cF,if_neg h3]
theorem z16t {op z:Int}(h1:1<=op)(h6:op<=6):F89.run Pk9 Rkl 4000000 (op,z,())=some ((opB op z,()),()):=by
 rw[show F89.run Pk9 Rkl 4000000 (op,z,())=_ from F89_run _ _ _]
 unfold opB
 by_cases a1:op=1
 ·rw[dT a1,cT,if_pos a1]
 rw[dF a1,cF,if_neg a1]
 by_cases a2:op=2
 ·rw[dT a2,cT,if_pos a2]
 rw[dF a2,cF,if_neg a2]
 by_cases a3:op=3
 ·rw[dT a3,cT,if_pos a3]
 rw[dF a3,cF,if_neg a3]
 by_cases a4:op=4
 ·rw[dT a4,cT,if_pos a4]
 rw[dF a4,cF,if_neg a4]
 by_cases a5:op=5
 ·rw[dT a5,cT,if_pos a5]
 rw[dF a5,cF,if_neg a5,dT (show op=6 by omega),cT]
theorem ql5 {op:Int}{a c:Val}(ha:a.kind=1\/a.kind=2\/a.kind=3):∃r:Val,F44.run tsA tsR 4000000 (op,a,c,())=some ((r,()),())/\F46.run tsA tsR 4000000 (op,a,c,())=some ((r,()),())/\isTr r=tst op a c:=by
 rw[show F44.run tsA tsR 4000000 (op,a,c,())=_ from F44_run _ _ _ _,show F46.run tsA tsR 4000000 (op,a,c,())=_ from F46_run _ _ _ _,dF (show¬a.kind=0 by omega),cF,cF]
 unfold tst
 rcases Decidable.em (¬a.kind=c.kind)with hk|hk
 ·rw[dF hk,nF,cT,cT,Bool.false_and]
  exact⟨qli,rfl,rfl,rfl⟩
 have hk:=Decidable.not_not.1 hk
 rw[dT hk,nT,cF,cF,Bool.true_and]
 by_cases h1:op<1
 ·rw[dT h1,cT,cT,dF (show¬1<=op by omega),Bool.false_and]
  exact⟨qli,rfl,rfl,rfl⟩
 rw[dF h1,cF,cF,dT (show 1<=op by omega),Bool.true_and]
 by_cases h6:6<op
 ·rw[dT h6,cT,cT,dF (show¬op<=6 by omega),Bool.false_and]
  exact⟨qli,rfl,rfl,rfl⟩
 rw[dF h6,cF,cF,dT (show op<=6 by omega),Bool.true_and]
 refine⟨bVal (opB op (cmpV a c)),?_,?_,z16p _⟩
 ·have h18:∀x,F44c18 3999999 x qli=some ((bVal x,()),()):=fun x=>by rw[F44c18_eq (n:=3999998),z10m,oB]
  rw[F44c3_eq (n:=3999999),z10p ha hk,oB]
  dsimp only
  generalize cmpV a c=z
  unfold opB
  by_cases a1:op=1
  ·rw[dT a1,cT,if_pos a1,h18]
  rw[dF a1,cF,if_neg a1]
  by_cases a2:op=2
  ·rw[dT a2,cT,if_pos a2,h18]
  rw[dF a2,cF,if_neg a2]
  by_cases a3:op=3
  ·rw[dT a3,cT,if_pos a3,h18]
  rw[dF a3,cF,if_neg a3]
  by_cases a4:op=4
  ·rw[dT a4,cT,if_pos a4,h18]
  rw[dF a4,cF,if_neg a4]
  by_cases a5:op=5
  ·rw[dT a5,cT,if_pos a5,h18]
  rw[dF a5,cF,if_neg a5,dT (show op=6 by omega),cT,h18]
 ·rw[F46c3_eq (n:=3999999),qxo hk,oB]
  dsimp only
  rw[z16t (by omega) (by omega),oB]
  dsimp only
  rw[qxn,oB]
/-! Values of a vector. -/
def vAt (v:Vec)(i:Nat):Val:=if v.f_Type=3 then{kind:=(3:Int),int:=(0:Int),text:=v.texts.getD i []}else{kind:=v.f_Type,int:=v.ints.getD i (0:Int),text:=[]}
theorem qpk (v:Vec)(i:Nat):(vAt v i).kind=v.f_Type:=by
 unfold vAt
 by_cases h:v.f_Type=3
 ·rw[if_pos h,h]
 ·rw[if_neg h]
theorem qrp {v:Vec}{i:Nat}(hL:q4m v=true)(hi:i<v.nulls.length):F43.run Pkp tsR 4000000 (v,(i:Int),())=some ((vAt v i,()),())/\F30.run Pkp tsR 4000000 (v,(i:Int),())=some ((vAt v i,()),()):=by
 obtain⟨l1,l2⟩:=q3v hL
 rw[show F43.run Pkp tsR 4000000 (v,(i:Int),())=_ from F43_run _ _ _,show F30.run Pkp tsR 4000000 (v,(i:Int),())=_ from F30_run _ _ _]
 unfold vAt
 by_cases h:v.f_Type=3
 ·have:=(l1 h).2
  rw[dT h,cT,if_pos (by omega),if_pos (by omega),if_pos h,tN]
  exact⟨rfl,rfl⟩
 ·have:=(l2 h).2
  rw[dF h,cF,if_pos (by omega),if_pos (by omega),if_neg h,tN]
  exact⟨rfl,rfl⟩
def q4s (p:Pred)(a:Val):Bool:=if p.op=21 then true else if p.op=20 then false else tst p.op a p.value
theorem qx3 {p:Pred}{a:Val}(ha:a.kind=1\/a.kind=2\/a.kind=3):F29.run Pk33 Rkl 4000000 (p,a,())=some ((q4s p a,()),()):=by
 rw[show F29.run Pk33 Rkl 4000000 (p,a,())=_ from F29_run _ _ _]
 unfold q4s
 by_cases h21:p.op=21
 ·rw[dT h21,cT,if_pos h21]
 rw[dF h21,cF,if_neg h21]
 by_cases h20:p.op=20
 ·rw[dT h20,cT,if_pos h20]
 rw[dF h20,cF,if_neg h20,F29c3_eq (n:=3999999)]
 obtain⟨r,_,r2,r3⟩:=ql5 (op:=p.op) (a:=a) (c:=p.value) ha
 rw[r2,oB,<-r3]
 rfl
end Go.Proofs.Tryz
