/- Law 12: the vectors that can be encoded, and which encodings apply. -/
import Derived.Test.YtpnabclcnplchaaGreatL12Plain
set_option linter.unusedVariables false
set_option linter.unusedSimpArgs false
namespace Go.Proofs.Tryz
open Go.Eng
open IntKind (i64 u64 u8)
def qwj (v:Vec)(i:Nat):Bool:=!(v.nulls.getD i false)&&((!decide (v.f_Type=1)||(decide (v.ints.getD i 0=0)||decide (v.ints.getD i 0=1)))&&(!decide (v.f_Type=3)||decide ((v.texts.getD i []).length<=4096)))
def q4x (v:Vec):Nat->Nat->Bool
 |0,_=>true
 |d+1,i=>qwj v i&&q4x v d (i+1)
def q2i (v:Vec):Bool:=if v.f_Type=3 then decide (v.ints.length=0)&&decide (v.texts.length=v.nulls.length)else decide (v.texts.length=0)&&decide (v.ints.length=v.nulls.length)
def okV (v:Vec):Bool:=decide (1<=v.f_Type)&&(decide (v.f_Type<=3)&&(decide (v.nulls.length<=65536)&&(q2i v&&q4x v v.nulls.length 0)))
theorem qsc {z:Int}(h1:-9223372036854775808<=z)(h2:z<9223372036854775808):(Go.bits BinOp.andNot i64 z 1=0)<->(z=0\/z=1):=by
 have hz:BitVec.toInt (BitVec.ofInt 64 z)=z:=by
  rw[BitVec.toInt_ofInt]
  exact Int.bmod_eq_of_le_mul_two (by omega) (by omega)
 constructor
 ·intro h
  generalize ha:BitVec.ofInt 64 z=a at hz
  have h:i64.wrap ((a&&& ~~~(1#64)).toNat:Int)=0:=by rw[<-ha];exact h
  have hlt:=(a&&& ~~~(1#64)).isLt
  have hb:(a&&& ~~~(1#64)).toNat=0:=by
   rw[IntKind.wrap_i64]at h
   omega
  have ha2:a.toNat/2=0:=Nat.eq_of_testBit_eq fun i=>by
   have h1:=congrArg (fun n=>n.testBit (i+1)) hb
   simp only[BitVec.testBit_toNat,Nat.zero_testBit,BitVec.getLsbD_and,BitVec.getLsbD_not,BitVec.getLsbD_one]at h1
   rw[<-Nat.testBit_succ,BitVec.testBit_toNat,Nat.zero_testBit]
   by_cases hi:i+1<64
   ·simpa[hi]using h1
   ·exact BitVec.getLsbD_of_ge _ _ (by omega)
  rw[BitVec.toInt_eq_toNat_cond]at hz
  split at hz<;>omega
 ·rintro(rfl|rfl)<;>decide
theorem q4a {v:Vec}(h:q2i v=true):(v.f_Type=3->v.ints.length=0/\v.texts.length=v.nulls.length)/\(v.f_Type≠3->v.texts.length=0/\v.ints.length=v.nulls.length):=by
 unfold q2i at h
 by_cases h3:v.f_Type=3
 ·rw[if_pos h3]at h
  simp only[Bool.and_eq_true,decide_eq_true_eq]at h
  exact⟨fun _=>h,fun h'=>absurd h3 h'⟩
 ·rw[if_neg h3]at h
  simp only[Bool.and_eq_true,decide_eq_true_eq]at h
  exact⟨fun h'=>absurd h' h3,fun _=>h⟩
theorem z100 {v:Vec}(hn:v.nulls.length<=65536)(hL:q2i v=true):∀(d i n:Nat),v.nulls.length-i=d->i<=v.nulls.length->2*d<n->F13c7 n (v.nulls.length:Int) (i:Int) v=some ((q4x v d i,()),())
 |0,i,n,hd,hi',hn'=>by
  obtain⟨n,rfl⟩:∃n',n=n'+1:=⟨n-1,by omega⟩
  rw[F13c7_eq,dF (by omega),cF]
  rfl
 | d +1,i,n,hd,hi',hn'=>by
  obtain⟨n,rfl⟩:∃n',n=n'+2:=⟨n-2,by omega⟩
  have ih:=z100 hn hL d (i+1) n (by omega) (by omega) (by omega)
  have hnext:F13c8 (n+1) (v.nulls.length:Int) (i:Int) v=some ((q4x v d (i+1),()),()):=by
   rw[F13c8_eq,q00 (by omega) (by omega)]
   exact ih
  obtain⟨l1,l2⟩:=q4a hL
  rw[F13c7_eq,dT (by omega),cT,if_pos (by omega),if_pos (by omega),tN,q4x,qwj]
  cases v.nulls.getD i false with
  |true=>rfl
  | false=>
   by_cases t1:v.f_Type=1
   ·have hl2:=(l2 (by omega)).2
    simp only[dT t1,dF (show¬v.f_Type=3 by omega),cT,cF,if_pos (show(0:Int)<=(i:Int) by omega),if_pos (show(i:Int)<(v.ints.length:Int) by omega),hnext,nT,nF,Bool.false_or,Bool.true_or,Bool.true_and,Bool.and_true]
    by_cases z0:v.ints.getD i 0=0
    ·simp only[dT z0,nT,cF,Bool.true_or,Bool.true_and]
    ·by_cases z1:v.ints.getD i 0=1
     ·simp only[dF z0,dT z1,nT,nF,cT,cF,Bool.or_true,Bool.true_and]
     ·simp only[dF z0,dF z1,nF,cT,Bool.or_false,Bool.false_and]
   ·by_cases t3:v.f_Type=3
    ·have hl1:=(l1 t3).2
     simp only[dT t3,dF t1,cT,cF,if_pos (show(0:Int)<=(i:Int) by omega),if_pos (show(i:Int)<(v.texts.length:Int) by omega),tN,hnext,nT,nF,Bool.false_or,Bool.true_or,Bool.true_and,Bool.and_true]
     by_cases z0:(v.texts.getD i []).length<=4096
     ·rw[dT z0,dF (by omega)]
      rfl
     ·rw[dF z0,dT (by omega)]
      rfl
    ·simp only[dF t3,dF t1,cT,cF,hnext,nT,nF,Bool.false_or,Bool.true_or,Bool.true_and,Bool.and_true]
theorem z12o {v:Vec}:F13.run qe5 Rkl 4000000 (v,())=some ((okV v,()),()):=by
 rw[show F13.run qe5 Rkl 4000000 (v,())=_ from F13_run _ _,okV]
 by_cases h1:v.f_Type<1
 ·rw[dT h1,cT,dF (by omega)];rfl
 by_cases h3:3<v.f_Type
 ·rw[dF h1,cF,dT h3,cT,dT (by omega),dF (by omega)];rfl
 by_cases hn:65536<v.nulls.length
 ·rw[dF h1,cF,dF h3,cF,dT (by omega),cT,dT (by omega),dT (by omega),dF (by omega)];rfl
 rw[dF h1,cF,dF h3,cF,dF (by omega),cF,dT (by omega),dT (by omega),dT (by omega),Bool.true_and,Bool.true_and,Bool.true_and,F13c4_eq (n:=3999999)]
 have fin:q2i v=true->F13c6 3999999 (v.nulls.length:Int) v=some ((q4x v v.nulls.length 0,()),()):=fun hL=>by
  rw[F13c6_eq (n:=3999998)]
  exact z100 (by omega) hL v.nulls.length 0 3999998 (by omega) (by omega) (by omega)
 by_cases t3:v.f_Type=3
 ·simp only[dT t3,cT,nT,cF]
  by_cases a:v.ints.length=0
  ·by_cases b:v.texts.length=v.nulls.length
   ·have hL:q2i v=true:=by rw[q2i,if_pos t3,dT a,dT b];rfl
    rw[dT (show(v.ints.length:Int)=0 by omega),dT (show(v.texts.length:Int)=(v.nulls.length:Int) by omega),fin hL,hL]
    rfl
   ·have hL:q2i v=false:=by rw[q2i,if_pos t3,dT a,dF b];rfl
    rw[dT (show(v.ints.length:Int)=0 by omega),dF (show¬(v.texts.length:Int)=(v.nulls.length:Int) by omega),hL]
    rfl
  ·have hL:q2i v=false:=by rw[q2i,if_pos t3,dF a];rfl
   rw[dF (show¬(v.ints.length:Int)=0 by omega),hL]
   rfl
 ·simp only[dF t3,cF,nF,cT]
  by_cases a:v.texts.length=0
  ·by_cases b:v.ints.length=v.nulls.length
   ·have hL:q2i v=true:=by rw[q2i,if_neg t3,dT a,dT b];rfl
    rw[dT (show(v.texts.length:Int)=0 by omega),dT (show(v.ints.length:Int)=(v.nulls.length:Int) by omega),fin hL,hL]
    rfl
   ·have hL:q2i v=false:=by rw[q2i,if_neg t3,dT a,dF b];rfl
    rw[dT (show(v.texts.length:Int)=0 by omega),dF (show¬(v.ints.length:Int)=(v.nulls.length:Int) by omega),hL]
    rfl
  ·have hL:q2i v=false:=by rw[q2i,if_neg t3,dF a];rfl
   rw[dF (show¬(v.texts.length:Int)=0 by omega),hL]
   rfl
/-! The program's own. -/
theorem z14a {v:Vec}(hn:v.nulls.length<=65536)(hL:q2i v=true)(hx:okL v.ints):∀(d i n:Nat),v.nulls.length-i=d->i<=v.nulls.length->2*d<n->F33c7 n v.nulls (v.nulls.length:Int) (i:Int) v=some ((q4x v d i,()),())
 |0,i,n,hd,hi',hn'=>by
  obtain⟨n,rfl⟩:∃n',n=n'+1:=⟨n-1,by omega⟩
  rw[F33c7_eq,dF (by omega),cF]
  rfl
 | d +1,i,n,hd,hi',hn'=>by
  obtain⟨n,rfl⟩:∃n',n=n'+2:=⟨n-2,by omega⟩
  have ih:=z14a hn hL hx d (i+1) n (by omega) (by omega) (by omega)
  have hnext:F33c15 (n+1) v.nulls (v.nulls.length:Int) (i:Int) v=some ((q4x v d (i+1),()),()):=by
   rw[F33c15_eq,q00 (by omega) (by omega)]
   exact ih
  obtain⟨l1,l2⟩:=q4a hL
  rw[F33c7_eq,dT (by omega),cT,if_pos (by omega),if_pos (by omega),tN,q4x,qwj]
  cases v.nulls.getD i false with
  |true=>rfl
  | false=>
   by_cases t1:v.f_Type=1
   ·have hl2:=(l2 (by omega)).2
    simp only[dT t1,dF (show¬v.f_Type=3 by omega),cT,cF,if_pos (show(0:Int)<=(i:Int) by omega),if_pos (show(i:Int)<(v.ints.length:Int) by omega),hnext,nT,nF,Bool.false_or,Bool.true_or,Bool.true_and,Bool.and_true]
    have hg:=q4v hx (i:=i) (by omega)
    have hb:=qsc hg.1 hg.2
    by_cases z0:v.ints.getD i 0=0
    ·rw[dT (hb.2 (.inl z0)),dT z0]
     rfl
    ·by_cases z1:v.ints.getD i 0=1
     ·rw[dT (hb.2 (.inr z1)),dF z0,dT z1]
      rfl
     ·rw[dF (fun h=>(hb.1 h).elim z0 z1),dF z0,dF z1]
      rfl
   ·by_cases t3:v.f_Type=3
    ·have hl1:=(l1 t3).2
     simp only[dT t3,dF t1,cT,cF,if_pos (show(0:Int)<=(i:Int) by omega),if_pos (show(i:Int)<(v.texts.length:Int) by omega),tN,hnext,nT,nF,Bool.false_or,Bool.true_or,Bool.true_and,Bool.and_true]
     by_cases z0:(v.texts.getD i []).length<=4096
     ·rw[dT z0,dF (by omega)]
      rfl
     ·rw[dF z0,dT (by omega)]
      rfl
    ·simp only[dF t3,dF t1,cT,cF,hnext,nT,nF,Bool.false_or,Bool.true_or,Bool.true_and,Bool.and_true]
theorem z14b {v:Vec}(hx:okL v.ints):F33.run qe5 Rkl 4000000 (v,())=some ((okV v,()),()):=by
 rw[show F33.run qe5 Rkl 4000000 (v,())=_ from F33_run _ _,okV]
 by_cases h1:v.f_Type<1
 ·rw[dT h1,cT,dF (by omega)];rfl
 by_cases h3:3<v.f_Type
 ·rw[dF h1,cF,dT h3,cT,dT (by omega),dF (by omega)];rfl
 by_cases hn:65536<v.nulls.length
 ·rw[dF h1,cF,dF h3,cF,dT (by omega),cT,dT (by omega),dT (by omega),dF (by omega)];rfl
 rw[dF h1,cF,dF h3,cF,dF (by omega),cF,dT (by omega),dT (by omega),dT (by omega),Bool.true_and,Bool.true_and,Bool.true_and,F33c4_eq (n:=3999999)]
 have fin:q2i v=true->F33c6 3999999 v=some ((q4x v v.nulls.length 0,()),()):=fun hL=>by
  rw[F33c6_eq (n:=3999998)]
  exact z14a (by omega) hL hx v.nulls.length 0 3999998 (by omega) (by omega) (by omega)
 by_cases t3:v.f_Type=3
 ·simp only[dT t3,cT,nT,cF]
  by_cases a:v.ints.length=0
  ·by_cases b:v.texts.length=v.nulls.length
   ·have hL:q2i v=true:=by rw[q2i,if_pos t3,dT a,dT b];rfl
    rw[dT (show(v.ints.length:Int)=0 by omega),dT (show(v.texts.length:Int)=(v.nulls.length:Int) by omega),fin hL,hL]
    rfl
   ·have hL:q2i v=false:=by rw[q2i,if_pos t3,dT a,dF b];rfl
    rw[dT (show(v.ints.length:Int)=0 by omega),dF (show¬(v.texts.length:Int)=(v.nulls.length:Int) by omega),hL]
    rfl
  ·have hL:q2i v=false:=by rw[q2i,if_pos t3,dF a];rfl
   rw[dF (show¬(v.ints.length:Int)=0 by omega),hL]
   cases decide ((v.texts.length:Int)=(v.nulls.length:Int))<;>rfl
 ·simp only[dF t3,cF,nF,cT]
  by_cases a:v.texts.length=0
  ·by_cases b:v.ints.length=v.nulls.length
   ·have hL:q2i v=true:=by rw[q2i,if_neg t3,dT a,dT b];rfl
    rw[dT (show(v.texts.length:Int)=0 by omega),dT (show(v.ints.length:Int)=(v.nulls.length:Int) by omega),fin hL,hL]
    rfl
   ·have hL:q2i v=false:=by rw[q2i,if_neg t3,dT a,dF b];rfl
    rw[dT (show(v.texts.length:Int)=0 by omega),dF (show¬(v.ints.length:Int)=(v.nulls.length:Int) by omega),hL]
    rfl
  ·have hL:q2i v=false:=by rw[q2i,if_neg t3,dF a];rfl
   rw[dF (show¬(v.texts.length:Int)=0 by omega),hL]
   cases decide ((v.ints.length:Int)=(v.nulls.length:Int))<;>rfl
end Go.Proofs.Tryz
