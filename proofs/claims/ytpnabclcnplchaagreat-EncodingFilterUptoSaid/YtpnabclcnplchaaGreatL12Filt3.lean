/- Law 12: Filter, of the program and of the reference, are the same. -/
import Derived.Test.YtpnabclcnplchaaGreatL12Filt2
set_option linter.unusedVariables false
set_option linter.unusedSimpArgs false
namespace Go.Proofs.Tryz
open Go.Eng
open IntKind (i64 u64 u8)
def qrx (p:Pred):Bool:=decide (1<=p.op)&&decide (p.op<=6)
def opOK (p:Pred):Prop:=qrx p=true\/p.op=20\/p.op=21
def qvw (n:Int)(w:List Int)(e:Int):Option (HRes NN.ρ flR×HOut NN.ρ flA):=some ((({n:=n,words:=w}:Bits),(e,())),())
theorem qys {b:List Int}{t n:Int}{p:Pred}(h:¬opOK p):F22.run flA flR 4000000 (b,t,n,p,())=qvw 0 [] 1/\F23.run flA flR 4000000 (b,t,n,p,())=qvw 0 [] 1:=by
 have h20:¬p.op=20:=fun h'=>h (.inr (.inl h'))
 have h21:¬p.op=21:=fun h'=>h (.inr (.inr h'))
 have hc:qrx p=false:=by
  cases hb:qrx p with
  |false=>rfl
  |true=>exact absurd (.inl hb) h
 rw[show F22.run flA flR 4000000 (b,t,n,p,())=_ from F22_run _ _ _ _ _,show F23.run flA flR 4000000 (b,t,n,p,())=_ from F23_run _ _ _ _ _]
 unfold qrx at hc
 constructor
 ·have h2:F22c2 4000000 b t n false p 0 []=qvw 0 [] 1:=by
   rw[F22c2_eq (n:=3999999),nF,cT,dF h20,nF,cT,dF h21,nF,cT]
   rfl
  by_cases h1:1<=p.op
  ·rw[dT h1,Bool.true_and]at hc
   rw[dT h1,cT,hc]
   exact h2
  ·rw[dF h1,cF]
   exact h2
 ·by_cases h1:p.op<1
  ·rw[dT h1,cT,dF h20,nF,cT,dF h21,nF,cT]
   rfl
  ·rw[dT (show 1<=p.op by omega),Bool.true_and,decide_eq_false_iff_not]at hc
   rw[dF h1,cF,dT (show 6<p.op by omega),cT,dF h20,nF,cT,dF h21,nF,cT]
   rfl
theorem qyr {b:List Int}{t n:Int}{p:Pred}(h:opOK p):F22.run flA flR 4000000 (b,t,n,p,())=F22c4 3999999 b t n (qrx p) p 0 []/\F23.run flA flR 4000000 (b,t,n,p,())=F23c3 4000000 b t n p 0 []:=by
 rw[show F22.run flA flR 4000000 (b,t,n,p,())=_ from F22_run _ _ _ _ _,show F23.run flA flR 4000000 (b,t,n,p,())=_ from F23_run _ _ _ _ _]
 constructor
 ·have h2:F22c2 4000000 b t n (qrx p) p 0 []=F22c4 3999999 b t n (qrx p) p 0 []:=by
   rw[F22c2_eq (n:=3999999)]
   cases hb:qrx p with
   |true=>rw[nT,cF]
   | false=>
    rw[nF,cT]
    by_cases h20:p.op=20
    ·rw[dT h20,nT,cF]
    ·rw[dF h20,nF,cT]
     have h21:p.op=21:=by
      rcases h with h|h|h
      ·rw[hb]at h;cases h
      ·exact absurd h h20
      ·exact h
     rw[dT h21,nT,cF]
  have h3:qrx p=(bif decide (1<=p.op)then decide (p.op<=6)else false):=by
   unfold qrx
   cases decide (1<=p.op)<;>rfl
  by_cases h1:1<=p.op
  ·rw[dT h1,cT]at h3 ⊢
   rw[<-h3]
   exact h2
  ·rw[dF h1,cF]at h3 ⊢
   rw[<-h3]
   exact h2
 ·have h20:∀{x:Option (HRes NN.ρ flR×HOut NN.ρ flA)},(p.op<1\/6<p.op)->(bif !decide (p.op=(20:Int))then bif !decide (p.op=(21:Int))then x else F23c3 4000000 b t n p 0 []else F23c3 4000000 b t n p 0 [])=F23c3 4000000 b t n p 0 []:=by
   intro x hx
   by_cases h20:p.op=20
   ·rw[dT h20,nT,cF]
   ·rw[dF h20,nF,cT]
    have h21:p.op=21:=by
     rcases h with h|h|h
     ·unfold qrx at h
      simp only[Bool.and_eq_true,decide_eq_true_eq]at h
      omega
     ·exact absurd h h20
     ·exact h
    rw[dT h21,nT,cF]
  by_cases h1:p.op<1
  ·rw[dT h1,cT]
   exact h20 (.inl h1)
  ·rw[dF h1,cF]
   by_cases h6:6<p.op
   ·rw[dT h6,cT]
    exact h20 (.inr h6)
   ·rw[dF h6,cF]
theorem qsn {b:List Int}(hb:okB b)(hl:b.length<=100000000)(h5:b.getD 0 0=5->b.length<=1000000){t n:Int}(hn:n<=10000\/65536<n){p:Pred}(hop:opOK p):
  ∃(v:Vec) (q e:Nat),qw5 t n v q e/\z10j b t n v q e/\F22.run flA flR 4000000 (b,t,n,p,())=(if e=0 then qvw n (fwd p v n.toNat n.toNat) 0 else qvw 0 [] e)/\F23.run flA flR 4000000 (b,t,n,p,())=(if e=0 then qvw n (fwd p v n.toNat n.toNat) 0 else qvw 0 [] e):=by
 obtain⟨v,q,e,r1,r2,r3,r4⟩:=qvj hb hl h5 (t:=t) hn
 refine⟨v,q,e,r3,r4,?_,?_⟩
 ·rw[(qyr hop).1,F22c4_eq (n:=3999998),r1,oB]
  dsimp only
  rcases Decidable.em (e≠0)with he|he
  ·rw[ne0 he,cT,if_neg he]
   rfl
  have he:=Decidable.not_not.1 he
  subst he
  obtain⟨g1,g2,g3,g4,g5,g6⟩:=r3.1 rfl
  obtain⟨N,hN⟩:∃N:Nat,n=(N:Int):=⟨v.nulls.length,g6.symm⟩
  subst hN
  have hN1:v.nulls.length=N:=by omega
  have hN2:=(q1r g3).2.2.1
  rw[show(!decide (((0:Nat):Int)=0))=false from rfl,cF,if_pos rfl,tN]
  exact qyt (by omega) g3 hN1 rfl hop N 0 3999998 false qli (by omega) (by omega) (by omega) (fun _ h=>by omega) (fun _=>rfl)
 ·rw[(qyr hop).2,F23c3_eq (n:=3999999),r2,oB]
  dsimp only
  rcases Decidable.em (e≠0)with he|he
  ·rw[ne0 he,cT,if_neg he]
   rfl
  have he:=Decidable.not_not.1 he
  subst he
  obtain⟨g1,g2,g3,g4,g5,g6⟩:=r3.1 rfl
  obtain⟨N,hN⟩:∃N:Nat,n=(N:Int):=⟨v.nulls.length,g6.symm⟩
  subst hN
  have hN1:v.nulls.length=N:=by omega
  have hN2:=(q1r g3).2.2.1
  have hw:i64.wrap ((i64.wrap ((N:Int)+63)).tdiv 64)=((wcn N:Nat):Int):=by
   rw[q00 (z:=(N:Int)+63) (by omega) (by omega),Int.tdiv_eq_ediv_of_nonneg (by omega),q00 (by omega) (by omega)]
   unfold wcn
   rw[show((N:Int)+63)/64=(((N+63)/64:Nat):Int) by omega]
  rw[show(!decide (((0:Nat):Int)=0))=false from rfl,cF,if_pos rfl,hw,if_pos (by omega),if_pos (by unfold wcn;simp only[lim];omega),tN,tN]
  exact qzs (by omega) g3 hN1 N 0 3999999 (by omega) (by omega) (by omega)
/-! Equality of bitsets. -/
theorem qyd {s:Bits}(hl:s.words.length<=1000000):∀(d i n:Nat),s.words.length-i=d->i<=s.words.length->2*d<n->F24c4 n (i:Int) s s=some ((true,()),())
 |0,i,n,hd,hi,hn=>by
  obtain⟨n,rfl⟩:∃n',n=n'+1:=⟨n-1,by omega⟩
  rw[F24c4_eq,dF (by omega),cF]
 |d+1,i,n,hd,hi,hn=>by
  obtain⟨n,rfl⟩:∃n',n=n'+2:=⟨n-2,by omega⟩
  rw[F24c4_eq,dT (by omega),cT,cT,F24c6_eq,if_pos (by omega),if_pos (by omega),if_pos (by omega),if_pos (by omega),dT rfl,nT,cF,q00 (z:=(i:Int)+1) (by omega) (by omega)]
  exact qyd hl d (i+1) n (by omega) (by omega) (by omega)
theorem z10l {s:Bits}(hl:s.words.length<=1000000):F24.run Pk34 Rkl 4000000 (s,s,())=some ((true,()),()):=by
 rw[show F24.run Pk34 Rkl 4000000 (s,s,())=_ from F24_run _ _ _,dT rfl,dT rfl,nT,cF,cF,F24c3_eq (n:=3999999)]
 exact qyd hl s.words.length 0 3999999 (by omega) (by omega) (by omega)
theorem qvi (a:Val):∃x:Bool,F21.run Pk3b Rkl 4000000 (a,())=some ((x,()),()):=by
 rw[show F21.run Pk3b Rkl 4000000 (a,())=_ from F21_run _ _]
 cases decide (a.kind=0)<;>cases decide (a.int=0)<;>cases decide (a.kind=1)<;>cases decide (a.int=1)<;>cases decide (a.kind=2)<;>cases decide (a.kind=3)<;>exact⟨_,rfl⟩
end Go.Proofs.Tryz
