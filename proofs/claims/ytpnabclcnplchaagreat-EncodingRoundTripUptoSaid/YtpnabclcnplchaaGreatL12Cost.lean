/- Law 12: Costs and Choose. -/
import Derived.Test.YtpnabclcnplchaaGreatL12Enc4
set_option linter.unusedVariables false
set_option linter.unusedSimpArgs false
namespace Go.Proofs.Tryz
open Go.Eng
def cst (v:Vec)(k:Int):Int:=if app k v.f_Type=true then 1+((q0h v k).length:Int)else-1
def qoc (v:Vec)(i:Nat):List Cost:=(List.range i).map fun(j:Nat)=>({encoding:=(j:Int),bytes:=cst v (j:Int)}:Cost)
theorem qad (v:Vec)(i:Nat):(qoc v i).length=i:=by simp[qoc]
theorem qsq (v:Vec)(i:Nat):qoc v (i+1)=qoc v i++[{encoding:=(i:Int),bytes:=cst v (i:Int)}]:=by
 unfold qoc
 rw[List.range_succ,List.map_append]
 rfl
theorem q8u {v:Vec}{i j:Nat}(h:j<i):(qoc v i).getD j qdj={encoding:=(j:Int),bytes:=cst v (j:Int)}:=by
 rw[gQ,qoc,List.getElem?_map,List.getElem?_range h]
 rfl
theorem qo8 {v:Vec}(hF:Fit v)(t1:1<=v.f_Type)(t2:v.f_Type<=3):∀(d i n:Nat),6-i=d->i<=6->2*d<n->F14c3 n (i:Int) v (qoc v i)=some ((qoc v 6,()),())
 |0,i,n,hd,hi,hn=>by
  obtain⟨n,rfl⟩:∃n',n=n'+1:=⟨n-1,by omega⟩
  have:i=6:=by omega
  subst this
  rw[F14c3_eq,dF (by omega),cF]
 | d+1,i,n,hd,hi,hn=>by
  obtain⟨n,rfl⟩:∃n',n=n'+2:=⟨n-2,by omega⟩
  have ih:=qo8 hF t1 t2 d (i+1) n (by omega) (by omega) (by omega)
  have hl:=q7v hF (i:Int)
  have hnext:F14c9 (n+1) (i:Int) v (qoc v i) ({encoding:=(i:Int),bytes:=cst v (i:Int)}:Cost)=some ((qoc v 6,()),()):=by
   rw[F14c9_eq,if_pos (by rw[qad];simp only[lim];omega),q00 (by omega) (by omega),<-qsq]
   exact ih
  rw[F14c3_eq,dT (by omega),cT,qm7 (by omega) (by omega) t1 t2,oB]
  dsimp only
  unfold cst at hnext
  cases ha:app (i:Int) v.f_Type with
  |false=>
   rw[ha,if_neg (by decide)]at hnext
   exact hnext
  | true=>
   rw[ha,if_pos rfl]at hnext
   rw[nT,cF]
   generalize hk:(i:Int)=k at*
   rcases six (k:=k) (by omega) (by omega)with hk|hk|hk|hk|hk|hk
   ·have hb:q0h v k=plE v:=by unfold q0h;rw[if_pos hk]
    rw[dF (show¬k=1 by omega),cF,dF (show¬k=2 by omega),cF,dF (show¬k=3 by omega),cF,dF (show¬k=4 by omega),cF,dF (show¬k=5 by omega),cF,qz2 hF,oB,<-hb]
    dsimp only
    rw[q00 (by omega) (by omega)]
    exact hnext
   ·have hb:q0h v k=q9b (q12 v.ints):=by unfold q0h;rw[if_neg (by omega),if_pos hk]
    rw[dT (show k=1 from hk),cT,qyx hF,oB,<-hb]
    dsimp only
    rw[q00 (by omega) (by omega)]
    exact hnext
   ·have hb:q0h v k=frE v.ints:=by unfold q0h;rw[if_neg (by omega),if_neg (by omega),if_pos hk]
    rw[dF (show¬k=1 by omega),cF,dT (show k=2 from hk),cT,qyy hF,oB,<-hb]
    dsimp only
    rw[q00 (by omega) (by omega)]
    exact hnext
   ·have hb:q0h v k=dlE v.ints:=by unfold q0h;rw[if_neg (by omega),if_neg (by omega),if_neg (by omega),if_pos hk]
    rw[dF (show¬k=1 by omega),cF,dF (show¬k=2 by omega),cF,dT (show k=3 from hk),cT,qyz hF,oB,<-hb]
    dsimp only
    rw[q00 (by omega) (by omega)]
    exact hnext
   ·have hb:q0h v k=q86 v.texts:=by unfold q0h;rw[if_neg (by omega),if_neg (by omega),if_neg (by omega),if_neg (by omega),if_pos hk]
    rw[dF (show¬k=1 by omega),cF,dF (show¬k=2 by omega),cF,dF (show¬k=3 by omega),cF,dT (show k=4 from hk),cT,qz0 hF,oB,<-hb]
    dsimp only
    rw[q00 (by omega) (by omega)]
    exact hnext
   ·have hb:q0h v k=fcB v.texts v.texts.length:=by unfold q0h;rw[if_neg (by omega),if_neg (by omega),if_neg (by omega),if_neg (by omega),if_neg (by omega)]
    rw[dF (show¬k=1 by omega),cF,dF (show¬k=2 by omega),cF,dF (show¬k=3 by omega),cF,dF (show¬k=4 by omega),cF,dT (show k=5 from hk),cT,qz1 hF,oB,<-hb]
    dsimp only
    rw[q00 (by omega) (by omega)]
    exact hnext
theorem qjz {v:Vec}(hv:okV v=true)(hs:vsz v<=10000)(hx:okL v.ints):F14.run qe5 Rk2w 4000000 (v,())=some ((qoc v 6,()),()):=by
 obtain⟨t1,t2,_⟩:=q33 hv
 rw[show F14.run qe5 Rk2w 4000000 (v,())=_ from(F14_run _ _).trans (F14c1_eq 3999999 _)]
 exact qo8 (qit hv hs hx) t1 t2 6 0 3999999 (by omega) (by omega) (by omega)
/-! The choice. -/
def cho (v:Vec):Nat->Nat
 |0=>0
 |i+1=>if 0<=cst v (i:Int)/\cst v (i:Int)<cst v ((cho v i:Nat):Int)then i else cho v i
theorem cst0 (v:Vec):0<=cst v 0:=by
 unfold cst
 rw[if_pos (by rfl)]
 omega
theorem qhq (v:Vec):∀i,1<=i->cho v i<i/\0<=cst v ((cho v i:Nat):Int)/\∀j,j<i->0<=cst v (j:Int)->cst v ((cho v i:Nat):Int)<=cst v (j:Int)
 |0,h=>by omega
 |1,_=>by
  have:cho v 1=0:=by simp[cho]
  rw[this]
  refine⟨by omega,cst0 v,fun j hj _=>?_⟩
  rw[show j=0 by omega]
  exact Int.le_refl _
 | i+2,_=>by
  obtain⟨h1,h2,h3⟩:=qhq v (i+1) (by omega)
  rw[show cho v (i+2)=if 0<=cst v ((i+1:Nat):Int)/\cst v ((i+1:Nat):Int)<cst v ((cho v (i+1):Nat):Int)then i+1 else cho v (i+1)from rfl]
  by_cases h:0<=cst v ((i+1:Nat):Int)/\cst v ((i+1:Nat):Int)<cst v ((cho v (i+1):Nat):Int)
  ·rw[if_pos h]
   refine⟨by omega,h.1,fun j hj h0=>?_⟩
   rcases Nat.lt_or_ge j (i+1)with h'|h'
   ·have:=h3 j h' h0
    omega
   ·rw[show j=i+1 by omega]
    exact Int.le_refl _
  ·rw[if_neg h]
   refine⟨by omega,h2,fun j hj h0=>?_⟩
   rcases Nat.lt_or_ge j (i+1)with h'|h'
   ·exact h3 j h' h0
   ·rw[show j=i+1 by omega]at h0 ⊢
    omega
theorem qjt (c:Cost):F37.run Pk2z Rk6 4000000 (c,())=some ((c.bytes,()),()):=F37_run _ _
theorem qma (a b:Cost)(ha:0<=a.bytes):F36.run Pk2o [RK.v (Ty.nm 1)] 4000000 (a,b,(),())=some ((if 0<=b.bytes/\b.bytes<a.bytes then b else a,()),()):=by
 rw[show F36.run Pk2o [RK.v (Ty.nm 1)] 4000000 (a,b,(),())=_ from F36_run _ _ _ _,qjt,oB]
 dsimp only
 by_cases h:0<=b.bytes
 ·rw[dT h,cT,qjt,oB]
  dsimp only
  rw[dF (show¬a.bytes<0 by omega),cF,oB,oB]
  dsimp only
  by_cases h2:b.bytes<a.bytes
  ·rw[dT h2,cT,if_pos ⟨h,h2⟩]
  ·rw[dF h2,cF,if_neg fun x=>h2 x.2]
 ·rw[dF h,cF,if_neg fun x=>h x.1]
def cof (v:Vec)(i:Nat):Cost:={encoding:=(i:Int),bytes:=cst v (i:Int)}
theorem qju {v:Vec}{L:List Cost}(hL:L=(qoc v 6).drop 1):∀(d i n:Nat),5-i=d->i<=5->d<n->F16c4 n L (5:Int) (i:Int) (cof v (cho v (i+1)))=some ((((cho v 6:Nat):Int),()),())
 |0,i,n,hd,hi,hn=>by
  obtain⟨n,rfl⟩:∃n',n=n'+1:=⟨n-1,by omega⟩
  have:i=5:=by omega
  subst this
  rw[F16c4_eq,dF (by omega),cF]
  rfl
 | d+1,i,n,hd,hi,hn=>by
  obtain⟨n,rfl⟩:∃n',n=n'+1:=⟨n-1,by omega⟩
  have ih:=qju hL d (i+1) n (by omega) (by omega) (by omega)
  have hlen:L.length=5:=by rw[hL,lD,qad]
  have hg:L.getD i qdj=cof v (i+1):=by
   rw[hL,gQ,List.getElem?_drop,<-gQ,show 1+i=i+1 by omega,q8u (by omega)]
   rfl
  obtain⟨h1,h2,h3⟩:=qhq v (i+1) (by omega)
  rw[F16c4_eq,dT (by omega),cT,if_pos (by omega),if_pos (by omega),tN,hg,qma _ _ h2,oB]
  dsimp only
  rw[q00 (by omega) (by omega)]
  rw[show cho v (i+1+1)=if 0<=cst v ((i+1:Nat):Int)/\cst v ((i+1:Nat):Int)<cst v ((cho v (i+1):Nat):Int)then i+1 else cho v (i+1)from rfl]at ih
  by_cases h:0<=cst v ((i+1:Nat):Int)/\cst v ((i+1:Nat):Int)<cst v ((cho v (i+1):Nat):Int)
  ·rw[if_pos h]at ih
   rw[if_pos (show 0<=(cof v (i+1)).bytes/\(cof v (i+1)).bytes<(cof v (cho v (i+1))).bytes from h)]
   exact ih
  ·rw[if_neg h]at ih
   rw[if_neg (show¬(0<=(cof v (i+1)).bytes/\(cof v (i+1)).bytes<(cof v (cho v (i+1))).bytes)from h)]
   exact ih
theorem qqs {v:Vec}(hv:okV v=true)(hs:vsz v<=10000)(hx:okL v.ints):F16.run qe5 Rk6 4000000 (v,())=some ((((cho v 6:Nat):Int),()),()):=by
 have hlen:=qad v 6
 rw[show F16.run qe5 Rk6 4000000 (v,())=_ from F16_run _ _,qjz hv hs hx,oB]
 dsimp only
 rw[hlen,if_pos (by omega),if_pos (by omega),if_pos (by omega),show Int.toNat (((6:Nat):Int))=6 from rfl,show Int.toNat (1:Int)=1 from rfl,show Int.toNat (0:Int)=0 from rfl,tL (by omega),q8u (by omega)]
 have h5:(((qoc v 6).drop 1).length:Int)=5:=by rw[lD,qad];rfl
 rw[h5]
 have:=qju (v:=v) rfl 5 0 4000000 (by omega) (by omega) (by omega)
 rw[show cho v (0+1)=0 from by simp[cho]]at this
 exact this
end Go.Proofs.Tryz
