/- Law 12: Encode, Costs and Choose, of the program and of the reference. -/
import Derived.Test.YtpnabclcnplchaaGreatL12Enc3
set_option linter.unusedVariables false
set_option linter.unusedSimpArgs false
namespace Go.Proofs.Tryz
open Go.Eng
open IntKind (i64 u64 u8)
abbrev bwP:List PK:=[PK.bw (Ty.nm 0)]
abbrev byR:List RK:=[RK.own 5 (Ty.int u8)]
theorem qyx {v:Vec}(h:Fit v):F48.run qdk Rk1 4000000 (v,())=some ((q9b (q12 v.ints),()),(v,())):=by
 obtain⟨r1,r2⟩:=qb6 h.okL (by have:=h.ints;omega)
 have:=h.ints
 rw[show F48.run qdk Rk1 4000000 (v,())=_ from(F48_run _ _).trans (F48c1_eq 3999999 _),qpu (by omega),oB]
 dsimp only
 rw[qve r1 (by omega),oB]
theorem qyy {v:Vec}(h:Fit v):F51.run qdk Rk1 4000000 (v,())=some ((frE v.ints,()),(v,())):=by
 have:=h.ints
 rw[show F51.run qdk Rk1 4000000 (v,())=_ from(F51_run _ _).trans (F51c1_eq 3999999 _),qf6 (by omega) h.okL,oB]
theorem qyz {v:Vec}(h:Fit v):F53.run qdk Rk1 4000000 (v,())=some ((dlE v.ints,()),(v,())):=by
 have:=h.ints
 rw[show F53.run qdk Rk1 4000000 (v,())=_ from(F53_run _ _).trans (F53c1_eq 3999999 _),qk2 (by omega) h.okL,oB]
theorem qz0 {v:Vec}(h:Fit v):F55.run qdk Rk1 4000000 (v,())=some ((q86 v.texts,()),(v,())):=by
 have:=h.texts
 rw[show F55.run qdk Rk1 4000000 (v,())=_ from(F55_run _ _).trans (F55c1_eq 3999999 _),qme (by omega) h.okT,oB]
theorem qz1 {v:Vec}(h:Fit v):F57.run qdk Rk1 4000000 (v,())=some ((fcB v.texts v.texts.length,()),(v,())):=by
 have:=h.texts
 rw[show F57.run qdk Rk1 4000000 (v,())=_ from(F57_run _ _).trans (F57c1_eq 3999999 _),qtj (by omega) h.okT,oB]
theorem qz2 {v:Vec}(h:Fit v):F59.run qdk Rk1 4000000 (v,())=some ((plE v,()),(v,())):=by
 have:=h.texts
 have:=h.ints
 rw[show F59.run qdk Rk1 4000000 (v,())=_ from(F59_run _ _).trans (F59c1_eq 3999999 _),qv1 (by omega) (by omega) h.okT,oB]
theorem q33 {v:Vec}(h:okV v=true):1<=v.f_Type/\v.f_Type<=3/\v.nulls.length<=65536/\q2i v=true/\q4x v v.nulls.length 0=true:=by
 unfold okV at h
 simp only[Bool.and_eq_true,decide_eq_true_eq]at h
 exact⟨h.1,h.2.1,h.2.2.1,h.2.2.2.1,h.2.2.2.2⟩
theorem qax {v:Vec}:∀(d i:Nat),q4x v d i=true->∀j,i<=j->j<i+d->qwj v j=true
 |0,i,_,j,h1,h2=>by omega
 |d+1,i,h,j,h1,h2=>by
  unfold q4x at h
  simp only[Bool.and_eq_true]at h
  rcases Nat.lt_or_ge i j with h'|h'
  ·exact qax d (i+1) h.2 j (by omega) (by omega)
  ·rw[show j=i by omega];exact h.1
theorem qit {v:Vec}(h:okV v=true)(hs:vsz v<=10000)(hx:okL v.ints):Fit v:=by
 obtain⟨h1,h2,h3,h4,h5⟩:=q33 h
 obtain⟨l1,l2⟩:=q4a h4
 unfold vsz at hs
 refine⟨by omega,by omega,hx,fun s hm=>?_⟩
 by_cases t3:v.f_Type=3
 ·obtain⟨j,hj,rfl⟩:=List.mem_iff_getElem.1 hm
  have:=qax _ _ h5 j (by omega) (by have:=(l1 t3).2;omega)
  unfold qwj at this
  rw[dT t3,gQ (l:=v.texts),gE hj]at this
  simp only[Bool.and_eq_true,nT,Bool.false_or,decide_eq_true_eq]at this
  exact this.2.2
 ·have:v.texts=[]:=List.eq_nil_of_length_eq_zero (l2 t3).1
  rw[this]at hm
  cases hm
def qs3 (v:Vec)(k:Int):List Int×Int:=
 if okV v=false then([],1)else if k<0 then([],1)else if 5<k then([],1)else if app k v.f_Type=false then([],7)else(k::q0h v k,0)
theorem z10b {k:Int}(h1:0<=k)(h2:k<=5):u8.wrap k=k:=q23 h1 (by omega)
theorem qem {v:Vec}{k:Int}(hF:okV v=true->Fit v)(hx:okL v.ints):F11.run qrz qym 4000000 (v,k,())=some (((qs3 v k).1,((qs3 v k).2,())),()):=by
 rw[show F11.run qrz qym 4000000 (v,k,())=_ from(F11_run _ _ _).trans (F11c1_eq 3999999 _ _),z14b hx,oB]
 dsimp only
 unfold qs3
 cases hv:okV v with
 |false=>rfl
 | true=>
  have hF:=hF hv
  obtain⟨t1,t2,_⟩:=q33 hv
  rw[if_neg (by decide),nT,cF]
  by_cases h0:k<0
  ·rw[dT h0,cT,if_pos h0]
  by_cases h5:5<k
  ·rw[dF h0,cF,dT h5,cT,if_neg h0,if_pos h5]
  rw[dF h0,cF,dF h5,cF,if_neg h0,if_neg h5,F11c3_eq (n:=3999998),qm7 (by omega) (by omega) t1 t2,oB]
  dsimp only
  cases ha:app k v.f_Type with
  |false=>rfl
  | true=>
   have hl:=q7v hF k
   have hu:=z10b (k:=k) (by omega) (by omega)
   rw[if_neg (by decide),nT,cF,hu]
   rcases six (k:=k) (by omega) (by omega)with hk|hk|hk|hk|hk|hk
   ·have hb:q0h v k=plE v:=by unfold q0h;rw[if_pos hk]
    rw[dF (show¬k=1 by omega),cF,dF (show¬k=2 by omega),cF,dF (show¬k=3 by omega),cF,dF (show¬k=4 by omega),cF,dF (show¬k=5 by omega),cF,qz2 hF,oB,<-hb]
    dsimp only
    rw[if_pos (by simp only[lim];omega)]
    rfl
   ·have hb:q0h v k=q9b (q12 v.ints):=by unfold q0h;rw[if_neg (by omega),if_pos hk]
    rw[dT (show k=1 from hk),cT,qyx hF,oB,<-hb]
    dsimp only
    rw[if_pos (by simp only[lim];omega)]
    rfl
   ·have hb:q0h v k=frE v.ints:=by unfold q0h;rw[if_neg (by omega),if_neg (by omega),if_pos hk]
    rw[dF (show¬k=1 by omega),cF,dT (show k=2 from hk),cT,qyy hF,oB,<-hb]
    dsimp only
    rw[if_pos (by simp only[lim];omega)]
    rfl
   ·have hb:q0h v k=dlE v.ints:=by unfold q0h;rw[if_neg (by omega),if_neg (by omega),if_neg (by omega),if_pos hk]
    rw[dF (show¬k=1 by omega),cF,dF (show¬k=2 by omega),cF,dT (show k=3 from hk),cT,qyz hF,oB,<-hb]
    dsimp only
    rw[if_pos (by simp only[lim];omega)]
    rfl
   ·have hb:q0h v k=q86 v.texts:=by unfold q0h;rw[if_neg (by omega),if_neg (by omega),if_neg (by omega),if_neg (by omega),if_pos hk]
    rw[dF (show¬k=1 by omega),cF,dF (show¬k=2 by omega),cF,dF (show¬k=3 by omega),cF,dT (show k=4 from hk),cT,qz0 hF,oB,<-hb]
    dsimp only
    rw[if_pos (by simp only[lim];omega)]
    rfl
   ·have hb:q0h v k=fcB v.texts v.texts.length:=by unfold q0h;rw[if_neg (by omega),if_neg (by omega),if_neg (by omega),if_neg (by omega),if_neg (by omega)]
    rw[dF (show¬k=1 by omega),cF,dF (show¬k=2 by omega),cF,dF (show¬k=3 by omega),cF,dF (show¬k=4 by omega),cF,dT (show k=5 from hk),cT,qz1 hF,oB,<-hb]
    dsimp only
    rw[if_pos (by simp only[lim];omega)]
    rfl
theorem q8w {v:Vec}{k:Int}(hs:vsz v<=10000)(hx:okL v.ints):F11.run qrz qym 4000000 (v,k,())=some (((qs3 v k).1,((qs3 v k).2,())),()):=
 qem (fun h=>qit h hs hx) hx
end Go.Proofs.Tryz
