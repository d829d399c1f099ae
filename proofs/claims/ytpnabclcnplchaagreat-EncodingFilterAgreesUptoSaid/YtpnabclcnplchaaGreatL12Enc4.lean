/- Law 12: Encode, Costs and Choose, of the program and of the reference. -/
import Derived.Test.YtpnabclcnplchaaGreatL12Enc3
set_option linter.unusedVariables false
set_option linter.unusedSimpArgs false
namespace Go.Proofs.Tryz
open Go.Eng
open IntKind (i64 u64 u8)
abbrev bwP:List PK:=[PK.bw (Ty.nm 0)]
abbrev byR:List RK:=[RK.own 5 (Ty.int u8)]
theorem qyn {v:Vec}(h:Fit v):F48.run qcz Rk1 4000000 (v,())=some ((q8w (q0z v.ints),()),(v,())):=by
 obtain⟨r1,r2⟩:=qap h.okL (by have:=h.ints;omega)
 have:=h.ints
 rw[show F48.run qcz Rk1 4000000 (v,())=_ from(F48_run _ _).trans (F48c1_eq 3999999 _),qpb (by omega),oB]
 dsimp only
 rw[qv4 r1 (by omega),oB]
theorem qyo {v:Vec}(h:Fit v):F51.run qcz Rk1 4000000 (v,())=some ((frE v.ints,()),(v,())):=by
 have:=h.ints
 rw[show F51.run qcz Rk1 4000000 (v,())=_ from(F51_run _ _).trans (F51c1_eq 3999999 _),qei (by omega) h.okL,oB]
theorem qyp {v:Vec}(h:Fit v):F53.run qcz Rk1 4000000 (v,())=some ((dlE v.ints,()),(v,())):=by
 have:=h.ints
 rw[show F53.run qcz Rk1 4000000 (v,())=_ from(F53_run _ _).trans (F53c1_eq 3999999 _),qjk (by omega) h.okL,oB]
theorem qyq {v:Vec}(h:Fit v):F55.run qcz Rk1 4000000 (v,())=some ((q7q v.texts,()),(v,())):=by
 have:=h.texts
 rw[show F55.run qcz Rk1 4000000 (v,())=_ from(F55_run _ _).trans (F55c1_eq 3999999 _),qm0 (by omega) h.okT,oB]
theorem qyr {v:Vec}(h:Fit v):F57.run qcz Rk1 4000000 (v,())=some ((fcB v.texts v.texts.length,()),(v,())):=by
 have:=h.texts
 rw[show F57.run qcz Rk1 4000000 (v,())=_ from(F57_run _ _).trans (F57c1_eq 3999999 _),qt9 (by omega) h.okT,oB]
theorem qys {v:Vec}(h:Fit v):F59.run qcz Rk1 4000000 (v,())=some ((plE v,()),(v,())):=by
 have:=h.texts
 have:=h.ints
 rw[show F59.run qcz Rk1 4000000 (v,())=_ from(F59_run _ _).trans (F59c1_eq 3999999 _),qur (by omega) (by omega) h.okT,oB]
theorem q1s {v:Vec}(h:okV v=true):1<=v.f_Type/\v.f_Type<=3/\v.nulls.length<=65536/\q25 v=true/\q4m v v.nulls.length 0=true:=by
 unfold okV at h
 simp only[Bool.and_eq_true,decide_eq_true_eq]at h
 exact⟨h.1,h.2.1,h.2.2.1,h.2.2.2.1,h.2.2.2.2⟩
theorem qag {v:Vec}:∀(d i:Nat),q4m v d i=true->∀j,i<=j->j<i+d->qw6 v j=true
 |0,i,_,j,h1,h2=>by omega
 |d+1,i,h,j,h1,h2=>by
  unfold q4m at h
  simp only[Bool.and_eq_true]at h
  rcases Nat.lt_or_ge i j with h'|h'
  ·exact qag d (i+1) h.2 j (by omega) (by omega)
  ·rw[show j=i by omega];exact h.1
theorem qi4 {v:Vec}(h:okV v=true)(hs:vsz v<=10000)(hx:okL v.ints):Fit v:=by
 obtain⟨h1,h2,h3,h4,h5⟩:=q1s h
 obtain⟨l1,l2⟩:=q38 h4
 unfold vsz at hs
 refine⟨by omega,by omega,hx,fun s hm=>?_⟩
 by_cases t3:v.f_Type=3
 ·obtain⟨j,hj,rfl⟩:=List.mem_iff_getElem.1 hm
  have:=qag _ _ h5 j (by omega) (by have:=(l1 t3).2;omega)
  unfold qw6 at this
  rw[dT t3,gQ (l:=v.texts),gE hj]at this
  simp only[Bool.and_eq_true,nT,Bool.false_or,decide_eq_true_eq]at this
  exact this.2.2
 ·have:v.texts=[]:=List.eq_nil_of_length_eq_zero (l2 t3).1
  rw[this]at hm
  cases hm
def qqd (v:Vec)(k:Int):List Int×Int:=
 if okV v=false then([],1)else if k<0 then([],1)else if 5<k then([],1)else if app k v.f_Type=false then([],7)else(k::q0h v k,0)
theorem z106 {k:Int}(h1:0<=k)(h2:k<=5):u8.wrap k=k:=q1y h1 (by omega)
theorem qe2 {v:Vec}{k:Int}(hF:okV v=true->Fit v)(hx:okL v.ints):F11.run Pkn qwf 4000000 (v,k,())=some (((qqd v k).1,((qqd v k).2,())),()):=by
 rw[show F11.run Pkn qwf 4000000 (v,k,())=_ from(F11_run _ _ _).trans (F11c1_eq 3999999 _ _),z14f hx,oB]
 dsimp only
 unfold qqd
 cases hv:okV v with
 |false=>rfl
 | true=>
  have hF:=hF hv
  obtain⟨t1,t2,_⟩:=q1s hv
  rw[if_neg (by decide),nT,cF]
  by_cases h0:k<0
  ·rw[dT h0,cT,if_pos h0]
  by_cases h5:5<k
  ·rw[dF h0,cF,dT h5,cT,if_neg h0,if_pos h5]
  rw[dF h0,cF,dF h5,cF,if_neg h0,if_neg h5,F11c3_eq (n:=3999998),qlt (by omega) (by omega) t1 t2,oB]
  dsimp only
  cases ha:app k v.f_Type with
  |false=>rfl
  | true=>
   have hl:=q9x hF k
   have hu:=z106 (k:=k) (by omega) (by omega)
   rw[if_neg (by decide),nT,cF,hu]
   rcases six (k:=k) (by omega) (by omega)with hk|hk|hk|hk|hk|hk
   ·have hb:q0h v k=plE v:=by unfold q0h;rw[if_pos hk]
    rw[dF (show¬k=1 by omega),cF,dF (show¬k=2 by omega),cF,dF (show¬k=3 by omega),cF,dF (show¬k=4 by omega),cF,dF (show¬k=5 by omega),cF,qys hF,oB,<-hb]
    dsimp only
    rw[if_pos (by simp only[lim];omega)]
    rfl
   ·have hb:q0h v k=q8w (q0z v.ints):=by unfold q0h;rw[if_neg (by omega),if_pos hk]
    rw[dT (show k=1 from hk),cT,qyn hF,oB,<-hb]
    dsimp only
    rw[if_pos (by simp only[lim];omega)]
    rfl
   ·have hb:q0h v k=frE v.ints:=by unfold q0h;rw[if_neg (by omega),if_neg (by omega),if_pos hk]
    rw[dF (show¬k=1 by omega),cF,dT (show k=2 from hk),cT,qyo hF,oB,<-hb]
    dsimp only
    rw[if_pos (by simp only[lim];omega)]
    rfl
   ·have hb:q0h v k=dlE v.ints:=by unfold q0h;rw[if_neg (by omega),if_neg (by omega),if_neg (by omega),if_pos hk]
    rw[dF (show¬k=1 by omega),cF,dF (show¬k=2 by omega),cF,dT (show k=3 from hk),cT,qyp hF,oB,<-hb]
    dsimp only
    rw[if_pos (by simp only[lim];omega)]
    rfl
   ·have hb:q0h v k=q7q v.texts:=by unfold q0h;rw[if_neg (by omega),if_neg (by omega),if_neg (by omega),if_neg (by omega),if_pos hk]
    rw[dF (show¬k=1 by omega),cF,dF (show¬k=2 by omega),cF,dF (show¬k=3 by omega),cF,dT (show k=4 from hk),cT,qyq hF,oB,<-hb]
    dsimp only
    rw[if_pos (by simp only[lim];omega)]
    rfl
   ·have hb:q0h v k=fcB v.texts v.texts.length:=by unfold q0h;rw[if_neg (by omega),if_neg (by omega),if_neg (by omega),if_neg (by omega),if_neg (by omega)]
    rw[dF (show¬k=1 by omega),cF,dF (show¬k=2 by omega),cF,dF (show¬k=3 by omega),cF,dF (show¬k=4 by omega),cF,dT (show k=5 from hk),cT,qyr hF,oB,<-hb]
    dsimp only
    rw[if_pos (by simp only[lim];omega)]
    rfl
theorem q68 {v:Vec}{k:Int}(hs:vsz v<=10000)(hx:okL v.ints):F11.run Pkn qwf 4000000 (v,k,())=some (((qqd v k).1,((qqd v k).2,())),()):=
 qe2 (fun h=>qi4 h hs hx) hx
end Go.Proofs.Tryz
