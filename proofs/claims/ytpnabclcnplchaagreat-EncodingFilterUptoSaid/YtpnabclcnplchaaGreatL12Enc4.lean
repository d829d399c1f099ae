/- Law 12: Encode, Costs and Choose, of the program and of the reference. -/
import Derived.Test.YtpnabclcnplchaaGreatL12Enc3
set_option linter.unusedVariables false
set_option linter.unusedSimpArgs false
namespace Go.Proofs.Tryz
open Go.Eng
open IntKind (i64 u64 u8)
abbrev bwP:List PK:=[PK.bw (Ty.nm 0)]
abbrev byR:List RK:=[RK.own 5 (Ty.int u8)]
theorem qyh {v:Vec}(h:Fit v):F48.run qcw Rk1 4000000 (v,())=some ((q9m (q0z v.ints),()),(v,())):=by
 obtain⟨r1,r2⟩:=qan h.okL (by have:=h.ints;omega)
 have:=h.ints
 rw[show F48.run qcw Rk1 4000000 (v,())=_ from(F48_run _ _).trans (F48c1_eq 3999999 _),qp3 (by omega),oB]
 dsimp only
 rw[quw r1 (by omega),oB]
theorem qyi {v:Vec}(h:Fit v):F51.run qcw Rk1 4000000 (v,())=some ((frE v.ints,()),(v,())):=by
 have:=h.ints
 rw[show F51.run qcw Rk1 4000000 (v,())=_ from(F51_run _ _).trans (F51c1_eq 3999999 _),qec (by omega) h.okL,oB]
theorem qyj {v:Vec}(h:Fit v):F53.run qcw Rk1 4000000 (v,())=some ((dlE v.ints,()),(v,())):=by
 have:=h.ints
 rw[show F53.run qcw Rk1 4000000 (v,())=_ from(F53_run _ _).trans (F53c1_eq 3999999 _),qja (by omega) h.okL,oB]
theorem qyk {v:Vec}(h:Fit v):F55.run qcw Rk1 4000000 (v,())=some ((q8r v.texts,()),(v,())):=by
 have:=h.texts
 rw[show F55.run qcw Rk1 4000000 (v,())=_ from(F55_run _ _).trans (F55c1_eq 3999999 _),qls (by omega) h.okT,oB]
theorem qyl {v:Vec}(h:Fit v):F57.run qcw Rk1 4000000 (v,())=some ((fcB v.texts v.texts.length,()),(v,())):=by
 have:=h.texts
 rw[show F57.run qcw Rk1 4000000 (v,())=_ from(F57_run _ _).trans (F57c1_eq 3999999 _),qst (by omega) h.okT,oB]
theorem qym {v:Vec}(h:Fit v):F59.run qcw Rk1 4000000 (v,())=some ((plE v,()),(v,())):=by
 have:=h.texts
 have:=h.ints
 rw[show F59.run qcw Rk1 4000000 (v,())=_ from(F59_run _ _).trans (F59c1_eq 3999999 _),qui (by omega) (by omega) h.okT,oB]
theorem q1r {v:Vec}(h:okV v=true):1<=v.f_Type/\v.f_Type<=3/\v.nulls.length<=65536/\q4m v=true/\q75 v v.nulls.length 0=true:=by
 unfold okV at h
 simp only[Bool.and_eq_true,decide_eq_true_eq]at h
 exact⟨h.1,h.2.1,h.2.2.1,h.2.2.2.1,h.2.2.2.2⟩
theorem qae {v:Vec}:∀(d i:Nat),q75 v d i=true->∀j,i<=j->j<i+d->qxh v j=true
 |0,i,_,j,h1,h2=>by omega
 |d+1,i,h,j,h1,h2=>by
  unfold q75 at h
  simp only[Bool.and_eq_true]at h
  rcases Nat.lt_or_ge i j with h'|h'
  ·exact qae d (i+1) h.2 j (by omega) (by omega)
  ·rw[show j=i by omega];exact h.1
theorem qu6 {v:Vec}(h:okV v=true)(hs:vsz v<=10000)(hx:okL v.ints):Fit v:=by
 obtain⟨h1,h2,h3,h4,h5⟩:=q1r h
 obtain⟨l1,l2⟩:=q3v h4
 unfold vsz at hs
 refine⟨by omega,by omega,hx,fun s hm=>?_⟩
 by_cases t3:v.f_Type=3
 ·obtain⟨j,hj,rfl⟩:=List.mem_iff_getElem.1 hm
  have:=qae _ _ h5 j (by omega) (by have:=(l1 t3).2;omega)
  unfold qxh at this
  rw[dT t3,gQ (l:=v.texts),gE hj]at this
  simp only[Bool.and_eq_true,nT,Bool.false_or,decide_eq_true_eq]at this
  exact this.2.2
 ·have:v.texts=[]:=List.eq_nil_of_length_eq_zero (l2 t3).1
  rw[this]at hm
  cases hm
def qvv (v:Vec)(k:Int):List Int×Int:=
 if okV v=false then([],1)else if k<0 then([],1)else if 5<k then([],1)else if app k v.f_Type=false then([],7)else(k::q0n v k,0)
theorem z103 {k:Int}(h1:0<=k)(h2:k<=5):u8.wrap k=k:=q1x h1 (by omega)
theorem qdx {v:Vec}{k:Int}(hF:okV v=true->Fit v)(hx:okL v.ints):F11.run Pkp Rk1f 4000000 (v,k,())=some (((qvv v k).1,((qvv v k).2,())),()):=by
 rw[show F11.run Pkp Rk1f 4000000 (v,k,())=_ from(F11_run _ _ _).trans (F11c1_eq 3999999 _ _),z14v hx,oB]
 dsimp only
 unfold qvv
 cases hv:okV v with
 |false=>rfl
 | true=>
  have hF:=hF hv
  obtain⟨t1,t2,_⟩:=q1r hv
  rw[if_neg (by decide),nT,cF]
  by_cases h0:k<0
  ·rw[dT h0,cT,if_pos h0]
  by_cases h5:5<k
  ·rw[dF h0,cF,dT h5,cT,if_neg h0,if_pos h5]
  rw[dF h0,cF,dF h5,cF,if_neg h0,if_neg h5,F11c3_eq (n:=3999998),qlm (by omega) (by omega) t1 t2,oB]
  dsimp only
  cases ha:app k v.f_Type with
  |false=>rfl
  | true=>
   have hl:=qdo hF k
   have hu:=z103 (k:=k) (by omega) (by omega)
   rw[if_neg (by decide),nT,cF,hu]
   rcases six (k:=k) (by omega) (by omega)with hk|hk|hk|hk|hk|hk
   ·have hb:q0n v k=plE v:=by unfold q0n;rw[if_pos hk]
    rw[dF (show¬k=1 by omega),cF,dF (show¬k=2 by omega),cF,dF (show¬k=3 by omega),cF,dF (show¬k=4 by omega),cF,dF (show¬k=5 by omega),cF,qym hF,oB,<-hb]
    dsimp only
    rw[if_pos (by simp only[lim];omega)]
    rfl
   ·have hb:q0n v k=q9m (q0z v.ints):=by unfold q0n;rw[if_neg (by omega),if_pos hk]
    rw[dT (show k=1 from hk),cT,qyh hF,oB,<-hb]
    dsimp only
    rw[if_pos (by simp only[lim];omega)]
    rfl
   ·have hb:q0n v k=frE v.ints:=by unfold q0n;rw[if_neg (by omega),if_neg (by omega),if_pos hk]
    rw[dF (show¬k=1 by omega),cF,dT (show k=2 from hk),cT,qyi hF,oB,<-hb]
    dsimp only
    rw[if_pos (by simp only[lim];omega)]
    rfl
   ·have hb:q0n v k=dlE v.ints:=by unfold q0n;rw[if_neg (by omega),if_neg (by omega),if_neg (by omega),if_pos hk]
    rw[dF (show¬k=1 by omega),cF,dF (show¬k=2 by omega),cF,dT (show k=3 from hk),cT,qyj hF,oB,<-hb]
    dsimp only
    rw[if_pos (by simp only[lim];omega)]
    rfl
   ·have hb:q0n v k=q8r v.texts:=by unfold q0n;rw[if_neg (by omega),if_neg (by omega),if_neg (by omega),if_neg (by omega),if_pos hk]
    rw[dF (show¬k=1 by omega),cF,dF (show¬k=2 by omega),cF,dF (show¬k=3 by omega),cF,dT (show k=4 from hk),cT,qyk hF,oB,<-hb]
    dsimp only
    rw[if_pos (by simp only[lim];omega)]
    rfl
   ·have hb:q0n v k=fcB v.texts v.texts.length:=by unfold q0n;rw[if_neg (by omega),if_neg (by omega),if_neg (by omega),if_neg (by omega),if_neg (by omega)]
    rw[dF (show¬k=1 by omega),cF,dF (show¬k=2 by omega),cF,dF (show¬k=3 by omega),cF,dF (show¬k=4 by omega),cF,dT (show k=5 from hk),cT,qyl hF,oB,<-hb]
    dsimp only
    rw[if_pos (by simp only[lim];omega)]
    rfl
theorem qbb {v:Vec}{k:Int}(hs:vsz v<=10000)(hx:okL v.ints):F11.run Pkp Rk1f 4000000 (v,k,())=some (((qvv v k).1,((qvv v k).2,())),()):=
 qdx (fun h=>qu6 h hs hx) hx
end Go.Proofs.Tryz
