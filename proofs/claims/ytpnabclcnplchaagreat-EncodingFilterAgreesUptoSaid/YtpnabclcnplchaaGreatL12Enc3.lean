/- Law 12: vectors, encoded. -/
import Derived.Test.YtpnabclcnplchaaGreatL12Vec
set_option linter.unusedVariables false
set_option linter.unusedSimpArgs false
namespace Go.Proofs.Tryz
open Go.Eng
open IntKind (i64 u64 u8)
/-! Which encodings apply. -/
def app (k t:Int):Bool:=if k=0 then true else if k<=3 then !decide (t=3)else decide (t=3)
theorem six {k:Int}(h1:0<=k)(h2:k<=5):k=0\/k=1\/k=2\/k=3\/k=4\/k=5:=by omega
theorem z17f {t:Int}(h1:1<=t)(h2:t<=3):t=1\/t=2\/t=3:=by omega
theorem qlt {k t:Int}(h1:0<=k)(h2:k<=5)(h3:1<=t)(h4:t<=3):F38.run Pk9 Rkh 4000000 (k,t,())=some ((app k t,()),()):=by
 rw[show F38.run Pk9 Rkh 4000000 (k,t,())=_ from F38_run _ _ _]
 rcases six h1 h2 with rfl|rfl|rfl|rfl|rfl|rfl<;>rcases z17f h3 h4 with rfl|rfl|rfl<;>rfl
theorem qxv {k t:Int}(h1:0<=k)(h2:k<=5)(h3:1<=t)(h4:t<=3):F25.run Pk9 Rkh 4000000 (t,k,())=some ((app k t,()),()):=by
 rw[show F25.run Pk9 Rkh 4000000 (t,k,())=_ from F25_run _ _ _]
 rcases six h1 h2 with rfl|rfl|rfl|rfl|rfl|rfl<;>rcases z17f h3 h4 with rfl|rfl|rfl<;>rfl
/-! The size of a vector. -/
def tl (v:Vec):Nat->Nat
 |0=>0
 |i+1=>tl v i+(v.texts.getD i []).length
def vsz (v:Vec):Nat:=v.ints.length+v.texts.length+v.nulls.length+tl v v.texts.length
theorem qvm (v:Vec):∀{i j:Nat},i<=j->tl v i<=tl v j
 |i,0,h=>by rw[show i=0 by omega];exact nR _
 | i,j+1,h=>by
  rcases Nat.lt_or_ge i (j+1)with h'|h'
  ·have:=qvm v (i:=i) (j:=j) (by omega)
   rw[show tl v (j+1)=tl v j+(v.texts.getD j []).length from rfl]
   omega
  ·rw[show i=j+1 by omega];exact nR _
theorem qpj {v:Vec}(hs:vsz v<4611686018427387904)(hl:v.texts.length<=3000000):∀(d i n:Nat),v.texts.length-i=d->i<=v.texts.length->d<n->
  F9c3 n ((v.ints.length+v.texts.length+v.nulls.length+tl v i:Nat):Int) (i:Int) v=some ((decide (vsz v<=10000),()),())
 |0,i,n,hd,hi',hn=>by
  obtain⟨n,rfl⟩:∃n',n=n'+1:=⟨n-1,by omega⟩
  have:i=v.texts.length:=by omega
  subst this
  rw[F9c3_eq,dF (by omega),cF]
  congr 3
  exact decide_eq_decide.2 (by unfold vsz;omega)
 | d+1,i,n,hd,hi',hn=>by
  obtain⟨n,rfl⟩:∃n',n=n'+1:=⟨n-1,by omega⟩
  have ih:=qpj hs hl d (i+1) n (by omega) (by omega) (by omega)
  have hm:=qvm v (i:=i+1) (j:=v.texts.length) (by omega)
  unfold vsz at hs
  rw[show tl v (i+1)=tl v i+(v.texts.getD i []).length from rfl]at ih hm
  rw[F9c3_eq,dT (by omega),cT,if_pos (by omega),if_pos (by omega),tN,q00 (by omega) (by omega),q00 (by omega) (by omega),
   show(((v.ints.length+v.texts.length+v.nulls.length+tl v i:Nat):Int)+((v.texts.getD i []).length:Int))=((v.ints.length+v.texts.length+v.nulls.length+(tl v i+(v.texts.getD i []).length):Nat):Int) by omega]
  exact ih
theorem qve {v:Vec}(hs:vsz v<4611686018427387904)(hl:v.texts.length<=3000000):F9.run qb7 Rkh 4000000 (v,())=some ((decide (vsz v<=10000),()),()):=by
 rw[show F9.run qb7 Rkh 4000000 (v,())=_ from F9_run _ _]
 have h:=qpj hs hl v.texts.length 0 4000000 (by omega) (by omega) (by omega)
 unfold vsz at hs
 rw[show((v.ints.length+v.texts.length+v.nulls.length+tl v 0:Nat):Int)=(v.ints.length:Int)+(v.texts.length:Int)+(v.nulls.length:Int) by simp only[tl];omega]at h
 rw[q00 (z:=(v.ints.length:Int)+(v.texts.length:Int)) (by omega) (by omega),q00 (by omega) (by omega)]
 exact h
/-! Plain values. -/
def nmB (l:List Int):Nat->List Int
 |0=>[]
 |i+1=>nmB l i++fx (u64.wrap (l.getD i 0)).toNat
def txB (l:List (List Int)):Nat->List Int
 |0=>[]
 |i+1=>txB l i++q0f (l.getD i []).length++l.getD i []
theorem q87 (l:List Int):∀i,(nmB l i).length=8*i
 |0=>by simp[nmB]
 |i+1=>by
  have:=q87 l i
  unfold nmB
  rw[lA,qod]
  omega
theorem qin {l:List (List Int)}(ht:okT l):∀i,(txB l i).length<=4106*i
 |0=>by simp[txB]
 |i+1=>by
  have h1:=qin ht i
  have h2:=q58 ht i
  have h3:=q03 (x:=(l.getD i []).length) (by omega)
  unfold txB
  simp only[lA]
  omega
theorem qkl {l:List Int}(hl:l.length<=50000):∀(d i n:Nat),l.length-i=d->i<=l.length->d<n->F60c13 n l (l.length:Int) (i:Int) (nmB l i)=some ((nmB l l.length,()),())
 |0,i,n,hd,hi',hn=>by
  obtain⟨n,rfl⟩:∃n',n=n'+1:=⟨n-1,by omega⟩
  have:i=l.length:=by omega
  subst this
  rw[F60c13_eq,dF (by omega),cF]
 |d+1,i,n,hd,hi',hn=>by
  obtain⟨n,rfl⟩:∃n',n=n'+1:=⟨n-1,by omega⟩
  have ih:=qkl hl d (i+1) n (by omega) (by omega) (by omega)
  have h1:=q87 l i
  rw[show nmB l (i+1)=nmB l i++fx (u64.wrap (l.getD i 0)).toNat from rfl]at ih
  obtain⟨x,x1,x2⟩:=qio (l.getD i 0)
  rw[x1,tN]at ih
  have h2:=qod x
  rw[F60c13_eq,dT (by omega),cT,if_pos (by omega),if_pos (by omega),tN,x1,qt4,oB]
  dsimp only
  rw[if_pos (by simp only[lim];omega),q00 (by omega) (by omega)]
  exact ih
theorem qkm {l:List (List Int)}(hl:l.length<=50000)(ht:okT l):∀(d i n:Nat),l.length-i=d->i<=l.length->d<n->F60c20 n l (l.length:Int) (i:Int) (txB l i)=some ((txB l l.length,()),())
 |0,i,n,hd,hi',hn=>by
  obtain⟨n,rfl⟩:∃n',n=n'+1:=⟨n-1,by omega⟩
  have:i=l.length:=by omega
  subst this
  rw[F60c20_eq,dF (by omega),cF]
 |d+1,i,n,hd,hi',hn=>by
  obtain⟨n,rfl⟩:∃n',n=n'+1:=⟨n-1,by omega⟩
  have ih:=qkm hl ht d (i+1) n (by omega) (by omega) (by omega)
  have h1:=qin ht i
  have h2:=q58 ht i
  have h3:=q03 (x:=(l.getD i []).length) (by omega)
  rw[show txB l (i+1)=txB l i++q0f (l.getD i []).length++l.getD i []from rfl]at ih
  rw[F60c20_eq,dT (by omega),cT,if_pos (by omega),if_pos (by omega),tN,q01 (z:=((l.getD i []).length:Int)) (by omega) (by omega),q2h (by omega),oB]
  dsimp only
  rw[if_pos (by simp only[lim];omega),if_pos (by simp only[lim,lA];omega),q00 (by omega) (by omega)]
  exact ih
def plE (v:Vec):List Int:=if v.f_Type=1 then q22 (us v.ints) 1 else if v.f_Type=2 then nmB v.ints v.ints.length else txB v.texts v.texts.length
theorem qur {v:Vec}(hi:v.ints.length<=50000)(htl:v.texts.length<=50000)(ht:okT v.texts):F60.run qb7 Rk1 4000000 (v,())=some ((plE v,()),()):=by
 rw[show F60.run qb7 Rk1 4000000 (v,())=_ from(F60_run _ _).trans (F60c1_eq 3999999 _)]
 unfold plE
 by_cases t1:v.f_Type=1
 ·rw[if_pos t1,dT t1,cT,if_pos (by simp only[lim];omega),tN,<-q6y (us1 v.ints)]
  exact qot hi v.ints.length 0 3999999 (by omega) (by omega) (by omega)
 ·rw[if_neg t1,dF t1,cF]
  by_cases t2:v.f_Type=2
  ·rw[if_pos t2,dT t2,cT]
   exact qkl hi v.ints.length 0 3999999 (by omega) (by omega) (by omega)
  ·rw[if_neg t2,dF t2,cF]
   exact qkm htl ht v.texts.length 0 3999999 (by omega) (by omega) (by omega)
/-! The reference's plain values. -/
theorem qzy {l:List Int}(hl:l.length<=50000):∀(d i n:Nat),l.length-i=d->i<=l.length->d<n->F106c3 n l (i:Int) ((List.range i).map (us1 l))=some ((us l,()),())
 |0,i,n,hd,hi',hn=>by
  obtain⟨n,rfl⟩:∃n',n=n'+1:=⟨n-1,by omega⟩
  have:i=l.length:=by omega
  subst this
  rw[F106c3_eq,dF (by omega),cF]
  rfl
 |d+1,i,n,hd,hi',hn=>by
  obtain⟨n,rfl⟩:∃n',n=n'+1:=⟨n-1,by omega⟩
  have ih:=qzy hl d (i+1) n (by omega) (by omega) (by omega)
  rw[List.range_succ,List.map_append]at ih
  rw[F106c3_eq,dT (by omega),cT,if_pos (by omega),if_pos (by omega),if_pos (by simp only[List.length_map,List.length_range,lim];omega),tN,q00 (by omega) (by omega)]
  exact ih
theorem z12r {l:List Int}(hl:l.length<=50000):F106.run Pkd Rk35 4000000 (l,())=some ((us l,()),()):=by
 rw[show F106.run Pkd Rk35 4000000 (l,())=_ from(F106_run _ _).trans (F106c1_eq 3999999 _)]
 exact qzy hl l.length 0 3999999 (by omega) (by omega) (by omega)
theorem ql0 {v:Vec}(hl:v.texts.length<=50000)(ht:okT v.texts){A:List Int}(hA:A.length<=500000):∀(d i n:Nat),v.texts.length-i=d->i<=v.texts.length->d<n->F61c9 n (i:Int) v (A++txB v.texts i)=some ((A++txB v.texts v.texts.length,()),())
 |0,i,n,hd,hi',hn=>by
  obtain⟨n,rfl⟩:∃n',n=n'+1:=⟨n-1,by omega⟩
  have:i=v.texts.length:=by omega
  subst this
  rw[F61c9_eq,dF (by omega),cF]
 |d+1,i,n,hd,hi',hn=>by
  obtain⟨n,rfl⟩:∃n',n=n'+1:=⟨n-1,by omega⟩
  have ih:=ql0 hl ht hA d (i+1) n (by omega) (by omega) (by omega)
  have h1:=qin ht i
  have h2:=q58 ht i
  have h3:=q03 (x:=(v.texts.getD i []).length) (by omega)
  rw[show txB v.texts (i+1)=txB v.texts i++q0f (v.texts.getD i []).length++v.texts.getD i []from rfl,<-aA,<-aA]at ih
  rw[F61c9_eq,dT (by omega),cT]
  simp only[if_pos (show(0:Int)<=(i:Int) by omega),if_pos (show(i:Int)<(v.texts.length:Int) by omega),tN]
  rw[q01 (z:=((v.texts.getD i []).length:Int)) (by omega) (by omega),q19 (by omega),oB]
  dsimp only
  rw[if_pos (by simp only[lim,lA];omega),if_pos (by simp only[lim,lA];omega),q00 (by omega) (by omega)]
  exact ih
theorem qkz {v:Vec}(hi:v.ints.length<=50000)(hl:v.texts.length<=50000)(ht:okT v.texts):∀(d i n:Nat),v.ints.length-i=d->i<=v.ints.length->d+v.texts.length+2<n->F61c5 n (i:Int) v (nmB v.ints i)=some ((nmB v.ints v.ints.length++txB v.texts v.texts.length,()),())
 |0,i,n,hd,hi',hn=>by
  obtain⟨n,rfl⟩:∃n',n=n'+1:=⟨n-1,by omega⟩
  have:i=v.ints.length:=by omega
  subst this
  have h1:=q87 v.ints v.ints.length
  have h9:=ql0 hl ht (A:=nmB v.ints v.ints.length) (by omega) v.texts.length 0 n (by omega) (by omega) (by omega)
  rw[show txB v.texts 0=[]from rfl,List.append_nil]at h9
  rw[F61c5_eq,dF (by omega),cF]
  exact h9
 |d+1,i,n,hd,hi',hn=>by
  obtain⟨n,rfl⟩:∃n',n=n'+1:=⟨n-1,by omega⟩
  have ih:=qkz hi hl ht d (i+1) n (by omega) (by omega) (by omega)
  have h1:=q87 v.ints i
  rw[show nmB v.ints (i+1)=nmB v.ints i++fx (u64.wrap (v.ints.getD i 0)).toNat from rfl]at ih
  obtain⟨x,x1,x2⟩:=qio (v.ints.getD i 0)
  rw[x1,tN]at ih
  have h2:=qod x
  rw[F61c5_eq,dT (by omega),cT,if_pos (by omega),if_pos (by omega),tN,x1,qr2 x2,oB]
  dsimp only
  rw[if_pos (by simp only[lim];omega),q00 (by omega) (by omega)]
  exact ih
theorem qr6 {v:Vec}(h1:1<=v.f_Type)(h3:v.f_Type<=3)(hL:q25 v=true)(hi:v.ints.length<=50000)(hl:v.texts.length<=50000)(ht:okT v.texts):F61.run qb7 Rk1 4000000 (v,())=some ((plE v,()),()):=by
 obtain⟨l1,l2⟩:=q38 hL
 rw[show F61.run qb7 Rk1 4000000 (v,())=_ from(F61_run _ _).trans (F61c1_eq 3999999 _)]
 unfold plE
 by_cases t1:v.f_Type=1
 ·rw[if_pos t1,dT t1,cT,z12r hi,oB]
  dsimp only
  rw[show F105.run Pkq Rk1 4000000 (us v.ints,(1:Int),())=_ from qf6 (z107 v.ints) (w:=1) (by omega) (by rw[qb0];omega),oB]
 ·have h5:=qkz hi hl ht v.ints.length 0 3999999 (by omega) (by omega) (by omega)
  rw[if_neg t1,dF t1,cF]
  by_cases t2:v.f_Type=2
  ·rw[if_pos t2]
   have:=(l2 (by omega)).1
   rw[show v.texts.length=0 from this,show txB v.texts 0=[]from rfl,List.append_nil]at h5
   exact h5
  ·rw[if_neg t2]
   have:=(l1 (by omega)).1
   rw[show v.ints.length=0 from this,show nmB v.ints 0=[]from rfl,List.nil_append]at h5
   exact h5
/-! The bytes behind the first. -/
theorem qap {l:List Int}(hx:okL l)(hl:l.length<=1000000):okR (q0z l)/\(q0z l).length<=l.length:=by
 have h:=qcg (l:=l) l.length (nR _)
 rw[List.take_length]at h
 refine⟨fun j hj=>?_,h.len⟩
 obtain⟨k,k1,k2⟩:=h.val j hj
 have:=q4k hx k1
 have:=h.cnt j hj
 rw[k2]
 omega
def q0h (v:Vec)(k:Int):List Int:=
 if k=0 then plE v else if k=1 then q8w (q0z v.ints)else if k=2 then frE v.ints else if k=3 then dlE v.ints else if k=4 then q7q v.texts else fcB v.texts v.texts.length
structure Fit (v:Vec):Prop where
 ints:v.ints.length<=10000
 texts:v.texts.length<=10000
 okL:okL v.ints
 okT:okT v.texts
theorem qoz {l:List Run}(hok:okR l)(hl:l.length<=100000):(q8w l).length<=20*l.length+10:=by
 have h1:=qao l 0 (qms hok)
 have h2:=q03 (x:=l.length) (by omega)
 rw[q8w,lA]
 omega
theorem z12f {v:Vec}(h:Fit v):(plE v).length<=50000000:=by
 have a:=h.ints
 have b:=h.texts
 unfold plE
 split
 ·have:=qaj (D:=us v.ints) (by rw[qb0];omega) (w:=1) (by omega)
  omega
 ·split
  ·have:=q87 v.ints v.ints.length
   omega
  ·have:=qin h.okT v.texts.length
   omega
theorem qwz {l:List (List Int)}(hl:l.length<=10000)(ht:okT l):(q7q l).length<=60000000:=by
 have hwl:=q26 l
 have h1:=q03 (x:=(words l).length) (by omega)
 have h2:=qc0 (W:=words l) fun w hw=>ht _ ((q3j l _).1 hw)
 obtain⟨hok,hrl⟩:=qdg (l:=l) (by omega)
 have h3:=qoz hok (by omega)
 have hcw:=qse (x:=(words l).length) (by omega)
 have hcl:=q4d l
 have h4:=qaj (D:=q0l l) (by omega) (w:=cw (words l).length) (by omega)
 unfold q7q qav
 split
 ·simp only[lA,lC];omega
 ·simp only[lA,lC];omega
theorem q9x {v:Vec}(h:Fit v)(k:Int):(q0h v k).length<=60000000:=by
 have a:=h.ints
 have b:=h.texts
 unfold q0h
 split
 ·have:=z12f h;omega
 ·split
  ·obtain⟨r1,r2⟩:=qap h.okL (by omega)
   have:=qoz r1 (by omega)
   omega
  ·split
   ·have:=qeh (l:=v.ints) (by omega) h.okL;omega
   ·split
    ·have:=z10v (l:=v.ints) (by omega) h.okL;omega
    ·split
     ·exact qwz b h.okT
     ·have:=qhq h.okT v.texts.length;omega
end Go.Proofs.Tryz
