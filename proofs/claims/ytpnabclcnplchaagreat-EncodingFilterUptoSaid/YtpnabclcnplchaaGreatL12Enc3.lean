/- Law 12: vectors, encoded. -/
import Derived.Test.YtpnabclcnplchaaGreatL12Vec
set_option linter.unusedVariables false
set_option linter.unusedSimpArgs false
namespace Go.Proofs.Tryz
open Go.Eng
open IntKind (i64 u64 u8)
/-! Which encodings apply. -/
def app (k t:Int):Bool:=if k=0 then true else if k<=3 then !decide (t=3)else decide (t=3)
theorem six {k:Int}(h1:0<=k)(h2:k<=5):k=0\/k=1\/k=2\/k=3\/k=4\/k=5:=by omega
theorem z18n {t:Int}(h1:1<=t)(h2:t<=3):t=1\/t=2\/t=3:=by omega
theorem qlm {k t:Int}(h1:0<=k)(h2:k<=5)(h3:1<=t)(h4:t<=3):F38.run Pk9 Rkl 4000000 (k,t,())=some ((app k t,()),()):=by
 rw[show F38.run Pk9 Rkl 4000000 (k,t,())=_ from F38_run _ _ _]
 rcases six h1 h2 with rfl|rfl|rfl|rfl|rfl|rfl<;>rcases z18n h3 h4 with rfl|rfl|rfl<;>rfl
theorem qxm {k t:Int}(h1:0<=k)(h2:k<=5)(h3:1<=t)(h4:t<=3):F25.run Pk9 Rkl 4000000 (t,k,())=some ((app k t,()),()):=by
 rw[show F25.run Pk9 Rkl 4000000 (t,k,())=_ from F25_run _ _ _]
 rcases six h1 h2 with rfl|rfl|rfl|rfl|rfl|rfl<;>rcases z18n h3 h4 with rfl|rfl|rfl<;>rfl
/-! The size of a vector. -/
def tl (v:Vec):Nat->Nat
 |0=>0
 |i+1=>tl v i+(v.texts.getD i []).length
def vsz (v:Vec):Nat:=v.ints.length+v.texts.length+v.nulls.length+tl v v.texts.length
/-! Plain values. -/
def nmB (l:List Int):Nat->List Int
 |0=>[]
 |i+1=>nmB l i++fx (u64.wrap (l.getD i 0)).toNat
def txB (l:List (List Int)):Nat->List Int
 |0=>[]
 |i+1=>txB l i++q0f (l.getD i []).length++l.getD i []
theorem q82 (l:List Int):∀i,(nmB l i).length=8*i
 |0=>by simp[nmB]
 |i+1=>by
  have:=q82 l i
  unfold nmB
  rw[lA,qo7]
  omega
theorem qig {l:List (List Int)}(ht:okT l):∀i,(txB l i).length<=4106*i
 |0=>by simp[txB]
 |i+1=>by
  have h1:=qig ht i
  have h2:=q5y ht i
  have h3:=q03 (x:=(l.getD i []).length) (by omega)
  unfold txB
  simp only[lA]
  omega
theorem qkc {l:List Int}(hl:l.length<=50000):∀(d i n:Nat),l.length-i=d->i<=l.length->d<n->F60c13 n l (l.length:Int) (i:Int) (nmB l i)=some ((nmB l l.length,()),())
 |0,i,n,hd,hi',hn=>by
  obtain⟨n,rfl⟩:∃n',n=n'+1:=⟨n-1,by omega⟩
  have:i=l.length:=by omega
  subst this
  rw[F60c13_eq,dF (by omega),cF]
 |d+1,i,n,hd,hi',hn=>by
  obtain⟨n,rfl⟩:∃n',n=n'+1:=⟨n-1,by omega⟩
  have ih:=qkc hl d (i+1) n (by omega) (by omega) (by omega)
  have h1:=q82 l i
  rw[show nmB l (i+1)=nmB l i++fx (u64.wrap (l.getD i 0)).toNat from rfl]at ih
  obtain⟨x,x1,x2⟩:=qih (l.getD i 0)
  rw[x1,tN]at ih
  have h2:=qo7 x
  rw[F60c13_eq,dT (by omega),cT,if_pos (by omega),if_pos (by omega),tN,x1,qso,oB]
  dsimp only
  rw[if_pos (by simp only[lim];omega),q00 (by omega) (by omega)]
  exact ih
theorem qkd {l:List (List Int)}(hl:l.length<=50000)(ht:okT l):∀(d i n:Nat),l.length-i=d->i<=l.length->d<n->F60c20 n l (l.length:Int) (i:Int) (txB l i)=some ((txB l l.length,()),())
 |0,i,n,hd,hi',hn=>by
  obtain⟨n,rfl⟩:∃n',n=n'+1:=⟨n-1,by omega⟩
  have:i=l.length:=by omega
  subst this
  rw[F60c20_eq,dF (by omega),cF]
 |d+1,i,n,hd,hi',hn=>by
  obtain⟨n,rfl⟩:∃n',n=n'+1:=⟨n-1,by omega⟩
  have ih:=qkd hl ht d (i+1) n (by omega) (by omega) (by omega)
  have h1:=qig ht i
  have h2:=q5y ht i
  have h3:=q03 (x:=(l.getD i []).length) (by omega)
  rw[show txB l (i+1)=txB l i++q0f (l.getD i []).length++l.getD i []from rfl]at ih
  rw[F60c20_eq,dT (by omega),cT,if_pos (by omega),if_pos (by omega),tN,q01 (z:=((l.getD i []).length:Int)) (by omega) (by omega),q2e (by omega),oB]
  dsimp only
  rw[if_pos (by simp only[lim];omega),if_pos (by simp only[lim,lA];omega),q00 (by omega) (by omega)]
  exact ih
def plE (v:Vec):List Int:=if v.f_Type=1 then q21 (us v.ints) 1 else if v.f_Type=2 then nmB v.ints v.ints.length else txB v.texts v.texts.length
theorem qui {v:Vec}(hi:v.ints.length<=50000)(htl:v.texts.length<=50000)(ht:okT v.texts):F60.run qle Rk1 4000000 (v,())=some ((plE v,()),()):=by
 rw[show F60.run qle Rk1 4000000 (v,())=_ from(F60_run _ _).trans (F60c1_eq 3999999 _)]
 unfold plE
 by_cases t1:v.f_Type=1
 ·rw[if_pos t1,dT t1,cT,if_pos (by simp only[lim];omega),tN,<-q6t (us1 v.ints)]
  exact qom hi v.ints.length 0 3999999 (by omega) (by omega) (by omega)
 ·rw[if_neg t1,dF t1,cF]
  by_cases t2:v.f_Type=2
  ·rw[if_pos t2,dT t2,cT]
   exact qkc hi v.ints.length 0 3999999 (by omega) (by omega) (by omega)
  ·rw[if_neg t2,dF t2,cF]
   exact qkd htl ht v.texts.length 0 3999999 (by omega) (by omega) (by omega)
/-! The reference's plain values. -/
theorem qzw {l:List Int}(hl:l.length<=50000):∀(d i n:Nat),l.length-i=d->i<=l.length->d<n->F106c3 n l (i:Int) ((List.range i).map (us1 l))=some ((us l,()),())
 |0,i,n,hd,hi',hn=>by
  obtain⟨n,rfl⟩:∃n',n=n'+1:=⟨n-1,by omega⟩
  have:i=l.length:=by omega
  subst this
  rw[F106c3_eq,dF (by omega),cF]
  rfl
 |d+1,i,n,hd,hi',hn=>by
  obtain⟨n,rfl⟩:∃n',n=n'+1:=⟨n-1,by omega⟩
  have ih:=qzw hl d (i+1) n (by omega) (by omega) (by omega)
  rw[List.range_succ,List.map_append]at ih
  rw[F106c3_eq,dT (by omega),cT,if_pos (by omega),if_pos (by omega),if_pos (by simp only[List.length_map,List.length_range,lim];omega),tN,q00 (by omega) (by omega)]
  exact ih
theorem z13a {l:List Int}(hl:l.length<=50000):F106.run Pke Rk31 4000000 (l,())=some ((us l,()),()):=by
 rw[show F106.run Pke Rk31 4000000 (l,())=_ from(F106_run _ _).trans (F106c1_eq 3999999 _)]
 exact qzw hl l.length 0 3999999 (by omega) (by omega) (by omega)
theorem qkr {v:Vec}(hl:v.texts.length<=50000)(ht:okT v.texts){A:List Int}(hA:A.length<=500000):∀(d i n:Nat),v.texts.length-i=d->i<=v.texts.length->d<n->F61c9 n (i:Int) v (A++txB v.texts i)=some ((A++txB v.texts v.texts.length,()),())
 |0,i,n,hd,hi',hn=>by
  obtain⟨n,rfl⟩:∃n',n=n'+1:=⟨n-1,by omega⟩
  have:i=v.texts.length:=by omega
  subst this
  rw[F61c9_eq,dF (by omega),cF]
 |d+1,i,n,hd,hi',hn=>by
  obtain⟨n,rfl⟩:∃n',n=n'+1:=⟨n-1,by omega⟩
  have ih:=qkr hl ht hA d (i+1) n (by omega) (by omega) (by omega)
  have h1:=qig ht i
  have h2:=q5y ht i
  have h3:=q03 (x:=(v.texts.getD i []).length) (by omega)
  rw[show txB v.texts (i+1)=txB v.texts i++q0f (v.texts.getD i []).length++v.texts.getD i []from rfl,<-aA,<-aA]at ih
  rw[F61c9_eq,dT (by omega),cT]
  simp only[if_pos (show(0:Int)<=(i:Int) by omega),if_pos (show(i:Int)<(v.texts.length:Int) by omega),tN]
  rw[q01 (z:=((v.texts.getD i []).length:Int)) (by omega) (by omega),q18 (by omega),oB]
  dsimp only
  rw[if_pos (by simp only[lim,lA];omega),if_pos (by simp only[lim,lA];omega),q00 (by omega) (by omega)]
  exact ih
theorem qkq {v:Vec}(hi:v.ints.length<=50000)(hl:v.texts.length<=50000)(ht:okT v.texts):∀(d i n:Nat),v.ints.length-i=d->i<=v.ints.length->d+v.texts.length+2<n->F61c5 n (i:Int) v (nmB v.ints i)=some ((nmB v.ints v.ints.length++txB v.texts v.texts.length,()),())
 |0,i,n,hd,hi',hn=>by
  obtain⟨n,rfl⟩:∃n',n=n'+1:=⟨n-1,by omega⟩
  have:i=v.ints.length:=by omega
  subst this
  have h1:=q82 v.ints v.ints.length
  have h9:=qkr hl ht (A:=nmB v.ints v.ints.length) (by omega) v.texts.length 0 n (by omega) (by omega) (by omega)
  rw[show txB v.texts 0=[]from rfl,List.append_nil]at h9
  rw[F61c5_eq,dF (by omega),cF]
  exact h9
 |d+1,i,n,hd,hi',hn=>by
  obtain⟨n,rfl⟩:∃n',n=n'+1:=⟨n-1,by omega⟩
  have ih:=qkq hi hl ht d (i+1) n (by omega) (by omega) (by omega)
  have h1:=q82 v.ints i
  rw[show nmB v.ints (i+1)=nmB v.ints i++fx (u64.wrap (v.ints.getD i 0)).toNat from rfl]at ih
  obtain⟨x,x1,x2⟩:=qih (v.ints.getD i 0)
  rw[x1,tN]at ih
  have h2:=qo7 x
  rw[F61c5_eq,dT (by omega),cT,if_pos (by omega),if_pos (by omega),tN,x1,qqp x2,oB]
  dsimp only
  rw[if_pos (by simp only[lim];omega),q00 (by omega) (by omega)]
  exact ih
theorem qqt {v:Vec}(h1:1<=v.f_Type)(h3:v.f_Type<=3)(hL:q4m v=true)(hi:v.ints.length<=50000)(hl:v.texts.length<=50000)(ht:okT v.texts):F61.run qle Rk1 4000000 (v,())=some ((plE v,()),()):=by
 obtain⟨l1,l2⟩:=q3v hL
 rw[show F61.run qle Rk1 4000000 (v,())=_ from(F61_run _ _).trans (F61c1_eq 3999999 _)]
 unfold plE
 by_cases t1:v.f_Type=1
 ·rw[if_pos t1,dT t1,cT,z13a hi,oB]
  dsimp only
  rw[show F105.run Pkq Rk1 4000000 (us v.ints,(1:Int),())=_ from qf0 (z104 v.ints) (w:=1) (by omega) (by rw[qax];omega),oB]
 ·have h5:=qkq hi hl ht v.ints.length 0 3999999 (by omega) (by omega) (by omega)
  rw[if_neg t1,dF t1,cF]
  by_cases t2:v.f_Type=2
  ·rw[if_pos t2]
   have:=(l2 (by omega)).1
   rw[show v.texts.length=0 from this,show txB v.texts 0=[]from rfl,List.append_nil]at h5
   exact h5
  ·rw[if_neg t2]
   have:=(l1 (by omega)).1
   rw[show v.ints.length=0 from this,show nmB v.ints 0=[]from rfl,List.nil_append]at h5
   exact h5
/-! The bytes behind the first. -/
theorem qan {l:List Int}(hx:okL l)(hl:l.length<=1000000):okR (q0z l)/\(q0z l).length<=l.length:=by
 have h:=qce (l:=l) l.length (nR _)
 rw[List.take_length]at h
 refine⟨fun j hj=>?_,h.len⟩
 obtain⟨k,k1,k2⟩:=h.val j hj
 have:=q4g hx k1
 have:=h.cnt j hj
 rw[k2]
 omega
def q0n (v:Vec)(k:Int):List Int:=
 if k=0 then plE v else if k=1 then q9m (q0z v.ints)else if k=2 then frE v.ints else if k=3 then dlE v.ints else if k=4 then q8r v.texts else fcB v.texts v.texts.length
structure Fit (v:Vec):Prop where
 ints:v.ints.length<=10000
 texts:v.texts.length<=10000
 okL:okL v.ints
 okT:okT v.texts
theorem qor {l:List Run}(hok:okR l)(hl:l.length<=100000):(q9m l).length<=20*l.length+10:=by
 have h1:=qam l 0 (qmp hok)
 have h2:=q03 (x:=l.length) (by omega)
 rw[q9m,lA]
 omega
theorem z12z {v:Vec}(h:Fit v):(plE v).length<=50000000:=by
 have a:=h.ints
 have b:=h.texts
 unfold plE
 split
 ·have:=qah (D:=us v.ints) (by rw[qax];omega) (w:=1) (by omega)
  omega
 ·split
  ·have:=q82 v.ints v.ints.length
   omega
  ·have:=qig h.okT v.texts.length
   omega
theorem qwm {l:List (List Int)}(hl:l.length<=10000)(ht:okT l):(q8r l).length<=60000000:=by
 have hwl:=q24 l
 have h1:=q03 (x:=(words l).length) (by omega)
 have h2:=qby (W:=words l) fun w hw=>ht _ ((q4b l _).1 hw)
 obtain⟨hok,hrl⟩:=qdc (l:=l) (by omega)
 have h3:=qor hok (by omega)
 have hcw:=qs1 (x:=(words l).length) (by omega)
 have hcl:=q49 l
 have h4:=qah (D:=q0k l) (by omega) (w:=cw (words l).length) (by omega)
 unfold q8r qbv
 split
 ·simp only[lA,lC];omega
 ·simp only[lA,lC];omega
theorem qdo {v:Vec}(h:Fit v)(k:Int):(q0n v k).length<=60000000:=by
 have a:=h.ints
 have b:=h.texts
 unfold q0n
 split
 ·have:=z12z h;omega
 ·split
  ·obtain⟨r1,r2⟩:=qan h.okL (by omega)
   have:=qor r1 (by omega)
   omega
  ·split
   ·have:=qeb (l:=v.ints) (by omega) h.okL;omega
   ·split
    ·have:=z10u (l:=v.ints) (by omega) h.okL;omega
    ·split
     ·exact qwm b h.okT
     ·have:=qhk h.okT v.texts.length;omega
end Go.Proofs.Tryz
