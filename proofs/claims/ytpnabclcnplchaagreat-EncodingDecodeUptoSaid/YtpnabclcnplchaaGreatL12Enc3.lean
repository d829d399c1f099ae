/- Law 12: vectors, encoded. -/
import Derived.Test.YtpnabclcnplchaaGreatL12Vec
set_option linter.unusedVariables false
set_option linter.unusedSimpArgs false
namespace Go.Proofs.Tryz
open Go.Eng
/-! Which encodings apply. -/
def app (k t:Int):Bool:=if k=0 then true else if k<=3 then !decide (t=3)else decide (t=3)
theorem six {k:Int} (h1:0<=k) (h2:k<=5):k=0\/k=1\/k=2\/k=3\/k=4\/k=5:=by omega
theorem z170 {t:Int} (h1:1<=t) (h2:t<=3):t=1\/t=2\/t=3:=by omega
theorem qlb {k t:Int} (h1:0<=k) (h2:k<=5) (h3:1<=t) (h4:t<=3):F38.run Pka Rkp 4000000 (k,t,())=some ((app k t,()),()):=by
 rw[show F38.run Pka Rkp 4000000 (k,t,())=_ from F38_run _ _ _]
 rcases six h1 h2 with rfl|rfl|rfl|rfl|rfl|rfl<;>rcases z170 h3 h4 with rfl|rfl|rfl<;>rfl
theorem qwt {k t:Int} (h1:0<=k) (h2:k<=5) (h3:1<=t) (h4:t<=3):F25.run Pka Rkp 4000000 (t,k,())=some ((app k t,()),()):=by
 rw[show F25.run Pka Rkp 4000000 (t,k,())=_ from F25_run _ _ _]
 rcases six h1 h2 with rfl|rfl|rfl|rfl|rfl|rfl<;>rcases z170 h3 h4 with rfl|rfl|rfl<;>rfl
/-! The size of a vector. -/
def tl (v:Vec):Nat->Nat
 |0=>0
 |i+1=>tl v i+(v.texts.getD i []).length
def vsz (v:Vec):Nat:=v.ints.length+v.texts.length+v.nulls.length+tl v v.texts.length
/-! Plain values. -/
def nmB (l:List Int):Nat->List Int
 |0=>[]
 |i+1=>nmB l i++fx (IntKind.u64.wrap (l.getD i 0)).toNat
def txB (l:List (List Int)):Nat->List Int
 |0=>[]
 |i+1=>txB l i++q0f (l.getD i []).length++l.getD i []
theorem q81 (l:List Int):∀i,(nmB l i).length=8*i
 |0=>by simp[nmB]
 |i+1=>by
  have:=q81 l i
  unfold nmB
  rw[List.length_append,qnt]
  omega
theorem qia {l:List (List Int)} (ht:okT l):∀i,(txB l i).length<=4106*i
 |0=>by simp[txB]
 |i+1=>by
  have h1:=qia ht i
  have h2:=q5x ht i
  have h3:=q03 (x:=(l.getD i []).length) (by omega)
  unfold txB
  simp only[List.length_append]
  omega
theorem qk5 {l:List Int} (hl:l.length<=50000):∀(d i n:Nat),l.length-i=d->i<=l.length->d<n->F60c13 n l (l.length:Int) (i:Int) (nmB l i)=some ((nmB l l.length,()),())
 |0,i,n,hd,hi',hn=>by
  obtain⟨n,rfl⟩:∃n',n=n'+1:=⟨n-1,by omega⟩
  have:i=l.length:=by omega
  subst this
  rw[F60c13_eq,dF (by omega),cF]
 |d+1,i,n,hd,hi',hn=>by
  obtain⟨n,rfl⟩:∃n',n=n'+1:=⟨n-1,by omega⟩
  have ih:=qk5 hl d (i+1) n (by omega) (by omega) (by omega)
  have h1:=q81 l i
  rw[show nmB l (i+1)=nmB l i++fx (IntKind.u64.wrap (l.getD i 0)).toNat from rfl]at ih
  obtain⟨x,x1,x2⟩:=qib (l.getD i 0)
  rw[x1,tN]at ih
  have h2:=qnt x
  rw[F60c13_eq,dT (by omega),cT,if_pos (by omega),if_pos (by omega),tN,x1,qs2,oB]
  dsimp only
  rw[if_pos (by simp only[lim];omega),q00 (by omega) (by omega)]
  exact ih
theorem qk6 {l:List (List Int)} (hl:l.length<=50000) (ht:okT l):∀(d i n:Nat),l.length-i=d->i<=l.length->d<n->F60c20 n l (l.length:Int) (i:Int) (txB l i)=some ((txB l l.length,()),())
 |0,i,n,hd,hi',hn=>by
  obtain⟨n,rfl⟩:∃n',n=n'+1:=⟨n-1,by omega⟩
  have:i=l.length:=by omega
  subst this
  rw[F60c20_eq,dF (by omega),cF]
 |d+1,i,n,hd,hi',hn=>by
  obtain⟨n,rfl⟩:∃n',n=n'+1:=⟨n-1,by omega⟩
  have ih:=qk6 hl ht d (i+1) n (by omega) (by omega) (by omega)
  have h1:=qia ht i
  have h2:=q5x ht i
  have h3:=q03 (x:=(l.getD i []).length) (by omega)
  rw[show txB l (i+1)=txB l i++q0f (l.getD i []).length++l.getD i []from rfl]at ih
  rw[F60c20_eq,dT (by omega),cT,if_pos (by omega),if_pos (by omega),tN,q01 (z:=((l.getD i []).length:Int)) (by omega) (by omega),q2c (by omega),oB]
  dsimp only
  rw[if_pos (by simp only[lim];omega),if_pos (by simp only[lim,List.length_append];omega),q00 (by omega) (by omega)]
  exact ih
def plE (v:Vec):List Int:=if v.f_Type=1 then q1z (us v.ints) 1 else if v.f_Type=2 then nmB v.ints v.ints.length else txB v.texts v.texts.length
theorem qtv {v:Vec} (hi:v.ints.length<=50000) (htl:v.texts.length<=50000) (ht:okT v.texts):F60.run ql5 Rk1 4000000 (v,())=some ((plE v,()),()):=by
 rw[show F60.run ql5 Rk1 4000000 (v,())=_ from(F60_run _ _).trans (F60c1_eq 3999999 _)]
 unfold plE
 by_cases t1:v.f_Type=1
 ·rw[if_pos t1,dT t1,cT,if_pos (by simp only[lim];omega),tN,<-q6s (us1 v.ints)]
  exact qo8 hi v.ints.length 0 3999999 (by omega) (by omega) (by omega)
 ·rw[if_neg t1,dF t1,cF]
  by_cases t2:v.f_Type=2
  ·rw[if_pos t2,dT t2,cT]
   exact qk5 hi v.ints.length 0 3999999 (by omega) (by omega) (by omega)
  ·rw[if_neg t2,dF t2,cF]
   exact qk6 htl ht v.texts.length 0 3999999 (by omega) (by omega) (by omega)
/-! The reference's plain values. -/
theorem qyw {l:List Int} (hl:l.length<=50000):∀(d i n:Nat),l.length-i=d->i<=l.length->d<n->F106c3 n l (i:Int) ((List.range i).map (us1 l))=some ((us l,()),())
 |0,i,n,hd,hi',hn=>by
  obtain⟨n,rfl⟩:∃n',n=n'+1:=⟨n-1,by omega⟩
  have:i=l.length:=by omega
  subst this
  rw[F106c3_eq,dF (by omega),cF]
  rfl
 |d+1,i,n,hd,hi',hn=>by
  obtain⟨n,rfl⟩:∃n',n=n'+1:=⟨n-1,by omega⟩
  have ih:=qyw hl d (i+1) n (by omega) (by omega) (by omega)
  rw[List.range_succ,List.map_append]at ih
  rw[F106c3_eq,dT (by omega),cT,if_pos (by omega),if_pos (by omega),if_pos (by simp only[List.length_map,List.length_range,lim];omega),tN,q00 (by omega) (by omega)]
  exact ih
theorem z122 {l:List Int} (hl:l.length<=50000):F106.run Pkc Rk2v 4000000 (l,())=some ((us l,()),()):=by
 rw[show F106.run Pkc Rk2v 4000000 (l,())=_ from(F106_run _ _).trans (F106c1_eq 3999999 _)]
 exact qyw hl l.length 0 3999999 (by omega) (by omega) (by omega)
theorem qkk {v:Vec} (hl:v.texts.length<=50000) (ht:okT v.texts) {A:List Int} (hA:A.length<=500000):∀(d i n:Nat),v.texts.length-i=d->i<=v.texts.length->d<n->F61c9 n (i:Int) v (A++txB v.texts i)=some ((A++txB v.texts v.texts.length,()),())
 |0,i,n,hd,hi',hn=>by
  obtain⟨n,rfl⟩:∃n',n=n'+1:=⟨n-1,by omega⟩
  have:i=v.texts.length:=by omega
  subst this
  rw[F61c9_eq,dF (by omega),cF]
 |d+1,i,n,hd,hi',hn=>by
  obtain⟨n,rfl⟩:∃n',n=n'+1:=⟨n-1,by omega⟩
  have ih:=qkk hl ht hA d (i+1) n (by omega) (by omega) (by omega)
  have h1:=qia ht i
  have h2:=q5x ht i
  have h3:=q03 (x:=(v.texts.getD i []).length) (by omega)
  rw[show txB v.texts (i+1)=txB v.texts i++q0f (v.texts.getD i []).length++v.texts.getD i []from rfl,<-List.append_assoc,<-List.append_assoc]at ih
  rw[F61c9_eq,dT (by omega),cT]
  simp only[if_pos (show(0:Int)<=(i:Int) by omega),if_pos (show(i:Int)<(v.texts.length:Int) by omega),tN]
  rw[q01 (z:=((v.texts.getD i []).length:Int)) (by omega) (by omega),q18 (by omega),oB]
  dsimp only
  rw[if_pos (by simp only[lim,List.length_append];omega),if_pos (by simp only[lim,List.length_append];omega),q00 (by omega) (by omega)]
  exact ih
theorem qkj {v:Vec} (hi:v.ints.length<=50000) (hl:v.texts.length<=50000) (ht:okT v.texts):∀(d i n:Nat),v.ints.length-i=d->i<=v.ints.length->d+v.texts.length+2<n->F61c5 n (i:Int) v (nmB v.ints i)=some ((nmB v.ints v.ints.length++txB v.texts v.texts.length,()),())
 |0,i,n,hd,hi',hn=>by
  obtain⟨n,rfl⟩:∃n',n=n'+1:=⟨n-1,by omega⟩
  have:i=v.ints.length:=by omega
  subst this
  have h1:=q81 v.ints v.ints.length
  have h9:=qkk hl ht (A:=nmB v.ints v.ints.length) (by omega) v.texts.length 0 n (by omega) (by omega) (by omega)
  rw[show txB v.texts 0=[]from rfl,List.append_nil]at h9
  rw[F61c5_eq,dF (by omega),cF]
  exact h9
 |d+1,i,n,hd,hi',hn=>by
  obtain⟨n,rfl⟩:∃n',n=n'+1:=⟨n-1,by omega⟩
  have ih:=qkj hi hl ht d (i+1) n (by omega) (by omega) (by omega)
  have h1:=q81 v.ints i
  rw[show nmB v.ints (i+1)=nmB v.ints i++fx (IntKind.u64.wrap (v.ints.getD i 0)).toNat from rfl]at ih
  obtain⟨x,x1,x2⟩:=qib (v.ints.getD i 0)
  rw[x1,tN]at ih
  have h2:=qnt x
  rw[F61c5_eq,dT (by omega),cT,if_pos (by omega),if_pos (by omega),tN,x1,qq8 x2,oB]
  dsimp only
  rw[if_pos (by simp only[lim];omega),q00 (by omega) (by omega)]
  exact ih
theorem qqc {v:Vec} (h1:1<=v.f_Type) (h3:v.f_Type<=3) (hL:q52 v=true) (hi:v.ints.length<=50000) (hl:v.texts.length<=50000) (ht:okT v.texts):F61.run ql5 Rk1 4000000 (v,())=some ((plE v,()),()):=by
 obtain⟨l1,l2⟩:=q4r hL
 rw[show F61.run ql5 Rk1 4000000 (v,())=_ from(F61_run _ _).trans (F61c1_eq 3999999 _)]
 unfold plE
 by_cases t1:v.f_Type=1
 ·rw[if_pos t1,dT t1,cT,z122 hi,oB]
  dsimp only
  rw[show F105.run Pkn Rk1 4000000 (us v.ints,(1:Int),())=_ from qex (qz3 v.ints) (w:=1) (by omega) (by rw[qav];omega),oB]
 ·have h5:=qkj hi hl ht v.ints.length 0 3999999 (by omega) (by omega) (by omega)
  rw[if_neg t1,dF t1,cF]
  by_cases t2:v.f_Type=2
  ·rw[if_pos t2]
   have:=(l2 (by omega)).1
   rw[show v.texts.length=0 from this,show txB v.texts 0=[]from rfl,List.append_nil]at h5
   exact h5
  ·rw[if_neg t2]
   have:=(l1 (by omega)).1
   rw[show v.ints.length=0 from this,show nmB v.ints 0=[]from rfl,List.nil_append]at h5
   exact h5
/-! The bytes behind the first. -/
theorem qam {l:List Int} (hx:okL l) (hl:l.length<=1000000):okR (q0z l)/\(q0z l).length<=l.length:=by
 have h:=qcb (l:=l) l.length (Nat.le_refl _)
 rw[List.take_length]at h
 refine⟨fun j hj=>?_,h.len⟩
 obtain⟨k,k1,k2⟩:=h.val j hj
 have:=q4f hx k1
 have:=h.cnt j hj
 rw[k2]
 omega
def q0n (v:Vec) (k:Int):List Int:=
 if k=0 then plE v else if k=1 then q9l (q0z v.ints)else if k=2 then frE v.ints else if k=3 then dlE v.ints else if k=4 then q8q v.texts else fcB v.texts v.texts.length
structure Fit (v:Vec):Prop where
 ints:v.ints.length<=10000
 texts:v.texts.length<=10000
 okL:okL v.ints
 okT:okT v.texts
theorem qod {l:List Run} (hok:okR l) (hl:l.length<=100000):(q9l l).length<=20*l.length+10:=by
 have h1:=qal l 0 (qme hok)
 have h2:=q03 (x:=l.length) (by omega)
 rw[q9l,List.length_append]
 omega
theorem z11r {v:Vec} (h:Fit v):(plE v).length<=50000000:=by
 have a:=h.ints
 have b:=h.texts
 unfold plE
 split
 ·have:=qag (D:=us v.ints) (by rw[qav];omega) (w:=1) (by omega)
  omega
 ·split
  ·have:=q81 v.ints v.ints.length
   omega
  ·have:=qia h.okT v.texts.length
   omega
theorem qvw {l:List (List Int)} (hl:l.length<=10000) (ht:okT l):(q8q l).length<=60000000:=by
 have hwl:=q22 l
 have h1:=q03 (x:=(words l).length) (by omega)
 have h2:=qbv (W:=words l) fun w hw=>ht _ ((q4a l _).1 hw)
 obtain⟨hok,hrl⟩:=qd9 (l:=l) (by omega)
 have h3:=qod hok (by omega)
 have hcw:=qrg (x:=(words l).length) (by omega)
 have hcl:=q48 l
 have h4:=qag (D:=q0k l) (by omega) (w:=cw (words l).length) (by omega)
 unfold q8q qbs
 split
 ·simp only[List.length_append,List.length_cons];omega
 ·simp only[List.length_append,List.length_cons];omega
theorem qdl {v:Vec} (h:Fit v) (k:Int):(q0n v k).length<=60000000:=by
 have a:=h.ints
 have b:=h.texts
 unfold q0n
 split
 ·have:=z11r h;omega
 ·split
  ·obtain⟨r1,r2⟩:=qam h.okL (by omega)
   have:=qod r1 (by omega)
   omega
  ·split
   ·have:=qe9 (l:=v.ints) (by omega) h.okL;omega
   ·split
    ·have:=qzn (l:=v.ints) (by omega) h.okL;omega
    ·split
     ·exact qvw b h.okT
     ·have:=qhg h.okT v.texts.length;omega
end Go.Proofs.Tryz
