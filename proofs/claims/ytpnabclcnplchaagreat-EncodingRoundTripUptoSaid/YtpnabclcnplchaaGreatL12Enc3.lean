/- Law 12: vectors, encoded. -/
import Derived.Test.YtpnabclcnplchaaGreatL12Vec
set_option linter.unusedVariables false
set_option linter.unusedSimpArgs false
namespace Go.Proofs.Tryz
open Go.Eng
open IntKind (i64 u64 u8)
/-! Which encodings apply. -/
def app (k t:Int):Bool:=if k=0 then true else if k<=3 then !decide (t=3)else decide (t=3)
theorem six {k:Int}(h1:0<=k)(h2:k<=5):k=0\/k=1\/k=2\/k=3\/k=4\/k=5:=by omega
theorem z178 {t:Int}(h1:1<=t)(h2:t<=3):t=1\/t=2\/t=3:=by omega
theorem qm7 {k t:Int}(h1:0<=k)(h2:k<=5)(h3:1<=t)(h4:t<=3):F38.run Pk9 Rkl 4000000 (k,t,())=some ((app k t,()),()):=by
 rw[show F38.run Pk9 Rkl 4000000 (k,t,())=_ from F38_run _ _ _]
 rcases six h1 h2 with rfl|rfl|rfl|rfl|rfl|rfl<;>rcases z178 h3 h4 with rfl|rfl|rfl<;>rfl
theorem qpc {k t:Int}(h1:0<=k)(h2:k<=5)(h3:1<=t)(h4:t<=3):F25.run Pk9 Rkl 4000000 (t,k,())=some ((app k t,()),()):=by
 rw[show F25.run Pk9 Rkl 4000000 (t,k,())=_ from F25_run _ _ _]
 rcases six h1 h2 with rfl|rfl|rfl|rfl|rfl|rfl<;>rcases z178 h3 h4 with rfl|rfl|rfl<;>rfl
/-! The size of a vector. -/
def tl (v:Vec):Nat->Nat
 |0=>0
 |i+1=>tl v i+(v.texts.getD i []).length
def vsz (v:Vec):Nat:=v.ints.length+v.texts.length+v.nulls.length+tl v v.texts.length
theorem qvz (v:Vec):∀{i j:Nat},i<=j->tl v i<=tl v j
 |i,0,h=>by rw[show i=0 by omega];exact nR _
 | i,j+1,h=>by
  rcases Nat.lt_or_ge i (j+1)with h'|h'
  ·have:=qvz v (i:=i) (j:=j) (by omega)
   rw[show tl v (j+1)=tl v j+(v.texts.getD j []).length from rfl]
   omega
  ·rw[show i=j+1 by omega];exact nR _
theorem qq2 {v:Vec}(hs:vsz v<4611686018427387904)(hl:v.texts.length<=3000000):∀(d i n:Nat),v.texts.length-i=d->i<=v.texts.length->d<n->
  F9c3 n ((v.ints.length+v.texts.length+v.nulls.length+tl v i:Nat):Int) (i:Int) v=some ((decide (vsz v<=10000),()),())
 |0,i,n,hd,hi',hn=>by
  obtain⟨n,rfl⟩:∃n',n=n'+1:=⟨n-1,by omega⟩
  have:i=v.texts.length:=by omega
  subst this
  rw[F9c3_eq,dF (by omega),cF]
  congr 3
  exact decide_eq_decide.2 (by unfold vsz;omega)
 | d+1,i,n,hd,hi',hn=>by
  obtain⟨n,rfl⟩:∃n',n=n'+1:=⟨n-1,by omega⟩
  have ih:=qq2 hs hl d (i+1) n (by omega) (by omega) (by omega)
  have hm:=qvz v (i:=i+1) (j:=v.texts.length) (by omega)
  unfold vsz at hs
  rw[show tl v (i+1)=tl v i+(v.texts.getD i []).length from rfl]at ih hm
  rw[F9c3_eq,dT (by omega),cT,if_pos (by omega),if_pos (by omega),tN,q00 (by omega) (by omega),q00 (by omega) (by omega),
   show(((v.ints.length+v.texts.length+v.nulls.length+tl v i:Nat):Int)+((v.texts.getD i []).length:Int))=((v.ints.length+v.texts.length+v.nulls.length+(tl v i+(v.texts.getD i []).length):Nat):Int) by omega]
  exact ih
theorem qvo {v:Vec}(hs:vsz v<4611686018427387904)(hl:v.texts.length<=3000000):F9.run qe5 Rkl 4000000 (v,())=some ((decide (vsz v<=10000),()),()):=by
 rw[show F9.run qe5 Rkl 4000000 (v,())=_ from F9_run _ _]
 have h:=qq2 hs hl v.texts.length 0 4000000 (by omega) (by omega) (by omega)
 unfold vsz at hs
 rw[show((v.ints.length+v.texts.length+v.nulls.length+tl v 0:Nat):Int)=(v.ints.length:Int)+(v.texts.length:Int)+(v.nulls.length:Int) by simp only[tl];omega]at h
 rw[q00 (z:=(v.ints.length:Int)+(v.texts.length:Int)) (by omega) (by omega),q00 (by omega) (by omega)]
 exact h
/-! Plain values. -/
def nmB (l:List Int):Nat->List Int
 |0=>[]
 |i+1=>nmB l i++fx (u64.wrap (l.getD i 0)).toNat
def txB (l:List (List Int)):Nat->List Int
 |0=>[]
 |i+1=>txB l i++q0f (l.getD i []).length++l.getD i []
theorem q8l (l:List Int):∀i,(nmB l i).length=8*i
 |0=>by simp[nmB]
 |i+1=>by
  have:=q8l l i
  unfold nmB
  rw[lA,qou]
  omega
theorem qja {l:List (List Int)}(ht:okT l):∀i,(txB l i).length<=4106*i
 |0=>by simp[txB]
 |i+1=>by
  have h1:=qja ht i
  have h2:=q5l ht i
  have h3:=q03 (x:=(l.getD i []).length) (by omega)
  unfold txB
  simp only[lA]
  omega
theorem ql3 {l:List Int}(hl:l.length<=50000):∀(d i n:Nat),l.length-i=d->i<=l.length->d<n->F60c13 n l (l.length:Int) (i:Int) (nmB l i)=some ((nmB l l.length,()),())
 |0,i,n,hd,hi',hn=>by
  obtain⟨n,rfl⟩:∃n',n=n'+1:=⟨n-1,by omega⟩
  have:i=l.length:=by omega
  subst this
  rw[F60c13_eq,dF (by omega),cF]
 |d+1,i,n,hd,hi',hn=>by
  obtain⟨n,rfl⟩:∃n',n=n'+1:=⟨n-1,by omega⟩
  have ih:=ql3 hl d (i+1) n (by omega) (by omega) (by omega)
  have h1:=q8l l i
  rw[show nmB l (i+1)=nmB l i++fx (u64.wrap (l.getD i 0)).toNat from rfl]at ih
  obtain⟨x,x1,x2⟩:=qjb (l.getD i 0)
  rw[x1,tN]at ih
  have h2:=qou x
  rw[F60c13_eq,dT (by omega),cT,if_pos (by omega),if_pos (by omega),tN,x1,qte,oB]
  dsimp only
  rw[if_pos (by simp only[lim];omega),q00 (by omega) (by omega)]
  exact ih
theorem ql4 {l:List (List Int)}(hl:l.length<=50000)(ht:okT l):∀(d i n:Nat),l.length-i=d->i<=l.length->d<n->F60c20 n l (l.length:Int) (i:Int) (txB l i)=some ((txB l l.length,()),())
 |0,i,n,hd,hi',hn=>by
  obtain⟨n,rfl⟩:∃n',n=n'+1:=⟨n-1,by omega⟩
  have:i=l.length:=by omega
  subst this
  rw[F60c20_eq,dF (by omega),cF]
 |d+1,i,n,hd,hi',hn=>by
  obtain⟨n,rfl⟩:∃n',n=n'+1:=⟨n-1,by omega⟩
  have ih:=ql4 hl ht d (i+1) n (by omega) (by omega) (by omega)
  have h1:=qja ht i
  have h2:=q5l ht i
  have h3:=q03 (x:=(l.getD i []).length) (by omega)
  rw[show txB l (i+1)=txB l i++q0f (l.getD i []).length++l.getD i []from rfl]at ih
  rw[F60c20_eq,dT (by omega),cT,if_pos (by omega),if_pos (by omega),tN,q01 (z:=((l.getD i []).length:Int)) (by omega) (by omega),q2m (by omega),oB]
  dsimp only
  rw[if_pos (by simp only[lim];omega),if_pos (by simp only[lim,lA];omega),q00 (by omega) (by omega)]
  exact ih
def plE (v:Vec):List Int:=if v.f_Type=1 then q27 (us v.ints) 1 else if v.f_Type=2 then nmB v.ints v.ints.length else txB v.texts v.texts.length
theorem qv1 {v:Vec}(hi:v.ints.length<=50000)(htl:v.texts.length<=50000)(ht:okT v.texts):F60.run qe5 Rk1 4000000 (v,())=some ((plE v,()),()):=by
 rw[show F60.run qe5 Rk1 4000000 (v,())=_ from(F60_run _ _).trans (F60c1_eq 3999999 _)]
 unfold plE
 by_cases t1:v.f_Type=1
 ·rw[if_pos t1,dT t1,cT,if_pos (by simp only[lim];omega),tN,<-q77 (us1 v.ints)]
  exact qpb hi v.ints.length 0 3999999 (by omega) (by omega) (by omega)
 ·rw[if_neg t1,dF t1,cF]
  by_cases t2:v.f_Type=2
  ·rw[if_pos t2,dT t2,cT]
   exact ql3 hi v.ints.length 0 3999999 (by omega) (by omega) (by omega)
  ·rw[if_neg t2,dF t2,cF]
   exact ql4 htl ht v.texts.length 0 3999999 (by omega) (by omega) (by omega)
/-! The reference's plain values. -/
theorem z104 {l:List Int}(hl:l.length<=50000):∀(d i n:Nat),l.length-i=d->i<=l.length->d<n->F106c3 n l (i:Int) ((List.range i).map (us1 l))=some ((us l,()),())
 |0,i,n,hd,hi',hn=>by
  obtain⟨n,rfl⟩:∃n',n=n'+1:=⟨n-1,by omega⟩
  have:i=l.length:=by omega
  subst this
  rw[F106c3_eq,dF (by omega),cF]
  rfl
 |d+1,i,n,hd,hi',hn=>by
  obtain⟨n,rfl⟩:∃n',n=n'+1:=⟨n-1,by omega⟩
  have ih:=z104 hl d (i+1) n (by omega) (by omega) (by omega)
  rw[List.range_succ,List.map_append]at ih
  rw[F106c3_eq,dT (by omega),cT,if_pos (by omega),if_pos (by omega),if_pos (by simp only[List.length_map,List.length_range,lim];omega),tN,q00 (by omega) (by omega)]
  exact ih
theorem z12s {l:List Int}(hl:l.length<=50000):F106.run Pkc Rk2u 4000000 (l,())=some ((us l,()),()):=by
 rw[show F106.run Pkc Rk2u 4000000 (l,())=_ from(F106_run _ _).trans (F106c1_eq 3999999 _)]
 exact z104 hl l.length 0 3999999 (by omega) (by omega) (by omega)
theorem qli {v:Vec}(hl:v.texts.length<=50000)(ht:okT v.texts){A:List Int}(hA:A.length<=500000):∀(d i n:Nat),v.texts.length-i=d->i<=v.texts.length->d<n->F61c9 n (i:Int) v (A++txB v.texts i)=some ((A++txB v.texts v.texts.length,()),())
 |0,i,n,hd,hi',hn=>by
  obtain⟨n,rfl⟩:∃n',n=n'+1:=⟨n-1,by omega⟩
  have:i=v.texts.length:=by omega
  subst this
  rw[F61c9_eq,dF (by omega),cF]
 |d+1,i,n,hd,hi',hn=>by
  obtain⟨n,rfl⟩:∃n',n=n'+1:=⟨n-1,by omega⟩
  have ih:=qli hl ht hA d (i+1) n (by omega) (by omega) (by omega)
  have h1:=qja ht i
  have h2:=q5l ht i
  have h3:=q03 (x:=(v.texts.getD i []).length) (by omega)
  rw[show txB v.texts (i+1)=txB v.texts i++q0f (v.texts.getD i []).length++v.texts.getD i []from rfl,<-aA,<-aA]at ih
  rw[F61c9_eq,dT (by omega),cT]
  simp only[if_pos (show(0:Int)<=(i:Int) by omega),if_pos (show(i:Int)<(v.texts.length:Int) by omega),tN]
  rw[q01 (z:=((v.texts.getD i []).length:Int)) (by omega) (by omega),q1c (by omega),oB]
  dsimp only
  rw[if_pos (by simp only[lim,lA];omega),if_pos (by simp only[lim,lA];omega),q00 (by omega) (by omega)]
  exact ih
theorem qlh {v:Vec}(hi:v.ints.length<=50000)(hl:v.texts.length<=50000)(ht:okT v.texts):∀(d i n:Nat),v.ints.length-i=d->i<=v.ints.length->d+v.texts.length+2<n->F61c5 n (i:Int) v (nmB v.ints i)=some ((nmB v.ints v.ints.length++txB v.texts v.texts.length,()),())
 |0,i,n,hd,hi',hn=>by
  obtain⟨n,rfl⟩:∃n',n=n'+1:=⟨n-1,by omega⟩
  have:i=v.ints.length:=by omega
  subst this
  have h1:=q8l v.ints v.ints.length
  have h9:=qli hl ht (A:=nmB v.ints v.ints.length) (by omega) v.texts.length 0 n (by omega) (by omega) (by omega)
  rw[show txB v.texts 0=[]from rfl,List.append_nil]at h9
  rw[F61c5_eq,dF (by omega),cF]
  exact h9
 |d+1,i,n,hd,hi',hn=>by
  obtain⟨n,rfl⟩:∃n',n=n'+1:=⟨n-1,by omega⟩
  have ih:=qlh hi hl ht d (i+1) n (by omega) (by omega) (by omega)
  have h1:=q8l v.ints i
  rw[show nmB v.ints (i+1)=nmB v.ints i++fx (u64.wrap (v.ints.getD i 0)).toNat from rfl]at ih
  obtain⟨x,x1,x2⟩:=qjb (v.ints.getD i 0)
  rw[x1,tN]at ih
  have h2:=qou x
  rw[F61c5_eq,dT (by omega),cT,if_pos (by omega),if_pos (by omega),tN,x1,qrf x2,oB]
  dsimp only
  rw[if_pos (by simp only[lim];omega),q00 (by omega) (by omega)]
  exact ih
theorem qrj {v:Vec}(h1:1<=v.f_Type)(h3:v.f_Type<=3)(hL:q2i v=true)(hi:v.ints.length<=50000)(hl:v.texts.length<=50000)(ht:okT v.texts):F61.run qe5 Rk1 4000000 (v,())=some ((plE v,()),()):=by
 obtain⟨l1,l2⟩:=q4a hL
 rw[show F61.run qe5 Rk1 4000000 (v,())=_ from(F61_run _ _).trans (F61c1_eq 3999999 _)]
 unfold plE
 by_cases t1:v.f_Type=1
 ·rw[if_pos t1,dT t1,cT,z12s hi,oB]
  dsimp only
  rw[show F105.run Pko Rk1 4000000 (us v.ints,(1:Int),())=_ from qfu (z10c v.ints) (w:=1) (by omega) (by rw[qbh];omega),oB]
 ·have h5:=qlh hi hl ht v.ints.length 0 3999999 (by omega) (by omega) (by omega)
  rw[if_neg t1,dF t1,cF]
  by_cases t2:v.f_Type=2
  ·rw[if_pos t2]
   have:=(l2 (by omega)).1
   rw[show v.texts.length=0 from this,show txB v.texts 0=[]from rfl,List.append_nil]at h5
   exact h5
  ·rw[if_neg t2]
   have:=(l1 (by omega)).1
   rw[show v.ints.length=0 from this,show nmB v.ints 0=[]from rfl,List.nil_append]at h5
   exact h5
/-! The bytes behind the first. -/
theorem qb6 {l:List Int}(hx:okL l)(hl:l.length<=1000000):okR (q12 l)/\(q12 l).length<=l.length:=by
 have h:=qd3 (l:=l) l.length (nR _)
 rw[List.take_length]at h
 refine⟨fun j hj=>?_,h.len⟩
 obtain⟨k,k1,k2⟩:=h.val j hj
 have:=q4v hx k1
 have:=h.cnt j hj
 rw[k2]
 omega
def q0h (v:Vec)(k:Int):List Int:=
 if k=0 then plE v else if k=1 then q9b (q12 v.ints)else if k=2 then frE v.ints else if k=3 then dlE v.ints else if k=4 then q86 v.texts else fcB v.texts v.texts.length
structure Fit (v:Vec):Prop where
 ints:v.ints.length<=10000
 texts:v.texts.length<=10000
 okL:okL v.ints
 okT:okT v.texts
theorem qpj {l:List Run}(hok:okR l)(hl:l.length<=100000):(q9b l).length<=20*l.length+10:=by
 have h1:=qb5 l 0 (qnb hok)
 have h2:=q03 (x:=l.length) (by omega)
 rw[q9b,lA]
 omega
theorem z12g {v:Vec}(h:Fit v):(plE v).length<=50000000:=by
 have a:=h.ints
 have b:=h.texts
 unfold plE
 split
 ·have:=qb0 (D:=us v.ints) (by rw[qbh];omega) (w:=1) (by omega)
  omega
 ·split
  ·have:=q8l v.ints v.ints.length
   omega
  ·have:=qja h.okT v.texts.length
   omega
theorem qx8 {l:List (List Int)}(hl:l.length<=10000)(ht:okT l):(q86 l).length<=60000000:=by
 have hwl:=q2b l
 have h1:=q03 (x:=(words l).length) (by omega)
 have h2:=qcl (W:=words l) fun w hw=>ht _ ((q3u l _).1 hw)
 obtain⟨hok,hrl⟩:=qe0 (l:=l) (by omega)
 have h3:=qpj hok (by omega)
 have hcw:=qsr (x:=(words l).length) (by omega)
 have hcl:=q4p l
 have h4:=qb0 (D:=q0l l) (by omega) (w:=cw (words l).length) (by omega)
 unfold q86 qbc
 split
 ·simp only[lA,lC];omega
 ·simp only[lA,lC];omega
theorem q7v {v:Vec}(h:Fit v)(k:Int):(q0h v k).length<=60000000:=by
 have a:=h.ints
 have b:=h.texts
 unfold q0h
 split
 ·have:=z12g h;omega
 ·split
  ·obtain⟨r1,r2⟩:=qb6 h.okL (by omega)
   have:=qpj r1 (by omega)
   omega
  ·split
   ·have:=qf5 (l:=v.ints) (by omega) h.okL;omega
   ·split
    ·have:=z10x (l:=v.ints) (by omega) h.okL;omega
    ·split
     ·exact qx8 b h.okT
     ·have:=qid h.okT v.texts.length;omega
end Go.Proofs.Tryz
