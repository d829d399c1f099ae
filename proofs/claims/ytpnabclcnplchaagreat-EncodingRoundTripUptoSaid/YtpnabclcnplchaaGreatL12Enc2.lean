/- Law 12: differences, common heads and plain values, encoded. -/
import Derived.Test.YtpnabclcnplchaaGreatL12Fr
set_option linter.unusedVariables false
set_option linter.unusedSimpArgs false
namespace Go.Proofs.Tryz
open Go.Eng
open IntKind (i64 u64 u8)
def hzs (l:List Int):List Int:=(l.map fun x=>q0f (zz x)).flatten
theorem qxn {l:List Int}{i:Nat}(h:i<l.length):hzs (l.take (i+1))=hzs (l.take i)++q0f (zz (l.getD i 0)):=by
 unfold hzs
 rw[List.take_succ_eq_append_getElem h,List.map_append,List.flatten_append,gQ,gE h]
 simp
theorem qu8 {l:List Int}(hx:okL l):(hzs l).length<=10*l.length:=by
 induction l with
 |nil=>simp[hzs]
 |cons a t ih=>
  have h1:=q03 (q8r (hx a mS).1 (hx a mS).2)
  have h2:=ih fun x h=>hx x (mC _ h)
  unfold hzs at h2 ⊢
  rw[List.map_cons,List.flatten_cons,lA,lC]
  omega
theorem q4v {l:List Int}(hx:okL l){i:Nat}(h:i<l.length):-9223372036854775808<=l.getD i 0/\l.getD i 0<9223372036854775808:=
 hx _ (by rw[gQ,gE h];exact gM _)
theorem qdy {l:List Int}(hx:okL l)(i:Nat):okL (l.take i):=fun x h=>hx x (List.mem_of_mem_take h)
theorem qtg {r hs:List Int}{k:Int}(hr:r.length<=50000)(hrx:okL r)(hl:hs.length<=1000)(hx:okL hs):∀(d i n:Nat),hs.length-i=d->i<=hs.length->d<n->
  F99c3 n r hs (hs.length:Int) (i:Int) (k::hzs (hs.take i))=some ((k::(hzs hs++frE r),()),())
 | d,i,n,hd,hi',hn=>by
  obtain⟨n,rfl⟩:∃n',n=n'+1:=⟨n-1,by omega⟩
  have h1:=qu8 (qdy hx i)
  rw[lT,Nat.min_eq_left hi']at h1
  match d,hd with
  |0,hd=>
   have:i=hs.length:=by omega
   subst this
   have h2:=qf5 hr hrx
   rw[F99c3_eq,dF (by omega),cF,qf6 hr hrx,oB]
   dsimp only
   rw[if_pos (by simp only[lim,lC];omega),List.take_length]
   rfl
  |d+1,hd=>
   have hlt:i<hs.length:=by omega
   have hg:=q4v hx hlt
   have hz:=q8r hg.1 hg.2
   have h2:=q03 hz
   have ih:=qtg (k:=k) hr hrx hl hx d (i+1) n (by omega) (by omega) (by omega)
   rw[qxn hlt]at ih
   rw[F99c3_eq,dT (by omega),cT,if_pos (by omega),if_pos (by omega),tN,qjh hg.1 hg.2,oB]
   dsimp only
   rw[q2m hz,oB]
   dsimp only
   rw[if_pos (by simp only[lim,lC];omega),q00 (by omega) (by omega)]
   exact ih
theorem qos {r hs:List Int}{k:Int}(hr:r.length<=50000)(hrx:okL r)(hl:hs.length<=1000)(hx:okL hs):
  F99.run Pk11 Rk1 4000000 (k,hs,r,())=some ((k::(hzs hs++frE r),()),()):=by
 rw[show F99.run Pk11 Rk1 4000000 (k,hs,r,())=_ from(F99_run _ _ _ _).trans (F99c1_eq 3999999 _ _ _)]
 exact qtg hr hrx hl hx hs.length 0 3999999 (by omega) (by omega) (by omega)
def df1 (l:List Int):List Int:=1::(hzs (l.take 1)++frE (dl l))
def df2 (l:List Int):List Int:=2::(hzs [l.getD 0 0,(dl l).getD 0 0]++frE (dl (dl l)))
def dlE (l:List Int):List Int:=if l.length<2 then df1 l else if(df2 l).length<(df1 l).length then df2 l else df1 l
theorem z14l {l:List Int}(h:0<l.length):l.take 1=[l.getD 0 0]:=by
 cases l with
 |nil=>simp at h
 |cons a t=>rfl
theorem qk2 {l:List Int}(hl:l.length<=50000)(hx:okL l):F54.run Pkc Rk1 4000000 (l,())=some ((dlE l,()),()):=by
 have hm:q9x (1:Int) (l.length:Int)=((min 1 l.length:Nat):Int):=by
  unfold q9x
  split<;>omega
 have hd1:=q82 l
 have ht:List.drop (Int.toNat (0:Int)) (List.take (min 1 l.length) l)=l.take 1:=by
  show List.drop 0 _=_
  rw[List.drop_zero]
  rcases Nat.eq_zero_or_pos l.length with h|h
  ·rw[List.eq_nil_of_length_eq_zero h];rfl
  ·rw[Nat.min_eq_left h]
 have h1:F99.run Pk11 Rk1 4000000 ((1:Int),l.take 1,dl l,())=some ((df1 l,()),()):=
  qos (by omega) (qbw l) (by rw[lT];omega) (qdy hx 1)
 rw[show F54.run Pkc Rk1 4000000 (l,())=_ from(F54_run _ _).trans (F54c1_eq 3999999 _),dF (by omega),cF,qyw (by omega),oB,hm,if_pos (by omega),if_pos (by omega)]
 dsimp only
 rw[tN,ht,h1,oB]
 dsimp only
 unfold dlE
 by_cases h2:l.length<2
 ·rw[if_pos h2,dT (by omega),cT]
 ·have hg:=q4v hx (i:=0) (by omega)
  have hg2:=q4v (qbw l) (i:=0) (by omega)
  have hd2:=q82 (dl l)
  have h3:F99.run Pk11 Rk1 4000000 ((2:Int),[l.getD 0 0,(dl l).getD 0 0],dl (dl l),())=some ((df2 l,()),()):=
   qos (by omega) (qbw _) (by simp) (fun x hx=>by
    rcases List.mem_cons.1 hx with rfl|hx
    ·exact hg
    ·rcases List.mem_cons.1 hx with rfl|hx
     ·exact hg2
     ·cases hx)
  rw[if_neg h2,dF (by omega),cF,if_pos (by omega),if_pos (by omega),qyw (by omega),oB]
  dsimp only
  rw[show Int.toNat (0:Int)=0 from rfl,h3,oB]
  dsimp only
  by_cases h:(df2 l).length<(df1 l).length
  ·rw[if_pos h,dT (by omega),cT]
  ·rw[if_neg h,dF (by omega),cF]
theorem z10v {l:List Int}(hl:l.length<=50000)(hx:okL l):(df1 l).length<=1500100:=by
 have h1:=qu8 (qdy hx 1)
 rw[lT]at h1
 have h2:=qf5 (l:=dl l) (by rw[q82];omega) (qbw l)
 unfold df1
 rw[lC,lA]
 omega
theorem z10x {l:List Int}(hl:l.length<=50000)(hx:okL l):(dlE l).length<=1500100:=by
 have:=z10v hl hx
 unfold dlE
 split
 ·exact this
 ·split
  ·omega
  ·exact this
/-! The reference. -/
theorem qrg {l:List Int}(hl:l.length<=50000)(hx:okL l):F113.run Pkt Rk1 4000000 (l,(1:Int),())=some ((df1 l,()),()):=by
 have hd1:=q82 l
 have h2:=qf5 (l:=dl l) (by omega) (qbw l)
 rw[show F113.run Pkt Rk1 4000000 (l,(1:Int),())=_ from(F113_run _ _ _).trans (F113c1_eq 3999999 _ _),show u8.wrap 1=1 from rfl,F113c4_eq (n:=3999998),dT (by omega),cT]
 by_cases h0:0<l.length
 ·have hg:=q4v hx (i:=0) h0
  have hz:=q8r hg.1 hg.2
  have hv:=q03 hz
  rw[dT (by omega),cT,F113c6_eq (n:=3999997),if_pos (by omega),show Int.toNat (0:Int)=0 from rfl,qb8 hg.1 hg.2,oB]
  dsimp only
  rw[q1c hz,oB]
  dsimp only
  rw[if_pos (by simp only[lim,List.length_singleton];omega),qni (by omega),oB]
  dsimp only
  rw[show i64.wrap (0+1)=1 from rfl,F113c4'_eq (n:=3999996),dF (by omega),cF,q6t (by omega) (qbw l),oB]
  dsimp only
  rw[if_pos (by simp only[lim,lA,List.length_singleton];omega),df1,z14l h0]
  simp[hzs]
 ·have hl0:l=[]:=List.eq_nil_of_length_eq_zero (by omega)
  subst hl0
  rw[dF (by simp),cF,q6t (by simp) hx,oB]
  dsimp only
  rw[if_pos (by have:dl []=[]:=rfl;rw[this]at h2;simp only[lim,List.length_singleton];omega)]
  rfl
theorem qrh {l:List Int}(hl:l.length<=50000)(hx:okL l)(h0:2<=l.length):F113.run Pkt Rk1 4000000 (l,(2:Int),())=some ((df2 l,()),()):=by
 have hd1:=q82 l
 have hd2:=q82 (dl l)
 have h2:=qf5 (l:=dl (dl l)) (by omega) (qbw _)
 have hg:=q4v hx (i:=0) (by omega)
 have hz:=q8r hg.1 hg.2
 have hv:=q03 hz
 have hg':=q4v (qbw l) (i:=0) (by omega)
 have hz':=q8r hg'.1 hg'.2
 have hv':=q03 hz'
 rw[show F113.run Pkt Rk1 4000000 (l,(2:Int),())=_ from(F113_run _ _ _).trans (F113c1_eq 3999999 _ _),show u8.wrap 2=2 from rfl,F113c4_eq (n:=3999998),dT (by omega),cT]
 rw[dT (by omega),cT,F113c6_eq (n:=3999997),if_pos (by omega),show Int.toNat (0:Int)=0 from rfl,qb8 hg.1 hg.2,oB]
 dsimp only
 rw[q1c hz,oB]
 dsimp only
 rw[if_pos (by simp only[lim,List.length_singleton];omega),qni (by omega),oB]
 dsimp only
 rw[show i64.wrap (0+1)=1 from rfl,F113c4'_eq (n:=3999996),dT (by omega),cT,dT (by omega),cT,F113c6'_eq (n:=3999995),if_pos (by omega),show Int.toNat (0:Int)=0 from rfl,qb8 hg'.1 hg'.2,oB]
 dsimp only
 rw[q1c hz',oB]
 dsimp only
 rw[if_pos (by simp only[lim,lA,List.length_singleton];omega),qni (by omega),oB]
 dsimp only
 rw[show i64.wrap (1+1)=2 from rfl,F113c4'_eq (n:=3999994),dF (by omega),cF,q6t (by omega) (qbw _),oB]
 dsimp only
 rw[if_pos (by simp only[lim,lA,List.length_singleton];omega),df2]
 simp[hzs]
theorem qh4 {l:List Int}(hl:l.length<=50000)(hx:okL l):F65.run Pkc Rk1 4000000 (l,())=some ((dlE l,()),()):=by
 rw[show F65.run Pkc Rk1 4000000 (l,())=_ from(F65_run _ _).trans (F65c1_eq 3999999 _),dF (by omega),cF,qrg hl hx,oB]
 dsimp only
 unfold dlE
 by_cases h2:l.length<2
 ·rw[if_pos h2,dT (by omega),cT]
 ·rw[if_neg h2,dF (by omega),cF,qrh hl hx (by omega),oB]
  dsimp only
  by_cases h:(df2 l).length<(df1 l).length
  ·rw[if_pos h,dT (by omega),cT]
  ·rw[if_neg h,dF (by omega),cF]
/-! Common heads. -/
def cpf:List Int->List Int->Nat
 |a::s,b::t=>if a=b then cpf s t+1 else 0
 |_,_=>0
theorem qoa:∀(s t:List Int),cpf s t<=s.length/\cpf s t<=t.length
 |[],_=>by simp[cpf]
 |_::_,[]=>by simp[cpf]
 |a::s,b::t=>by
  have:=qoa s t
  unfold cpf
  split<;>simp<;>omega
theorem qeh:∀(s t:List Int) (i:Nat),(∀j,j<i->s.getD j 0=t.getD j 0)->i<=s.length->i<=t.length->(i<s.length->i<t.length->s.getD i 0≠t.getD i 0)->cpf s t=i
 |[],t,i,_,h,_,_=>by
               have:i=0:=by simpa using h
               subst this;cases t<;>rfl
 | a :: s, [], i, _,_,h,_=>by
                  have:i=0:=by simpa using h
                  subst this;rfl
 |a::s,b::t,0,_,_,_,h=>by
  have:a≠b:=h (by simp) (by simp)
  rw[cpf,if_neg this]
 |a::s,b::t,i+1,h1,h2,h3,h4=>by
  have:a=b:=h1 0 (by omega)
  rw[cpf,if_pos this,qeh s t i (fun j hj=>h1 (j+1) (by omega)) (by simpa using h2) (by simpa using h3) (fun h5 h6=>h4 (by simpa using h5) (by simpa using h6))]
theorem qyv {s t:List Int}(hs:s.length<=1000000):∀(n i:Nat),s.length-i<n->i<=s.length->i<=t.length->(∀j,j<i->s.getD j 0=t.getD j 0)->F156c2 n s t (i:Int)=some ((((cpf s t:Nat):Int),()),())
 |0,i,h,_,_,_=>by omega
 | n +1,i,h,h1,h2,he=>by
  rw[F156c2_eq]
  by_cases a:i<s.length
  ·rw [dT (by omega),cT]
   by_cases b:i<t.length
   ·rw[dT (by omega),cT]
    simp only[if_pos (show(0:Int)<=(i:Int) by omega),if_pos (show(i:Int)<(s.length:Int) by omega),if_pos (show(i:Int)<(t.length:Int) by omega),tN]
    by_cases c:s.getD i 0=t.getD i 0
    ·rw[dT c,cT,q00 (by omega) (by omega)]
     exact qyv hs n (i+1) (by omega) (by omega) (by omega) fun j hj=>by
      rcases Nat.lt_or_ge j i with h'|h'
      ·exact he j h'
      ·rw[show j=i by omega];exact c
    ·rw[dF c,cF,qeh s t i he h1 h2 (fun _ _=>c)]
   ·rw[dF (by omega),cF,qeh s t i he h1 h2 (fun _ h=>absurd h b)]
  ·rw[dF (by omega),cF,qeh s t i he h1 h2 (fun h=>absurd h a)]
theorem qsp {s t:List Int}(hs:s.length<=1000000):F156.run qyl Rk6 4000000 (s,t,())=some ((((cpf s t:Nat):Int),()),()):=by
 rw[show F156.run qyl Rk6 4000000 (s,t,())=_ from F156_run _ _ _]
 exact qyv hs 4000000 0 (by omega) (by omega) (by omega) (fun j hj=>by omega)
def shr (l:List (List Int))(i:Nat):Nat:=if i%16=0 then 0 else cpf (l.getD (i-1) []) (l.getD i [])
theorem qpz (l:List (List Int))(i:Nat):shr l i<=(l.getD i []).length:=by
 unfold shr
 split
 ·omega
 ·exact(qoa _ _).2
def okT (l:List (List Int)):Prop:=∀s∈l,s.length<=4096
theorem q5l {l:List (List Int)}(h:okT l)(i:Nat):(l.getD i []).length<=4096:=by
 rw[gQ]
 rcases Nat.lt_or_ge i l.length with h'|h'
 ·rw[gE h'];exact h _ (gM _)
 ·rw[List.getElem?_eq_none h'];simp
theorem qrp {l:List (List Int)}{i:Nat}(hl:l.length<=1000000)(ht:okT l)(hi:i<l.length):F103.run Pk21 Rk6 4000000 (l,(i:Int),())=some ((((shr l i:Nat):Int),()),()):=by
 rw[show F103.run Pk21 Rk6 4000000 (l,(i:Int),())=_ from F103_run _ _ _]
 have hm:((i:Int)).tmod 16=((i%16:Nat):Int):=by rw[Int.tmod_eq_emod_of_nonneg (by omega)];omega
 unfold shr
 rw[hm]
 by_cases h:i%16=0
 ·rw[if_pos h,dT (by omega),cT];rfl
 ·have hc:=q5l ht (i-1)
  rw[if_neg h,dF (by omega),cF,q00 (by omega) (by omega),show((i:Int)-1)=((i-1:Nat):Int) by omega,if_pos (by omega),if_pos (by omega),if_pos (by omega),if_pos (by omega),tN,tN,qsp (by omega)]
  rfl
def fcB (l:List (List Int)):Nat->List Int
 |0=>[]
 |i+1=>fcB l i++q0f (shr l i)++q0f ((l.getD i []).length-shr l i)++(l.getD i []).drop (shr l i)
theorem qid {l:List (List Int)}(ht:okT l):∀i,(fcB l i).length<=4116*i
 |0=>by simp[fcB]
 |i+1=>by
  have h1:=qid ht i
  have h2:=q5l ht i
  have h3:=qpz l i
  have h4:=q03 (x:=shr l i) (by omega)
  have h5:=q03 (x:=(l.getD i []).length-shr l i) (by omega)
  unfold fcB
  simp only[lA,lD]
  omega
theorem qot {l:List (List Int)}(hl:l.length<=50000)(ht:okT l):∀(d i n:Nat),l.length-i=d->i<=l.length->d<n->F58c3 n l l (l.length:Int) (i:Int) (fcB l i)=some ((fcB l l.length,()),())
 |0,i,n,hd,hi',hn=>by
  obtain⟨n,rfl⟩:∃n',n=n'+1:=⟨n-1,by omega⟩
  have:i=l.length:=by omega
  subst this
  rw[F58c3_eq,dF (by omega),cF]
 |d+1,i,n,hd,hi',hn=>by
  obtain⟨n,rfl⟩:∃n',n=n'+1:=⟨n-1,by omega⟩
  have hlt:i<l.length:=by omega
  have h1:=qid ht i
  have h2:=q5l ht i
  have h3:=qpz l i
  have h4:=q03 (x:=shr l i) (by omega)
  have h5:=q03 (x:=(l.getD i []).length-shr l i) (by omega)
  have ih:=qot hl ht d (i+1) n (by omega) (by omega) (by omega)
  rw[show fcB l (i+1)=fcB l i++q0f (shr l i)++q0f ((l.getD i []).length-shr l i)++(l.getD i []).drop (shr l i)from rfl]at ih
  rw[F58c3_eq,dT (by omega),cT,if_pos (by omega),if_pos (by omega),qrp (by omega) ht hlt,oB]
  dsimp only
  rw[q01 (z:=((shr l i:Nat):Int)) (by omega) (by omega),q2m (by omega),oB]
  dsimp only
  rw[if_pos (by simp only[lim];omega),tN,q00 (z:=((l.getD i []).length:Int)-((shr l i:Nat):Int)) (by omega) (by omega),show(((l.getD i []).length:Int)-((shr l i:Nat):Int))=(((l.getD i []).length-shr l i:Nat):Int) by omega,q01 (z:=(((l.getD i []).length-shr l i:Nat):Int)) (by omega) (by omega),q2m (by omega),oB]
  dsimp only
  rw[if_pos (by simp only[lim,lA];omega),if_pos (show(0:Int)<=((shr l i:Nat):Int) by omega),if_pos (show((shr l i:Nat):Int)<=((l.getD i []).length:Int) by omega),if_pos (by omega),tN,tN,List.take_length,if_pos (by simp only[lim,lA,lD];omega),q00 (by omega) (by omega)]
  exact ih
theorem qtj {l:List (List Int)}(hl:l.length<=50000)(ht:okT l):F58.run qgq Rk1 4000000 (l,())=some ((fcB l l.length,()),()):=by
 rw[show F58.run qgq Rk1 4000000 (l,())=_ from(F58_run _ _).trans (F58c1_eq 3999999 _)]
 exact qot hl ht l.length 0 3999999 (by omega) (by omega) (by omega)
end Go.Proofs.Tryz
