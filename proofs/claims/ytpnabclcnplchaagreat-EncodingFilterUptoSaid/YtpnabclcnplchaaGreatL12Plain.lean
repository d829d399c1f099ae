/- Law 12: plain values, and the reference's common heads. -/
import Derived.Test.YtpnabclcnplchaaGreatL12Dict
set_option linter.unusedVariables false
set_option linter.unusedSimpArgs false
namespace Go.Proofs.Tryz
open Go.Eng
open IntKind (i64 u64 u8)
/-! The reference's common heads. -/
theorem quk {s t:List Int}(hs:s.length<=1000000):∀(n i:Nat),s.length-i<n->i<=s.length->i<=t.length->(∀j,j<i->s.getD j 0=t.getD j 0)->F164c2 n s t (i:Int)=some ((((cpf s t:Nat):Int),()),())
 |0,i,h,_,_,_=>by omega
 | n +1,i,h,h1,h2,he=>by
  rw[F164c2_eq]
  by_cases a:i<s.length
  ·rw [dT (by omega),cT]
   by_cases b:i<t.length
   ·rw[dT (by omega),cT]
    simp only[if_pos (show(0:Int)<=(i:Int) by omega),if_pos (show(i:Int)<(s.length:Int) by omega),if_pos (show(i:Int)<(t.length:Int) by omega),tN]
    by_cases c:s.getD i 0=t.getD i 0
    ·rw[dT c,cT,q00 (by omega) (by omega)]
     exact quk hs n (i+1) (by omega) (by omega) (by omega) fun j hj=>by
      rcases Nat.lt_or_ge j i with h'|h'
      ·exact he j h'
      ·rw[show j=i by omega];exact c
    ·rw[dF c,cF,qdu s t i he h1 h2 (fun _ _=>c)]
   ·rw[dF (by omega),cF,qdu s t i he h1 h2 (fun _ h=>absurd h b)]
  ·rw[dF (by omega),cF,qdu s t i he h1 h2 (fun h=>absurd h a)]
theorem qon {s t:List Int}(hs:s.length<=1000000):F164.run qw4 Rk5 4000000 (s,t,())=some ((((cpf s t:Nat):Int),()),()):=by
 rw[show F164.run qw4 Rk5 4000000 (s,t,())=_ from F164_run _ _ _]
 exact quk hs 4000000 0 (by omega) (by omega) (by omega) (fun j hj=>by omega)
theorem qn1 {l:List (List Int)}{i:Nat}(hl:l.length<=1000000)(ht:okT l)(hi:i<l.length):F117.run Pk26 Rk5 4000000 (l,(i:Int),())=some ((((shr l i:Nat):Int),()),()):=by
 rw[show F117.run Pk26 Rk5 4000000 (l,(i:Int),())=_ from F117_run _ _ _]
 have hm:((i:Int)).tmod 16=((i%16:Nat):Int):=by rw[Int.tmod_eq_emod_of_nonneg (by omega)];omega
 unfold shr
 rw[hm]
 by_cases h:i%16=0
 ·rw[if_pos h,dT (by omega),cT];rfl
 ·have hc:=q5y ht (i-1)
  rw[if_neg h,dF (by omega),cF,q00 (by omega) (by omega),show((i:Int)-1)=((i-1:Nat):Int) by omega,if_pos (by omega),if_pos (by omega),if_pos (by omega),if_pos (by omega),tN,tN,qon (by omega)]
  rfl
theorem qkm {l:List (List Int)}{i:Nat}(hi:i<l.length)(hl:l.length<=1000000):∀(d k n:Nat) (acc:List Int),(l.getD i []).length-k=d->k<=(l.getD i []).length->(l.getD i []).length<=4096->acc.length+d<=4294967296->
  F67c9 (n+d+1) l (i:Int) (k:Int) acc=F67c3 n l ((i+1:Nat):Int) (acc++(l.getD i []).drop k)
 |0,k,n,acc,hd,hk,h4,ha=>by
  rw[F67c9_eq,if_pos (by omega),if_pos (by omega),tN,dF (by omega),cF,q00 (by omega) (by omega),List.drop_eq_nil_of_le (by omega),List.append_nil]
  rfl
 |d+1,k,n,acc,hd,hk,h4,ha=>by
  have hkl:k<(l.getD i []).length:=by omega
  have ih:=qkm hi hl d (k+1) n (acc++[(l.getD i []).getD k 0]) (by omega) (by omega) h4 (by rw[lA,List.length_singleton];omega)
  rw[show n+(d+1)+1=(n+d+1)+1 from rfl,F67c9_eq]
  simp only[if_pos (show(0:Int)<=(i:Int) by omega),if_pos (show(i:Int)<(l.length:Int) by omega),tN]
  rw[dT (by omega),cT,if_pos (by omega),if_pos (by omega),if_pos (by simp only[lim];omega),q00 (by omega) (by omega),show((k:Int)+1)=((k+1:Nat):Int) by omega,ih,aA]
  congr 2
  rw[List.drop_eq_getElem_cons hkl,gQ (l:=l.getD i []) (i:=k),gE hkl]
  rfl
theorem qkl {l:List (List Int)}(hl:l.length<=50000)(ht:okT l):∀(d i n:Nat),l.length-i=d->i<=l.length->4100*d<n->F67c3 n l (i:Int) (fcB l i)=some ((fcB l l.length,()),())
 |0,i,n,hd,hi',hn=>by
  obtain⟨n,rfl⟩:∃n',n=n'+1:=⟨n-1,by omega⟩
  have:i=l.length:=by omega
  subst this
  rw[F67c3_eq,dF (by omega),cF]
 |d+1,i,n,hd,hi',hn=>by
  have hlt:i<l.length:=by omega
  have h1:=qhk ht i
  have h2:=q5y ht i
  have h3:=qv5 l i
  have h4:=q03 (x:=shr l i) (by omega)
  have h5:=q03 (x:=(l.getD i []).length-shr l i) (by omega)
  obtain⟨n,rfl⟩:∃n',n=(n'+((l.getD i []).length-shr l i)+1)+1:=⟨n-((l.getD i []).length-shr l i)-2,by omega⟩
  have ih:=qkl hl ht d (i+1) n (by omega) (by omega) (by omega)
  rw[show fcB l (i+1)=fcB l i++q0f (shr l i)++q0f ((l.getD i []).length-shr l i)++(l.getD i []).drop (shr l i)from rfl]at ih
  have h9:=qkm hlt (by omega) ((l.getD i []).length-shr l i) (shr l i) n (fcB l i++q0f (shr l i)++q0f ((l.getD i []).length-shr l i)) rfl h3 h2 (by simp only[lA];omega)
  rw[F67c3_eq,dT (by omega),cT,qn1 (by omega) ht hlt,oB]
  dsimp only
  rw[q01 (z:=((shr l i:Nat):Int)) (by omega) (by omega),q18 (by omega),oB]
  dsimp only
  rw[if_pos (by simp only[lim];omega),if_pos (by omega),if_pos (by omega),tN,q00 (z:=((l.getD i []).length:Int)-((shr l i:Nat):Int)) (by omega) (by omega),show(((l.getD i []).length:Int)-((shr l i:Nat):Int))=(((l.getD i []).length-shr l i:Nat):Int) by omega,q01 (z:=(((l.getD i []).length-shr l i:Nat):Int)) (by omega) (by omega),q18 (by omega),oB]
  dsimp only
  rw[if_pos (by simp only[lim,lA];omega),h9]
  exact ih
theorem qqs {l:List (List Int)}(hl:l.length<=50000)(ht:okT l):F67.run qft Rk1 400000000 (l,())=some ((fcB l l.length,()),()):=by
 rw[show F67.run qft Rk1 400000000 (l,())=_ from(F67_run _ _).trans (F67c1_eq 399999999 _)]
 exact qkl hl ht l.length 0 399999999 (by omega) (by omega) (by omega)
/-! Plain values. -/
def us1 (l:List Int)(i:Nat):Int:=u64.wrap (l.getD i 0)
def us (l:List Int):List Int:=(List.range l.length).map (us1 l)
theorem qax (l:List Int):(us l).length=l.length:=by simp[us]
theorem z104 (l:List Int):okU (us l):=by
 intro i hi
 rw[qax]at hi
 rw[us,q2u hi]
 exact qih _
theorem qom {l:List Int}(hl:l.length<=50000):∀(d i n:Nat),l.length-i=d->i<=l.length->d<n->F60c5 n l (l.length:Int) (i:Int) (fil (us1 l) l.length i)=some ((q21 (us l) 1,()),())
 |0,i,n,hd,hi',hn=>by
  obtain⟨n,rfl⟩:∃n',n=n'+1:=⟨n-1,by omega⟩
  have:i=l.length:=by omega
  subst this
  rw[F60c5_eq,dF (by omega),cF,q7o,show F98.run Pkq Rk1 4000000 ((List.range l.length).map (us1 l),(1:Int),())=_ from qi1 (z104 l) (w:=1) (by omega) (by rw[qax];omega),oB]
 |d+1,i,n,hd,hi',hn=>by
  obtain⟨n,rfl⟩:∃n',n=n'+1:=⟨n-1,by omega⟩
  rw[F60c5_eq,dT (by omega),cT,if_pos (by omega),if_pos (by omega),if_pos (by omega),if_pos (by rw[q9b hi'];omega),tN,q00 (by omega) (by omega),q7p (g:=us1 l) (z:=u64.wrap (l.getD i 0)) (by omega) rfl]
  exact qom hl d (i+1) n (by omega) (by omega) (by omega)
def fb (x:Nat)(j:Nat):Int:=((x/2^(8*j)%256:Nat):Int)
def fx (x:Nat):List Int:=(List.range 8).map (fb x)
theorem qo7 (x:Nat):(fx x).length=8:=by simp[fx]
theorem qo2 {x:Nat}:∀(d j n:Nat),8-j=d->j<=8->d<n->F104c5 n (x:Int) (8:Int) (j:Int) (fil (fb x) 8 j)=some ((fx x,()),())
 |0,j,n,hd,hj,hn=>by
  obtain⟨n,rfl⟩:∃n',n=n'+1:=⟨n-1,by omega⟩
  have:j=8:=by omega
  subst this
  rw[F104c5_eq,dF (by omega),cF,q7o]
  rfl
 |d+1,j,n,hd,hj,hn=>by
  obtain⟨n,rfl⟩:∃n',n=n'+1:=⟨n-1,by omega⟩
  have h8:i64.wrap ((8:Int)*(j:Int))=((8*j:Nat):Int):=by rw[q00 (by omega) (by omega)];omega
  rw[F104c5_eq,dT (by omega),cT,h8,if_pos (by omega),if_pos (by omega),if_pos (by rw[q9b hj];omega),tN,q00 (by omega) (by omega),z13d x (8*j) (by omega),qbx,q7p (g:=fb x) (z:=((x/2^(8*j)%256:Nat):Int)) (by omega) rfl]
  exact qo2 d (j+1) n (by omega) (by omega) (by omega)
theorem qso {x:Nat}:F104.run Pkk Rk1 4000000 ((x:Int),(8:Int),())=some ((fx x,()),()):=by
 rw[show F104.run Pkk Rk1 4000000 ((x:Int),(8:Int),())=_ from(F104_run _ _ _).trans (F104c1_eq 3999999 _ _),dF (by omega),cF,dF (by omega),cF,F104c3_eq (n:=3999998),if_pos (by omega),if_pos (by decide),show Int.toNat (8:Int)=8 from rfl,<-q6t (fb x)]
 exact qo2 8 0 3999998 (by omega) (by omega) (by omega)
theorem qkj {x:Nat}(hx:x<18446744073709551616):∀(d j n:Nat),8-j=d->j<=8->d<n->F107c5 n ((x/2^(8*j):Nat):Int) (8:Int) (j:Int) ((List.range j).map (fb x))=some ((fx x,()),())
 |0,j,n,hd,hj,hn=>by
  obtain⟨n,rfl⟩:∃n',n=n'+1:=⟨n-1,by omega⟩
  have:j=8:=by omega
  subst this
  rw[F107c5_eq,dF (by omega),cF]
  rfl
 |d+1,j,n,hd,hj,hn=>by
  obtain⟨n,rfl⟩:∃n',n=n'+1:=⟨n-1,by omega⟩
  have ih:=qkj hx d (j+1) n (by omega) (by omega) (by omega)
  have hle:x/2^(8*j)<=x:=Nat.div_le_self _ _
  have hdd:x/2^(8*(j+1))=x/2^(8*j)/256:=by rw[Nat.div_div_eq_div_mul,show 8*(j+1)=8*j+8 by omega,Nat.pow_add]
  rw[hdd,List.range_succ,List.map_append,List.map_cons,List.map_nil,fb]at ih
  generalize x/2^(8*j)=y at ih hle ⊢
  rw[F107c5_eq,dT (by omega),cT,if_pos (by simp only[List.length_map,List.length_range,lim];omega),show((y:Nat):Int).tdiv 256=((y/256:Nat):Int)from by rw[Int.tdiv_eq_ediv_of_nonneg (by omega)];omega,show((y:Nat):Int).tmod 256=((y%256:Nat):Int)from by rw[Int.tmod_eq_emod_of_nonneg (by omega)];omega,q01 (by omega) (by omega),q1x (by omega) (by omega),q00 (by omega) (by omega)]
  exact ih
theorem qqp {x:Nat}(hx:x<18446744073709551616):F107.run Pkk Rk1 4000000 ((x:Int),(8:Int),())=some ((fx x,()),()):=by
 rw[show F107.run Pkk Rk1 4000000 ((x:Int),(8:Int),())=_ from(F107_run _ _ _).trans (F107c1_eq 3999999 _ _),dF (by omega),cF,dF (by omega),cF,F107c3_eq (n:=3999998)]
 have:=qkj hx 8 0 3999998 (by omega) (by omega) (by omega)
 simpa using this
end Go.Proofs.Tryz
