/- Law 12: plain values, and the reference's common heads. -/
import Derived.Test.YtpnabclcnplchaaGreatL12Dict
set_option linter.unusedVariables false
set_option linter.unusedSimpArgs false
namespace Go.Proofs.Tryz
open Go.Eng
open IntKind (i64 u64 u8)
/-! The reference's common heads. -/
theorem qv3 {s t:List Int}(hs:s.length<=1000000):∀(n i:Nat),s.length-i<n->i<=s.length->i<=t.length->(∀j,j<i->s.getD j 0=t.getD j 0)->F164c2 n s t (i:Int)=some ((((cpf s t:Nat):Int),()),())
 |0,i,h,_,_,_=>by omega
 | n +1,i,h,h1,h2,he=>by
  rw[F164c2_eq]
  by_cases a:i<s.length
  ·rw [dT (by omega),cT]
   by_cases b:i<t.length
   ·rw[dT (by omega),cT]
    simp only[if_pos (show(0:Int)<=(i:Int) by omega),if_pos (show(i:Int)<(s.length:Int) by omega),if_pos (show(i:Int)<(t.length:Int) by omega),tN]
    by_cases c:s.getD i 0=t.getD i 0
    ·rw[dT c,cT,q00 (by omega) (by omega)]
     exact qv3 hs n (i+1) (by omega) (by omega) (by omega) fun j hj=>by
      rcases Nat.lt_or_ge j i with h'|h'
      ·exact he j h'
      ·rw[show j=i by omega];exact c
    ·rw[dF c,cF,qeh s t i he h1 h2 (fun _ _=>c)]
   ·rw[dF (by omega),cF,qeh s t i he h1 h2 (fun _ h=>absurd h b)]
  ·rw[dF (by omega),cF,qeh s t i he h1 h2 (fun h=>absurd h a)]
theorem qpd {s t:List Int}(hs:s.length<=1000000):F164.run qyl Rk6 4000000 (s,t,())=some ((((cpf s t:Nat):Int),()),()):=by
 rw[show F164.run qyl Rk6 4000000 (s,t,())=_ from F164_run _ _ _]
 exact qv3 hs 4000000 0 (by omega) (by omega) (by omega) (fun j hj=>by omega)
theorem qnm {l:List (List Int)}{i:Nat}(hl:l.length<=1000000)(ht:okT l)(hi:i<l.length):F117.run Pk21 Rk6 4000000 (l,(i:Int),())=some ((((shr l i:Nat):Int),()),()):=by
 rw[show F117.run Pk21 Rk6 4000000 (l,(i:Int),())=_ from F117_run _ _ _]
 have hm:((i:Int)).tmod 16=((i%16:Nat):Int):=by rw[Int.tmod_eq_emod_of_nonneg (by omega)];omega
 unfold shr
 rw[hm]
 by_cases h:i%16=0
 ·rw[if_pos h,dT (by omega),cT];rfl
 ·have hc:=q5l ht (i-1)
  rw[if_neg h,dF (by omega),cF,q00 (by omega) (by omega),show((i:Int)-1)=((i-1:Nat):Int) by omega,if_pos (by omega),if_pos (by omega),if_pos (by omega),if_pos (by omega),tN,tN,qpd (by omega)]
  rfl
theorem qld {l:List (List Int)}{i:Nat}(hi:i<l.length)(hl:l.length<=1000000):∀(d k n:Nat) (acc:List Int),(l.getD i []).length-k=d->k<=(l.getD i []).length->(l.getD i []).length<=4096->acc.length+d<=4294967296->
  F67c9 (n+d+1) l (i:Int) (k:Int) acc=F67c3 n l ((i+1:Nat):Int) (acc++(l.getD i []).drop k)
 |0,k,n,acc,hd,hk,h4,ha=>by
  rw[F67c9_eq,if_pos (by omega),if_pos (by omega),tN,dF (by omega),cF,q00 (by omega) (by omega),List.drop_eq_nil_of_le (by omega),List.append_nil]
  rfl
 |d+1,k,n,acc,hd,hk,h4,ha=>by
  have hkl:k<(l.getD i []).length:=by omega
  have ih:=qld hi hl d (k+1) n (acc++[(l.getD i []).getD k 0]) (by omega) (by omega) h4 (by rw[lA,List.length_singleton];omega)
  rw[show n+(d+1)+1=(n+d+1)+1 from rfl,F67c9_eq]
  simp only[if_pos (show(0:Int)<=(i:Int) by omega),if_pos (show(i:Int)<(l.length:Int) by omega),tN]
  rw[dT (by omega),cT,if_pos (by omega),if_pos (by omega),if_pos (by simp only[lim];omega),q00 (by omega) (by omega),show((k:Int)+1)=((k+1:Nat):Int) by omega,ih,aA]
  congr 2
  rw[List.drop_eq_getElem_cons hkl,gQ (l:=l.getD i []) (i:=k),gE hkl]
  rfl
theorem qlc {l:List (List Int)}(hl:l.length<=50000)(ht:okT l):∀(d i n:Nat),l.length-i=d->i<=l.length->4100*d<n->F67c3 n l (i:Int) (fcB l i)=some ((fcB l l.length,()),())
 |0,i,n,hd,hi',hn=>by
  obtain⟨n,rfl⟩:∃n',n=n'+1:=⟨n-1,by omega⟩
  have:i=l.length:=by omega
  subst this
  rw[F67c3_eq,dF (by omega),cF]
 |d+1,i,n,hd,hi',hn=>by
  have hlt:i<l.length:=by omega
  have h1:=qid ht i
  have h2:=q5l ht i
  have h3:=qpz l i
  have h4:=q03 (x:=shr l i) (by omega)
  have h5:=q03 (x:=(l.getD i []).length-shr l i) (by omega)
  obtain⟨n,rfl⟩:∃n',n=(n'+((l.getD i []).length-shr l i)+1)+1:=⟨n-((l.getD i []).length-shr l i)-2,by omega⟩
  have ih:=qlc hl ht d (i+1) n (by omega) (by omega) (by omega)
  rw[show fcB l (i+1)=fcB l i++q0f (shr l i)++q0f ((l.getD i []).length-shr l i)++(l.getD i []).drop (shr l i)from rfl]at ih
  have h9:=qld hlt (by omega) ((l.getD i []).length-shr l i) (shr l i) n (fcB l i++q0f (shr l i)++q0f ((l.getD i []).length-shr l i)) rfl h3 h2 (by simp only[lA];omega)
  rw[F67c3_eq,dT (by omega),cT,qnm (by omega) ht hlt,oB]
  dsimp only
  rw[q01 (z:=((shr l i:Nat):Int)) (by omega) (by omega),q1c (by omega),oB]
  dsimp only
  rw[if_pos (by simp only[lim];omega),if_pos (by omega),if_pos (by omega),tN,q00 (z:=((l.getD i []).length:Int)-((shr l i:Nat):Int)) (by omega) (by omega),show(((l.getD i []).length:Int)-((shr l i:Nat):Int))=(((l.getD i []).length-shr l i:Nat):Int) by omega,q01 (z:=(((l.getD i []).length-shr l i:Nat):Int)) (by omega) (by omega),q1c (by omega),oB]
  dsimp only
  rw[if_pos (by simp only[lim,lA];omega),h9]
  exact ih
theorem qri {l:List (List Int)}(hl:l.length<=50000)(ht:okT l):F67.run qgq Rk1 400000000 (l,())=some ((fcB l l.length,()),()):=by
 rw[show F67.run qgq Rk1 400000000 (l,())=_ from(F67_run _ _).trans (F67c1_eq 399999999 _)]
 exact qlc hl ht l.length 0 399999999 (by omega) (by omega) (by omega)
/-! Plain values. -/
def us1 (l:List Int)(i:Nat):Int:=u64.wrap (l.getD i 0)
def us (l:List Int):List Int:=(List.range l.length).map (us1 l)
theorem qbh (l:List Int):(us l).length=l.length:=by simp[us]
theorem z10c (l:List Int):okU (us l):=by
 intro i hi
 rw[qbh]at hi
 rw[us,q31 hi]
 exact qjb _
theorem qpb {l:List Int}(hl:l.length<=50000):∀(d i n:Nat),l.length-i=d->i<=l.length->d<n->F60c5 n l (l.length:Int) (i:Int) (fil (us1 l) l.length i)=some ((q27 (us l) 1,()),())
 |0,i,n,hd,hi',hn=>by
  obtain⟨n,rfl⟩:∃n',n=n'+1:=⟨n-1,by omega⟩
  have:i=l.length:=by omega
  subst this
  rw[F60c5_eq,dF (by omega),cF,q89,show F98.run Pko Rk1 4000000 ((List.range l.length).map (us1 l),(1:Int),())=_ from qix (z10c l) (w:=1) (by omega) (by rw[qbh];omega),oB]
 |d+1,i,n,hd,hi',hn=>by
  obtain⟨n,rfl⟩:∃n',n=n'+1:=⟨n-1,by omega⟩
  rw[F60c5_eq,dT (by omega),cT,if_pos (by omega),if_pos (by omega),if_pos (by omega),if_pos (by rw[q9v hi'];omega),tN,q00 (by omega) (by omega),q8a (g:=us1 l) (z:=u64.wrap (l.getD i 0)) (by omega) rfl]
  exact qpb hl d (i+1) n (by omega) (by omega) (by omega)
def fb (x:Nat)(j:Nat):Int:=((x/2^(8*j)%256:Nat):Int)
def fx (x:Nat):List Int:=(List.range 8).map (fb x)
theorem qou (x:Nat):(fx x).length=8:=by simp[fx]
theorem qop {x:Nat}:∀(d j n:Nat),8-j=d->j<=8->d<n->F104c5 n (x:Int) (8:Int) (j:Int) (fil (fb x) 8 j)=some ((fx x,()),())
 |0,j,n,hd,hj,hn=>by
  obtain⟨n,rfl⟩:∃n',n=n'+1:=⟨n-1,by omega⟩
  have:j=8:=by omega
  subst this
  rw[F104c5_eq,dF (by omega),cF,q89]
  rfl
 |d+1,j,n,hd,hj,hn=>by
  obtain⟨n,rfl⟩:∃n',n=n'+1:=⟨n-1,by omega⟩
  have h8:i64.wrap ((8:Int)*(j:Int))=((8*j:Nat):Int):=by rw[q00 (by omega) (by omega)];omega
  rw[F104c5_eq,dT (by omega),cT,h8,if_pos (by omega),if_pos (by omega),if_pos (by rw[q9v hj];omega),tN,q00 (by omega) (by omega),z12u x (8*j) (by omega),qck,q8a (g:=fb x) (z:=((x/2^(8*j)%256:Nat):Int)) (by omega) rfl]
  exact qop d (j+1) n (by omega) (by omega) (by omega)
theorem qte {x:Nat}:F104.run Pkj Rk1 4000000 ((x:Int),(8:Int),())=some ((fx x,()),()):=by
 rw[show F104.run Pkj Rk1 4000000 ((x:Int),(8:Int),())=_ from(F104_run _ _ _).trans (F104c1_eq 3999999 _ _),dF (by omega),cF,dF (by omega),cF,F104c3_eq (n:=3999998),if_pos (by omega),if_pos (by decide),show Int.toNat (8:Int)=8 from rfl,<-q77 (fb x)]
 exact qop 8 0 3999998 (by omega) (by omega) (by omega)
theorem qla {x:Nat}(hx:x<18446744073709551616):∀(d j n:Nat),8-j=d->j<=8->d<n->F107c5 n ((x/2^(8*j):Nat):Int) (8:Int) (j:Int) ((List.range j).map (fb x))=some ((fx x,()),())
 |0,j,n,hd,hj,hn=>by
  obtain⟨n,rfl⟩:∃n',n=n'+1:=⟨n-1,by omega⟩
  have:j=8:=by omega
  subst this
  rw[F107c5_eq,dF (by omega),cF]
  rfl
 |d+1,j,n,hd,hj,hn=>by
  obtain⟨n,rfl⟩:∃n',n=n'+1:=⟨n-1,by omega⟩
  have ih:=qla hx d (j+1) n (by omega) (by omega) (by omega)
  have hle:x/2^(8*j)<=x:=Nat.div_le_self _ _
  have hdd:x/2^(8*(j+1))=x/2^(8*j)/256:=by rw[Nat.div_div_eq_div_mul,show 8*(j+1)=8*j+8 by omega,Nat.pow_add]
  rw[hdd,List.range_succ,List.map_append,List.map_cons,List.map_nil,fb]at ih
  generalize x/2^(8*j)=y at ih hle ⊢
  rw[F107c5_eq,dT (by omega),cT,if_pos (by simp only[List.length_map,List.length_range,lim];omega),show((y:Nat):Int).tdiv 256=((y/256:Nat):Int)from by rw[Int.tdiv_eq_ediv_of_nonneg (by omega)];omega,show((y:Nat):Int).tmod 256=((y%256:Nat):Int)from by rw[Int.tmod_eq_emod_of_nonneg (by omega)];omega,q01 (by omega) (by omega),q23 (by omega) (by omega),q00 (by omega) (by omega)]
  exact ih
theorem qrf {x:Nat}(hx:x<18446744073709551616):F107.run Pkj Rk1 4000000 ((x:Int),(8:Int),())=some ((fx x,()),()):=by
 rw[show F107.run Pkj Rk1 4000000 ((x:Int),(8:Int),())=_ from(F107_run _ _ _).trans (F107c1_eq 3999999 _ _),dF (by omega),cF,dF (by omega),cF,F107c3_eq (n:=3999998)]
 have:=qla hx 8 0 3999998 (by omega) (by omega) (by omega)
 simpa using this
end Go.Proofs.Tryz
