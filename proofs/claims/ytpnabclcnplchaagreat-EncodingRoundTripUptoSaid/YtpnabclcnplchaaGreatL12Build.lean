/- Law 12, after law 10: what Build and the reference's Build compute: the words in order, and the place of each string. -/
import Derived.Test.YtpnabclcnplchaaGreatL12Range
set_option linter.unusedVariables false
set_option linter.unusedSimpArgs false
namespace Go.Proofs.Tryz
open Go.Eng
open IntKind (i64 u64 u8)
/-! Maps. -/
theorem qr8 {α β:Type}[DecidableEq α](m:List (α×β))(x:α)(y:β)(z:α):
  q7b (fun a b=>decide (a=b)) (qp7 (fun a b=>decide (a=b)) m x y) z=if z=x then some y else q7b (fun a b=>decide (a=b)) m z:=by
 induction m with
 |nil=>simp only[qp7,q7b];by_cases h:z=x<;>simp[h]
 | cons p r ih=>
  obtain⟨k,w⟩:=p
  simp only[qp7]
  by_cases h:x=k
  ·subst h
   simp only[decide_true,cT,q7b]
   by_cases h2:z=x<;>simp[h2]
  ·simp only[dF h,cF,q7b,ih]
   by_cases h2:z=k
   ·subst h2
    simp only[decide_true,cT,if_neg (show¬z=x from fun e=>h e.symm)]
   ·simp[h2]
/-! The distinct ones, in order of their first place. -/
def q6c (acc:List (List Int))(s:List Int):List (List Int):=if s∈acc then acc else acc++[s]
def nub (l:List (List Int)):List (List Int):=l.foldl q6c []
theorem qy0 {l:List (List Int)}{i:Nat}(h:i<l.length):nub (l.take (i+1))=q6c (nub (l.take i)) (l.getD i []):=by
 rw[List.take_succ_eq_append_getElem h,nub,List.foldl_append,gQ,gE h]
 rfl
theorem z125 (l:List (List Int)):∀s,s∈nub l<->s∈l:=by
 have key:∀(l acc:List (List Int)) s,s∈l.foldl q6c acc<->s∈acc\/s∈l:=by
  intro l
  induction l with
  |nil=>intro acc s;simp
  | cons x r ih=>
   intro acc s
   rw[List.foldl_cons,ih]
   unfold q6c
   by_cases h:x∈acc
   ·rw[if_pos h]
    constructor
    ·rintro(h1|h1)
     ·exact .inl h1
     ·exact .inr (mC _ h1)
    ·rintro(h1|h1)
     ·exact .inl h1
     ·rcases List.mem_cons.1 h1 with rfl|h1
      ·exact .inl h
      ·exact .inr h1
   ·rw[if_neg h]
    simp only[mA,List.mem_cons,List.not_mem_nil,or_false,or_assoc]
 intro s
 rw[nub,key]
 simp
theorem qup (l:List (List Int)):(nub l).Nodup:=by
 have key:∀(l acc:List (List Int)),acc.Nodup->(l.foldl q6c acc).Nodup:=by
  intro l
  induction l with
  |nil=>intro acc h;exact h
  | cons x r ih=>
   intro acc h
   rw[List.foldl_cons]
   refine ih _ ?_
   unfold q6c
   by_cases hx:x∈acc
   ·rw[if_pos hx];exact h
   ·rw[if_neg hx]
    refine List.nodup_append.2 ⟨h,by simp,?_⟩
    intro a ha b hb e
    rw[List.mem_singleton]at hb
    rw[e,hb]at ha
    exact hx ha
 exact key l [] List.nodup_nil
theorem qna (l:List (List Int)):(nub l).length<=l.length:=by
 have key:∀(l acc:List (List Int)),(l.foldl q6c acc).length<=acc.length+l.length:=by
  intro l
  induction l with
  |nil=>intro acc;simp
  |cons x r ih=>
   intro acc
   rw[List.foldl_cons]
   refine Nat.le_trans (ih _) ?_
   unfold q6c
   by_cases hx:x∈acc
   ·rw[if_pos hx,lC];omega
   ·rw[if_neg hx,lC,lA,List.length_singleton];omega
 have:=key l []
 simpa[nub]using this
/-! Strictly increasing lists. -/
theorem q2l.pair {w:List (List Int)}(h:q2l w):w.Pairwise (fun a b=>q0s a b=true):=by
 rw[List.pairwise_iff_getElem]
 intro i j hi hj hij
 have:=h i j hij hj
 rwa [gQ,gQ,gE hi,gE hj]at this
theorem q2l.of_pair {w:List (List Int)}(h:w.Pairwise (fun a b=>q0s a b=true)):q2l w:=by
 intro i j hij hj
 rw[gQ,gQ,gE (by omega),gE hj]
 exact List.pairwise_iff_getElem.1 h i j (by omega) hj hij
theorem q2l.nodup {w:List (List Int)}(h:q2l w):w.Nodup:=
 h.pair.imp fun{a b} hab e=>by rw[e,q4t]at hab;cases hab
theorem qlf {l:List (List Int)}(h:l.Nodup):q2l (q9y l):=by
 have h1:(q9y l).Nodup:=(q58 l).nodup_iff.2 h
 refine q2l.of_pair ((List.Pairwise.and (q8i l) h1).imp fun{a b} hab=>?_)
 cases hc:q0s a b with
 |true=>rfl
 |false=>exact absurd (q95 hc hab.1) hab.2
theorem qj3 {a b:List (List Int)}(ha:q2l a)(hb:q2l b)(h:∀s,s∈a<->s∈b):a=b:=by
 have hp:a.Perm b:=(List.perm_ext_iff_of_nodup ha.nodup hb.nodup).2 h
 refine List.Perm.eq_of_pairwise (le:=fun a b=>q0s a b=true) (fun x y _ _ h1 h2=>?_) ha.pair hb.pair hp
 rw[qg6 h1]at h2
 cases h2
/-! Find. -/
def qm3 (s:List Int):List (List Int)->Nat->Int×Bool
 |[],_=>(0,false)
 |x::r,i=>if x=s then((i:Int),true)else qm3 s r (i+1)
def fnd (w:List (List Int))(s:List Int):Int×Bool:=qm3 s w 0
theorem qii {s:List Int}:∀(w:List (List Int)) (i k:Nat),k<w.length->w.getD k []=s->(∀j,j<k->w.getD j []≠s)->qm3 s w i=(((i+k:Nat):Int),true)
 |[],i,k,h,_,_=>by simp at h
 |x::r,i,0,_,h,_=>by
  have h:x=s:=by simpa using h
  simp[qm3,h]
 |x::r,i,k+1,hk,h,hn=>by
  have h0:x≠s:=by simpa using hn 0 (by omega)
  rw[qm3,if_neg h0,qii r (i+1) k (by simpa using hk) (by simpa using h) (fun j hj=>by simpa using hn (j+1) (by omega))]
  congr 2
  omega
theorem qf3 {s:List Int}:∀(w:List (List Int)) (i:Nat),(∀j,j<w.length->w.getD j []≠s)->qm3 s w i=(0,false)
 |[],i,_=>rfl
 |x::r,i,h=>by
  have h0:x≠s:=by simpa using h 0 (by simp)
  rw[qm3,if_neg h0,qf3 r (i+1) (fun j hj=>by simpa using h (j+1) (by simpa using hj))]
theorem qh5 {s:List Int}{w:List (List Int)}(hlen:w.length<4611686018427387904):∀(n i:Nat),w.length-i<n->i<=w.length->
  F162c2 n w s i=some (((qm3 s (w.drop i) i).1,(qm3 s (w.drop i) i).2,()),())
 |0,i,h,_=>by omega
 | n+1,i,h,hi=>by
  rw[F162c2_eq]
  by_cases hlt:i<w.length
  ·simp only[dT (show(i:Int)<(w.length:Int) by omega),cT,if_pos (show(0:Int)<=(i:Int) by omega),if_pos (show(i:Int)<(w.length:Int) by omega),tN]
   rw[List.drop_eq_getElem_cons hlt,qm3]
   have hg:w.getD i []=w[i]:=by rw[gQ,gE hlt];rfl
   simp only[hg]
   by_cases he:w[i]=s
   ·rw[dT he,if_pos he];rfl
   ·rw[dF he,if_neg he,cF,q00 (by omega) (by omega)]
    exact qh5 hlen n (i+1) (by omega) (by omega)
  ·rw[dF (by omega),List.drop_eq_nil_of_le (by omega)]
   rfl
theorem qnj {s:List Int}{w:List (List Int)}(hlen:w.length<=3000000):
  F162.run Pk2a Rk25 4000000 (w,s,())=some (((fnd w s).1,(fnd w s).2,()),()):=by
 rw[show F162.run Pk2a Rk25 4000000 (w,s,())=_ from F162_run _ _ _]
 exact qh5 (by omega) 4000000 0 (by omega) (by omega)
theorem qxf {s:List Int}{w:List (List Int)}(hw:q2l w)(hlen:w.length<=3000000):
  F154.run Pk2a Rk25 4000000 (w,s,())=some (((fnd w s).1,(fnd w s).2,()),()):=by
 rw[show F154.run Pk2a Rk25 4000000 (w,s,())=_ from F154_run _ _ _]
 obtain⟨k,h1,p1⟩:=quf (e:=false) (s:=s) hw hlen
 rw[h1,oB]
 have e0:∀x:List Int,ptr false s x=q0s x s:=fun x=>by simp only[ptr,Bool.false_and,Bool.or_false]
 have lt:∀j,j<k->w.getD j []≠s:=fun j hj e=>by
  have:=p1.2.1 j hj
  rw[e0,e,q4t]at this
  cases this
 have gt:∀j,k<j->j<w.length->w.getD j []≠s:=fun j hj hjl e=>by
  have h2:=p1.2.2 k (nR _) (by omega)
  have h3:=hw k j hj hjl
  rw[e0]at h2
  rw[e,h2]at h3
  cases h3
 by_cases hk:k=w.length
 ·rw[dT (show(k:Int)=(w.length:Int) by omega),cT]
  have:fnd w s=(0,false):=qf3 w 0 (fun j hj=>lt j (by omega))
  rw[this]
 ·have hkl:k<w.length:=by have:=p1.1;omega
  simp only[dF (show¬(k:Int)=(w.length:Int) by omega),cF,if_pos (show(0:Int)<=(k:Int) by omega),if_pos (show(k:Int)<(w.length:Int) by omega),tN]
  by_cases he:w.getD k []=s
  ·rw[dT he]
   have:fnd w s=((k:Int),true):=by
    have:=qii w 0 k hkl he lt
    rwa [Nat.zero_add]at this
   rw[this]
   rfl
  ·rw[dF he]
   have:fnd w s=(0,false):=qf3 w 0 (fun j hj=>by
    rcases Nat.lt_trichotomy j k with h|h|h
    ·exact lt j h
    ·rw[h];exact he
    ·exact gt j h hj)
   rw[this]
   rfl
theorem qwz {s:List Int}{w:List (List Int)}(hw:q2l w)(hlen:w.length<=3000000):
  F153.run Pk2s Rk6 4000000 (s,(w,()),())=some (((fnd w s).1,()),((w,()),())):=by
 rw[show F153.run Pk2s Rk6 4000000 (s,(w,()),())=_ from F153_run _ _ _,qxf hw hlen]
 rfl
/-! Build. -/
def words (l:List (List Int)):List (List Int):=q9y (nub l)
def q0l (l:List (List Int)):List Int:=l.map fun s=>(fnd (words l) s).1
theorem q68 (l:List (List Int)):q2l (words l):=qlf (qup l)
theorem q2b (l:List (List Int)):(words l).length<=l.length:=by
 rw[words,(q58 _).length_eq]
 exact qna l
theorem q3u (l:List (List Int))(s:List Int):s∈words l<->s∈l:=by
 rw[words,(q58 _).mem_iff,z125]
theorem qjq {l W:List (List Int)}(hW:q2l W)(hWl:W.length<=3000000)(hlen:l.length<=1500000):∀(n i:Nat),l.length-i<n->i<=l.length->
  F101c12 n l (l.length:Int) i ((l.take i).map fun s=>(fnd W s).1) W=some ((W,(l.map fun s=>(fnd W s).1),()),())
 |0,i,h,_=>by omega
 | n+1,i,h,hi=>by
  rw[F101c12_eq]
  by_cases hlt:i<l.length
  ·simp only[dT (show(i:Int)<(l.length:Int) by omega),cT,if_pos (show(0:Int)<=(i:Int) by omega),if_pos (show(i:Int)<(l.length:Int) by omega),tN]
   rw[qwz hW hWl,oB,if_pos (by simp only[List.length_map,lT,lim];omega),q00 (by omega) (by omega)]
   have:=qjq (l:=l) hW hWl hlen n (i+1) (by omega) (by omega)
   rw[List.take_succ_eq_append_getElem hlt,List.map_append]at this
   rw[gQ,gE hlt]
   exact this
  ·have:i=l.length:=by omega
   subst this
   rw[dF (by omega),List.take_length]
   rfl
theorem qhn {l:List (List Int)}(hlen:l.length<=1500000):∀(n i:Nat) (m:List (List Int×Bool)),2*l.length+2-i<n->i<=l.length->
  (∀s,q7b (fun a b=>decide (a=b)) m s=if s∈nub (l.take i)then some true else none)->
  F101c3 n l l (l.length:Int) i [] m (nub (l.take i))=some ((words l,q0l l,()),())
 |0,i,m,h,_,_=>by omega
 | n +1,i,m,h,hi,hm=>by
  rw[F101c3_eq]
  by_cases hlt:i<l.length
  ·simp only[dT (show(i:Int)<(l.length:Int) by omega),cT,if_pos (show(0:Int)<=(i:Int) by omega),if_pos (show(i:Int)<(l.length:Int) by omega),tN]
   rw[hm,q00 (by omega) (by omega)]
   have hn:=qy0 hlt
   have hl:(nub (l.take i)).length<=i:=Nat.le_trans (qna _) (by simp;omega)
   by_cases hs:l.getD i []∈nub (l.take i)
   ·rw[if_pos hs]
    rw[q6c,if_pos hs]at hn
    have:=qhn hlen n (i+1) m (by omega) (by omega) (by rw[hn];exact hm)
    rw[hn]at this
    exact this
   ·rw[if_neg hs]
    rw[q6c,if_neg hs]at hn
    have:=qhn hlen n (i+1) (qp7 (fun a b=>decide (a=b)) m (l.getD i []) true) (by omega) (by omega) (by
     intro s
     rw[hn,qr8,hm]
     by_cases h1:s=l.getD i []
     ·rw[if_pos h1,if_pos (by rw[h1];simp)]
     ·rw[if_neg h1]
      simp only[mA,List.mem_singleton,h1,or_false])
    rw[hn]at this
    simp only[orZ,nF,cT]
    rw[if_pos (by simp only[lim];omega)]
    exact this
  ·have:i=l.length:=by omega
   subst this
   rw[dF (by omega),List.take_length]
   have hb:(nub l).length.blt 4611686018427387904=true:=Nat.ble_eq_true_of_le (by have:=qna l;omega)
   rw[hb]
   exact qjq (q68 l) (by have:=q2b l;omega) hlen n 0 (by omega) (by omega)
theorem qsm {l:List (List Int)}(hlen:l.length<=1500000):
  F101.run qgq Rk1t 4000000 (l,())=some ((words l,q0l l,()),()):=by
 rw[show F101.run qgq Rk1t 4000000 (l,())=F101c1 (3999999+1) l [] []from F101_run _ _,F101c1_eq]
 exact qhn hlen 3999999 0 [] (by omega) (by omega) (fun s=>rfl)
/-! The reference's Build. -/
theorem qv6 {l W:List (List Int)}(hWl:W.length<=3000000)(hlen:l.length<=1500000):∀(n i:Nat),l.length-i<n->i<=l.length->
  F114c17 n l i W ((l.take i).map fun s=>(fnd W s).1)=some ((W,(l.map fun s=>(fnd W s).1),()),())
 |0,i,h,_=>by omega
 | n+1,i,h,hi=>by
  rw[F114c17_eq]
  by_cases hlt:i<l.length
  ·simp only[dT (show(i:Int)<(l.length:Int) by omega),cT,if_pos (show(0:Int)<=(i:Int) by omega),if_pos (show(i:Int)<(l.length:Int) by omega),tN]
   rw[qnj hWl,oB,if_pos (by simp only[List.length_map,lT,lim];omega),q00 (by omega) (by omega)]
   have:=qv6 (l:=l) hWl hlen n (i+1) (by omega) (by omega)
   rw[List.take_succ_eq_append_getElem hlt,List.map_append]at this
   rw[gQ,gE hlt]
   exact this
  ·have:i=l.length:=by omega
   subst this
   rw[dF (by omega),List.take_length]
   rfl
theorem qzz {l W:List (List Int)}{i:Nat}(hi:i<l.length)(hlen:l.length<=1500000)(hWl:W.length<=i)(hW:q2l W):∀(n k:Nat),k<n->k<=W.length->(∀j,k<=j->j<W.length->q0s (l.getD i []) (W.getD j [])=true)->
  ∃m a,n<=m+k+1/\F114c6 n l i k W=F114c8 m l i (a:Nat) W/\a<=W.length/\(∀j,a<=j->j<W.length->q0s (l.getD i []) (W.getD j [])=true)/\(0<a->q0s (l.getD i []) (W.getD (a-1) [])=false)
 |0,k,h,_,_=>by omega
 |n+1,0,h,_,hj=>by
  rw[F114c6_eq,dF (by omega)]
  exact⟨n,0,by omega,rfl,by omega,hj,fun h=>by omega⟩
 | n+1,k+1,h,hk,hj=>by
  have hw:i64.wrap (((k+1:Nat):Int)-1)=(k:Int):=by rw[q00 (by omega) (by omega)];omega
  rw[F114c6_eq,hw]
  simp only[dT (show(0:Int)<((k+1:Nat):Int) by omega),cT,if_pos (show(0:Int)<=(k:Int) by omega),if_pos (show(k:Int)<(W.length:Int) by omega),if_pos (show(0:Int)<=(i:Int) by omega),if_pos (show(i:Int)<(l.length:Int) by omega),tN]
  cases hc:q0s (l.getD i []) (W.getD k [])with
  | true=>
   obtain⟨m,a,h1,h2,h3⟩:=qzz hi hlen hWl hW n k (by omega) (by omega) (fun j hj1 hj2=>by
    rcases Nat.eq_or_lt_of_le hj1 with rfl|hj1
    ·exact hc
    ·exact hj j (by omega) hj2)
   exact⟨m,a,by omega,h2,h3⟩
  |false=>exact⟨n,k+1,by omega,rfl,hk,hj,fun _=>by simpa using hc⟩
def z1bl (W:List (List Int))(a:Nat)(s:List Int):List (List Int):=W.take a++s::W.drop a
def z18v (W:List (List Int))(k:Nat):List (List Int):=W.take k++W.getD k []::W.drop k
theorem qv5 {l W:List (List Int)}{i a:Nat}(hi:i<l.length)(hlen:l.length<=1500000)(hWl:W.length<=i)(ha:a<=W.length):∀(n k:Nat) (V:List (List Int)),k<n->a<=k->k<=W.length->
  V.length=W.length+1->(∀j,j<k->V.getD j []=W.getD j [])->(∀j,k<j->j<=W.length->V.getD j []=W.getD (j-1) [])->
  ∃m V',n<=m+k+1/\F114c11 n l i a k V=F114c3 m l ((i+1:Nat):Int) V'/\V'.length=W.length+1/\(∀j,j<a->V'.getD j []=W.getD j [])/\V'.getD a []=l.getD i []/\(∀j,a<j->j<=W.length->V'.getD j []=W.getD (j-1) [])
 |0,k,V,h,_,_,_,_,_=>by omega
 | n+1,k,V,h,hak,hk,hVl,h1,h2=>by
  have gset:∀(V:List (List Int)) (p j:Nat) (x:List Int),p<V.length->(V.set p x).getD j []=if p=j then x else V.getD j []:=by
   intro V p j x hp
   rw[gQ,List.getElem?_set,gQ]
   by_cases hpj:p=j
   ·rw[if_pos hpj,if_pos hpj];subst hpj;simp[hp]
   ·rw[if_neg hpj,if_neg hpj]
  rw[F114c11_eq]
  by_cases hlt:a<k
  ·have hw:i64.wrap ((k:Int)-1)=((k-1:Nat):Int):=by rw[q00 (by omega) (by omega)];omega
   rw[hw]
   simp only[dT (show(a:Int)<(k:Int) by omega),cT,if_pos (show(0:Int)<=((k-1:Nat):Int) by omega),if_pos (show((k-1:Nat):Int)<(V.length:Int) by omega),if_pos (show(0:Int)<=(k:Int) by omega),if_pos (show(k:Int)<(V.length:Int) by omega),tN]
   obtain⟨m,V',r1,r2,r3⟩:=qv5 hi hlen hWl ha n (k-1) (V.set k (V.getD (k-1) [])) (by omega) (by omega) (by omega) (by simpa using hVl) (fun j hj=>by
    rw[gset _ _ _ _ (by omega),if_neg (by omega)];exact h1 j (by omega)) (fun j hj hjl=>by
    rw[gset _ _ _ _ (by omega)]
    by_cases hkj:k=j
    ·rw[if_pos hkj,<-hkj,h1 (k-1) (by omega)]
    ·rw[if_neg hkj];exact h2 j (by omega) hjl)
   exact⟨m,V',by omega,r2,r3⟩
  ·have hka:k=a:=by omega
   subst hka
   rw[dF (by omega)]
   simp only[cF,if_pos (show(0:Int)<=(i:Int) by omega),if_pos (show(i:Int)<(l.length:Int) by omega),if_pos (show(0:Int)<=(k:Int) by omega),if_pos (show(k:Int)<(V.length:Int) by omega),tN]
   rw[q00 (by omega) (by omega)]
   refine⟨n,V.set k (l.getD i []),by omega,rfl,by simpa using hVl,fun j hj=>?_,?_,fun j hj hjl=>?_⟩
   ·rw[gset _ _ _ _ (by omega),if_neg (by omega)];exact h1 j hj
   ·rw[gset _ _ _ _ (by omega),if_pos rfl]
   ·rw[gset _ _ _ _ (by omega),if_neg (by omega)];exact h2 j hj hjl
theorem q51 {W:List (List Int)}{s:List Int}:s∈W<->∃j,j<W.length/\W.getD j []=s:=by
 rw[List.mem_iff_getElem]
 constructor
 ·rintro⟨j,hj,rfl⟩
  exact⟨j,hj,by rw[gQ,gE hj];rfl⟩
 ·rintro⟨j,hj,rfl⟩
  exact⟨j,hj,by rw[gQ,gE hj];rfl⟩
theorem qv7 {l W:List (List Int)}{i:Nat}(hi:i<l.length)(hlen:l.length<=20000)(hWl:W.length<=i)(hW:q2l W)(n:Nat)(hn:2*l.length+10<n):
  ∃m V,n<=m+2*l.length+8/\F114c3 n l i W=F114c3 m l ((i+1:Nat):Int) V/\q2l V/\V.length<=i+1/\∀s,s∈V<->s∈W\/s=l.getD i []:=by
 obtain⟨n,rfl⟩:∃n',n=n'+1:=⟨n-1,by omega⟩
 rw[F114c3_eq,dT (by omega),cT]
 obtain⟨m,a,h1,h2,ha,h3,h4⟩:=qzz hi (by omega) hWl hW n W.length (by omega) (nR _) (fun j hj1 hj2=>by omega)
 rw[h2]
 obtain⟨m,rfl⟩:∃m',m=m'+1:=⟨m-1,by omega⟩
 -- behind the place
 have fresh:(0<a->q0s (W.getD (a-1) []) (l.getD i [])=true)->∃m' V,m<=m'+W.length+4/\F114c9 m l i a W=F114c3 m' l ((i+1:Nat):Int) V/\q2l V/\V.length<=i+1/\∀s,s∈V<->s∈W\/s=l.getD i []:=by
  intro hb
  obtain⟨m,rfl⟩:∃m',m=m'+1:=⟨m-1,by omega⟩
  rw[F114c9_eq,if_pos (by simp only[lim];omega)]
  have hw:i64.wrap (((W++[[]]).length:Int)-1)=(W.length:Int):=by rw[lA,List.length_singleton,q00 (by omega) (by omega)];omega
  rw[hw]
  obtain⟨m',V,r1,r2,r3,r4,r5,r6⟩:=qv5 (W:=W) hi (by omega) hWl ha m W.length (W++[[]]) (by omega) ha (nR _) (by simp) (fun j hj=>by
   rw[gQ,List.getElem?_append_left hj,gQ]) (fun j hj hjl=>by omega)
  have below:∀j,j<a->q0s (W.getD j []) (l.getD i [])=true:=fun j hj=>by
   have h0:=hb (by omega)
   rcases Nat.eq_or_lt_of_le (show j<=a-1 by omega)with rfl|hj'
   ·exact h0
   ·exact q5t (hW j (a-1) hj' (by omega)) h0
  refine⟨m',V,by omega,r2,?_,by omega,?_⟩
  ·intro j k hjk hk
   rcases Nat.lt_trichotomy k a with hka|rfl|hka
   ·rw[r4 j (by omega),r4 k hka];exact hW j k hjk (by omega)
   ·rw[r4 j hjk,r5];exact below j hjk
   ·rw[r6 k hka (by omega)]
    rcases Nat.lt_trichotomy j a with hja|rfl|hja
    ·rw[r4 j hja];exact hW j (k-1) (by omega) (by omega)
    ·rw[r5];exact h3 (k-1) (by omega) (by omega)
    ·rw[r6 j hja (by omega)];exact hW (j-1) (k-1) (by omega) (by omega)
  ·intro s
   rw[q51,q51]
   constructor
   ·rintro⟨j,hj,rfl⟩
    rcases Nat.lt_trichotomy j a with hja|rfl|hja
    ·exact .inl ⟨j,by omega,(r4 j hja).symm⟩
    ·exact .inr r5
    ·exact .inl ⟨j-1,by omega,(r6 j hja (by omega)).symm⟩
   ·rintro(⟨j,hj,rfl⟩|rfl)
    ·rcases Nat.lt_or_ge j a with hja|hja
     ·exact⟨j,by omega,r4 j hja⟩
     ·exact⟨j+1,by omega,by rw[r6 (j+1) (by omega) (by omega)];rfl⟩
    ·exact⟨a,by omega,r5⟩
 rw[F114c8_eq]
 by_cases ha0:0<a
 ·have hw:i64.wrap ((a:Int)-1)=((a-1:Nat):Int):=by rw[q00 (by omega) (by omega)];omega
  rw[hw]
  simp only[dT (show(0:Int)<(a:Int) by omega),cT,if_pos (show(0:Int)<=((a-1:Nat):Int) by omega),if_pos (show((a-1:Nat):Int)<(W.length:Int) by omega),if_pos (show(0:Int)<=(i:Int) by omega),if_pos (show(i:Int)<(l.length:Int) by omega),tN]
  by_cases he:W.getD (a-1) []=l.getD i []
  ·rw[dT he,cT,q00 (by omega) (by omega)]
   refine⟨m,W,by omega,rfl,hW,by omega,fun s=>?_⟩
   constructor
   ·exact .inl
   ·rintro(h|rfl)
    ·exact h
    ·exact q51.2 ⟨a-1,by omega,he⟩
  ·rw[dF he,cF]
   obtain⟨m',V,r1,r2,r3⟩:=fresh (fun _=>by
    cases hc:q0s (W.getD (a-1) []) (l.getD i [])with
    |true=>rfl
    |false=>exact absurd (q95 hc (h4 ha0)) he)
   exact⟨m',V,by omega,r2,r3⟩
 ·rw[dF (by omega),cF]
  obtain⟨m',V,r1,r2,r3⟩:=fresh (fun h=>absurd h ha0)
  exact⟨m',V,by omega,r2,r3⟩
theorem qfq {l:List (List Int)}(hlen:l.length<=10000)(c:Nat)(hc:2*l.length+20<c):∀(d i n:Nat) (W:List (List Int)),l.length-i=d->i<=l.length->W.length<=i->q2l W->(∀s,s∈W<->s∈l.take i)->d*c+c<n->
  F114c3 n l i W=some ((words l,q0l l,()),())
 |0,i,n,W,hd,hi,hWl,hW,hm,hn=>by
  have:i=l.length:=by omega
  subst this
  rw[List.take_length]at hm
  have hWw:W=words l:=qj3 hW (q68 l) (fun s=>by rw[hm,q3u])
  obtain⟨n,rfl⟩:∃n',n=n'+1:=⟨n-1,by omega⟩
  rw[F114c3_eq,dF (by omega),hWw]
  exact qv6 (by have:=q2b l;omega) (by omega) n 0 (by omega) (by omega)
 |d+1,i,n,W,hd,hi,hWl,hW,hm,hn=>by
  have hlt:i<l.length:=by omega
  rw[Nat.succ_mul]at hn
  obtain⟨m,V,h1,h2,h3,h4,h5⟩:=qv7 hlt (by omega) hWl hW n (by omega)
  rw[h2]
  refine qfq hlen c hc d (i+1) m V (by omega) (by omega) h4 h3 (fun s=>?_) (by omega)
  rw[h5,hm,List.take_succ_eq_append_getElem hlt,mA,List.mem_singleton,gQ,gE hlt]
  rfl
theorem ql7 {l:List (List Int)}(hlen:l.length<=10000):
  F114.run qgq Rk1t 1000000000 (l,())=some ((words l,q0l l,()),()):=by
 rw[show F114.run qgq Rk1t 1000000000 (l,())=F114c1 (999999999+1) l from F114_run _ _,F114c1_eq]
 exact qfq hlen 30000 (by omega) l.length 0 999999999 [] (by omega) (by omega) (by simp) (fun i j _ h=>by simp at h) (by simp) (by omega)
/-! Lists compared. -/
end Go.Proofs.Tryz
