/- Law 12, after law 10: dictionaries, encoded. -/
import Derived.Test.YtpnabclcnplchaaGreatL12Enc2
set_option linter.unusedVariables false
set_option linter.unusedSimpArgs false
namespace Go.Proofs.Tryz
open Go.Eng
theorem qgv {s:List Int}:∀(w:List (List Int)) (i:Nat),0<=(qm3 s w i).1/\(qm3 s w i).1<=i+w.length
 |[],i=>by simp[qm3]
 | x::r,i=>by
  unfold qm3
  by_cases h:x=s
  ·rw[if_pos h];simp;omega
  ·rw[if_neg h]
   have:=qgv (s:=s) r (i+1)
   simp only[lC]
   omega
theorem q4p (l:List (List Int)):(q0l l).length=l.length:=by rw[q0l,List.length_map]
theorem q81 {l:List (List Int)}{i:Nat}(h:i<l.length):∃v:Nat,(q0l l).getD i 0=(v:Int)/\v<=l.length:=by
 have hb:=qgv (s:=l[i]) (words l) 0
 have:=q2b l
 refine⟨(qm3 l[i] (words l) 0).1.toNat,?_,by omega⟩
 rw[q0l,gQ,List.getElem?_map,gE h]
 show(qm3 l[i] (words l) 0).1=_
 omega
theorem qjw {l:List (List Int)}(hl:l.length<=1000000):okU (q0l l):=by
 intro i hi
 rw[q4p]at hi
 obtain⟨v,h1,h2⟩:=q81 hi
 exact⟨v,h1,by omega⟩
theorem qe0 {l:List (List Int)}(hl:l.length<=1000000):okR (q12 (q0l l))/\(q12 (q0l l)).length<=l.length:=by
 have h:=qd3 (l:=q0l l) (q0l l).length (nR _)
 rw[List.take_length]at h
 have hcl:=q4p l
 refine⟨fun j hj=>?_,by have:=h.len;omega⟩
 obtain⟨k,k1,k2⟩:=h.val j hj
 obtain⟨v,v1,v2⟩:=q81 (l:=l) (i:=k) (by omega)
 have:=h.cnt j hj
 rw[k2,v1]
 omega
/-! The encoding of strings. -/
def q0z (W:List (List Int)):List Int:=(W.map fun w=>q0f w.length++w).flatten
def qbc (l:List (List Int)):List Int:=
 if(q9b (q12 (q0l l))).length<(q27 (q0l l) (cw (words l).length)).length then 1::q9b (q12 (q0l l))else 0::q27 (q0l l) (cw (words l).length)
def q86 (l:List (List Int)):List Int:=q0f (words l).length++q0z (words l)++qbc l
theorem qga {W:List (List Int)}{i:Nat}(h:i<W.length):q0z (W.take (i+1))=q0z (W.take i)++(q0f (W.getD i []).length++W.getD i []):=by
 rw[List.take_succ_eq_append_getElem h,q0z,List.map_append,List.flatten_append,gQ,gE h]
 simp[q0z]
theorem qcl {W:List (List Int)}(hW:∀w∈W,w.length<=4096):(q0z W).length<=4106*W.length:=by
 induction W with
 |nil=>simp[q0z]
 |cons w W ih=>
  have h1:=hW w mS
  have h2:=ih (fun x hx=>hW x (mC _ hx))
  have h3:=q03 (x:=w.length) (by omega)
  have:q0z (w::W)=(q0f w.length++w)++q0z W:=rfl
  rw[this,lA,lA,lC]
  omega
theorem qt1 {l:List (List Int)}(hl:l.length<=10000){out:List Int}(ho:out.length<=50000000):∀(n i:Nat),l.length-i<n->i<=l.length->
  F56c12 n (l.length:Int) i (words l) out ((q0l l).take i) ((q0l l).take i) (q0l l)=some ((out++qbc l,()),())
 |0,i,h,_=>by omega
 | n+1,i,h,hi=>by
  have hcl:=q4p l
  rw[F56c12_eq]
  by_cases hlt:i<l.length
  ·obtain⟨v,v1,v2⟩:=q81 hlt
   simp only[dT (show(i:Int)<(l.length:Int) by omega),cT,if_pos (show(0:Int)<=(i:Int) by omega),if_pos (show(i:Int)<((q0l l).length:Int) by omega),tN,lT]
   rw[if_pos (by simp only[lim];omega),if_pos (by simp only[lim];omega),v1,q01 (by omega) (by omega),q00 (by omega) (by omega),<-v1]
   have ih:=qt1 hl ho n (i+1) (by omega) (by omega)
   have e:(q0l l).take (i+1)=(q0l l).take i++[(q0l l).getD i 0]:=by
    rw[List.take_succ_eq_append_getElem (by omega),gQ,gE (by omega)];rfl
   rw[e]at ih
   exact ih
  ·have hwl:=q2b l
   have hcw:=qsr (x:=(words l).length) (by omega)
   obtain⟨hok,hrl⟩:=qe0 (l:=l) (by omega)
   have hps:q04 (q0l l).length (cw (words l).length)<=8388608:=(size_eq (by omega) (by omega)).2
   have hrb:(q9b (q12 (q0l l))).length<=300000:=by
    have h1:=qb5 (q12 (q0l l)) 0 (qnb hok)
    have h2:=q03 (x:=(q12 (q0l l)).length) (by omega)
    rw[q9b,lA]
    omega
   rw[dF (by omega),cF,tL (by omega),qg9 (by omega),oB]
   dsimp only
   rw[qix (qjw (by omega)) (by omega) (by omega),oB,qpu (by omega)]
   erw [oB]
   rw[qve hok (by omega),oB]
   dsimp only
   have hpl:=q4r (q0l l) (cw (words l).length)
   unfold qbc
   by_cases hlt2:(q9b (q12 (q0l l))).length<(q27 (q0l l) (cw (words l).length)).length
   ·rw[dT (by omega),cT,if_pos hlt2,if_pos (by simp only[lim];omega),if_pos (by simp only[lim,lA,List.length_singleton];omega),aA]
    rfl
   ·rw[dF (by omega),cF,if_neg hlt2,if_pos (by simp only[lim];omega),if_pos (by simp only[lim,lA,List.length_singleton];omega),aA]
    rfl
theorem qz3 {l:List (List Int)}(hl:l.length<=10000)(hc:∀s∈l,s.length<=4096):∀(n i:Nat),(words l).length-i+10100<n->i<=(words l).length->
  F56c4 n ((words l).length:Int) i (words l) (q0l l) (q0f (words l).length++q0z ((words l).take i))=some ((q86 l,()),())
 |0,i,h,_=>by omega
 | n+1,i,h,hi=>by
  have hwl:=q2b l
  have hcl:=q4p l
  have hv:=q03 (x:=(words l).length) (by omega)
  have hwB:∀j,(q0z ((words l).take j)).length<=4106*10000:=fun j=>by
   have:=qcl (W:=(words l).take j) (fun w hw=>hc w ((q3u l w).1 (List.mem_of_mem_take hw)))
   rw[lT]at this
   omega
  rw[F56c4_eq]
  by_cases hlt:i<(words l).length
  ·have hwi:((words l).getD i []).length<=4096:=hc _ ((q3u l _).1 (q51.2 ⟨i,hlt,rfl⟩))
   have hvi:=q03 (x:=((words l).getD i []).length) (by omega)
   have hb:=hwB i
   simp only[dT (show(i:Int)<((words l).length:Int) by omega),cT,if_pos (show(0:Int)<=(i:Int) by omega),if_pos (show(i:Int)<((words l).length:Int) by omega),tN]
   rw[q01 (by omega) (by omega),q2m (by omega),oB]
   dsimp only
   rw[if_pos (by simp only[lim,lA];omega),if_pos (by simp only[lim,lA];omega),q00 (by omega) (by omega)]
   have ih:=qz3 hl hc n (i+1) (by omega) (by omega)
   rw[qga hlt]at ih
   simp only[<-aA]at ih ⊢
   exact ih
  ·rw[dF (by omega),cF,tL (by omega),hcl]
   have hb:=hwB (words l).length
   rw[List.take_length]at hb
   have:=qt1 hl (out:=q0f (words l).length++q0z (words l)) (by rw[lA];omega) n 0 (by omega) (by omega)
   exact this
theorem qme {l:List (List Int)}(hl:l.length<=10000)(hc:∀s∈l,s.length<=4096):F56.run qgq Rk1 4000000 (l,())=some ((q86 l,()),()):=by
 have hwl:=q2b l
 rw[show F56.run qgq Rk1 4000000 (l,())=_ from(F56_run _ _).trans (F56c1_eq 3999999 _),qsm (by omega),oB]
 dsimp only
 rw[q01 (by omega) (by omega),q2m (by omega),oB]
 dsimp only
 have:=qz3 hl hc 3999999 0 (by omega) (by omega)
 rw[List.take_zero,show q0z []=[]from rfl,List.append_nil]at this
 exact this
/-! The reference's encoding. -/
def qd1 (W:List (List Int)):List (List Int):=W.map fun w=>q0f w.length++w
theorem qpg {l:List (List Int)}(hl:l.length<=10000){out:List (List Int)}(ho:out.length<=20000)(hof:out.flatten.length<=50000000):∀(n i:Nat),l.length-i<n->i<=l.length->
  F66c10 n i (words l) (q0l l) out ((q0l l).take i) ((q0l l).take i)=some ((out.flatten++qbc l,()),())
 |0,i,h,_=>by omega
 | n+1,i,h,hi=>by
  have hcl:=q4p l
  rw[F66c10_eq]
  by_cases hlt:i<l.length
  ·obtain⟨v,v1,v2⟩:=q81 hlt
   simp only[dT (show(i:Int)<((q0l l).length:Int) by omega),cT,if_pos (show(0:Int)<=(i:Int) by omega),if_pos (show(i:Int)<((q0l l).length:Int) by omega),tN,lT]
   rw[if_pos (by simp only[lim];omega),if_pos (by simp only[lim];omega),v1,q01 (by omega) (by omega),q00 (by omega) (by omega),<-v1]
   have ih:=qpg hl ho hof n (i+1) (by omega) (by omega)
   have e:(q0l l).take (i+1)=(q0l l).take i++[(q0l l).getD i 0]:=by
    rw[List.take_succ_eq_append_getElem (by omega),gQ,gE (by omega)];rfl
   rw[e]at ih
   exact ih
  ·have hwl:=q2b l
   have hcw:=qsr (x:=(words l).length) (by omega)
   obtain⟨hok,hrl⟩:=qe0 (l:=l) (by omega)
   have hps:q04 (q0l l).length (cw (words l).length)<=30000:=by
    have:(q0l l).length*cw (words l).length<=10000*22:=Nat.mul_le_mul (by omega) (by omega)
    unfold q04
    omega
   have hrb:(q9b (q12 (q0l l))).length<=300000:=by
    have h1:=qb5 (q12 (q0l l)) 0 (qnb hok)
    have h2:=q03 (x:=(q12 (q0l l)).length) (by omega)
    rw[q9b,lA]
    omega
   rw[dF (by omega),cF,tL (by omega),qch (by omega),oB]
   dsimp only
   rw[qfu (qjw (by omega)) (by omega) (by omega),oB,qlk (by omega)]
   erw [oB]
   rw[qpq hok (by omega),oB]
   dsimp only
   have hpl:=q4r (q0l l) (cw (words l).length)
   have fin:∀(b:Int) (x:List Int),x.length<=400000->F110.run qs0 Rk1 400000000 (out++[[b]]++[x],())=some ((out.flatten++b::x,()),()):=by
    intro b x hx
    rw[qbv (by simp only[lA,List.length_singleton];omega) (by simp only[List.flatten_append,lA,List.flatten_cons,List.flatten_nil,List.append_nil,List.length_singleton];omega)]
    simp only[List.flatten_append,List.flatten_cons,List.flatten_nil,List.append_nil,aA]
    rfl
   unfold qbc
   by_cases hlt2:(q9b (q12 (q0l l))).length<(q27 (q0l l) (cw (words l).length)).length
   ·rw[dT (by omega),cT,if_pos hlt2,if_pos (by simp only[lim];omega),if_pos (by simp only[lim,lA,List.length_singleton];omega),fin _ _ (by omega)]
    rfl
   ·rw[dF (by omega),cF,if_neg hlt2,if_pos (by simp only[lim];omega),if_pos (by simp only[lim,lA,List.length_singleton];omega),fin _ _ (by omega)]
    rfl
theorem qfo (W:List (List Int)):(qd1 W).flatten=q0z W:=rfl
theorem qv8 {l:List (List Int)}(hl:l.length<=10000)(hc:∀s∈l,s.length<=4096):∀(n i:Nat),(words l).length-i+10100<n->i<=(words l).length->
  F66c4 n i (words l) (q0l l) (q0f (words l).length::qd1 ((words l).take i))=some ((q86 l,()),())
 |0,i,h,_=>by omega
 | n+1,i,h,hi=>by
  have hwl:=q2b l
  have hv:=q03 (x:=(words l).length) (by omega)
  rw[F66c4_eq]
  by_cases hlt:i<(words l).length
  ·have hwi:((words l).getD i []).length<=4096:=hc _ ((q3u l _).1 (q51.2 ⟨i,hlt,rfl⟩))
   simp only[dT (show(i:Int)<((words l).length:Int) by omega),cT,if_pos (show(0:Int)<=(i:Int) by omega),if_pos (show(i:Int)<((words l).length:Int) by omega),tN]
   rw[qyb (by omega),oB]
   dsimp only
   rw[if_pos (by simp only[lim,qd1,lC,List.length_map,lT];omega),q00 (by omega) (by omega)]
   have ih:=qv8 hl hc n (i+1) (by omega) (by omega)
   have e:qd1 ((words l).take (i+1))=qd1 ((words l).take i)++[q0f ((words l).getD i []).length++(words l).getD i []]:=by
    rw[List.take_succ_eq_append_getElem hlt,qd1,List.map_append,gQ,gE hlt];rfl
   rw[e]at ih
   exact ih
  ·have hb:=qcl (W:=words l) (fun w hw=>hc w ((q3u l w).1 hw))
   rw[dF (by omega),cF,tL (by omega)]
   have:=qpg hl (out:=q0f (words l).length::qd1 (words l)) (by simp only[qd1,lC,List.length_map];omega) (by rw[List.flatten_cons,qfo,lA];omega) n 0 (by omega) (by omega)
   rw[List.flatten_cons,qfo]at this
   exact this
theorem qph {l:List (List Int)}(hl:l.length<=10000)(hc:∀s∈l,s.length<=4096):F66.run qgq Rk1 4000000 (l,())=some ((q86 l,()),()):=by
 have hwl:=q2b l
 rw[show F66.run qgq Rk1 4000000 (l,())=_ from(F66_run _ _).trans (F66c1_eq 3999999 _),ql7 hl,oB]
 dsimp only
 rw[q01 (by omega) (by omega),q1c (by omega),oB]
 dsimp only
 exact qv8 hl hc 3999999 0 (by omega) (by omega)
end Go.Proofs.Tryz
