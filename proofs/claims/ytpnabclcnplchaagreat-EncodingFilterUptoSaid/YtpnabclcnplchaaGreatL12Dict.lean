/- Law 12, after law 10: dictionaries, encoded. -/
import Derived.Test.YtpnabclcnplchaaGreatL12Enc2
set_option linter.unusedVariables false
set_option linter.unusedSimpArgs false
namespace Go.Proofs.Tryz
open Go.Eng
theorem qfz {s:List Int}:∀(w:List (List Int)) (i:Nat),0<=(qlg s w i).1/\(qlg s w i).1<=i+w.length
 |[],i=>by simp[qlg]
 | x::r,i=>by
  unfold qlg
  by_cases h:x=s
  ·rw[if_pos h];simp;omega
  ·rw[if_neg h]
   have:=qfz (s:=s) r (i+1)
   simp only[lC]
   omega
theorem q49 (l:List (List Int)):(q0k l).length=l.length:=by rw[q0k,List.length_map]
theorem q7h {l:List (List Int)}{i:Nat}(h:i<l.length):∃v:Nat,(q0k l).getD i 0=(v:Int)/\v<=l.length:=by
 have hb:=qfz (s:=l[i]) (words l) 0
 have:=q24 l
 refine⟨(qlg l[i] (words l) 0).1.toNat,?_,by omega⟩
 rw[q0k,gQ,List.getElem?_map,gE h]
 show(qlg l[i] (words l) 0).1=_
 omega
theorem qj4 {l:List (List Int)}(hl:l.length<=1000000):okU (q0k l):=by
 intro i hi
 rw[q49]at hi
 obtain⟨v,h1,h2⟩:=q7h hi
 exact⟨v,h1,by omega⟩
theorem qdc {l:List (List Int)}(hl:l.length<=1000000):okR (q0z (q0k l))/\(q0z (q0k l)).length<=l.length:=by
 have h:=qce (l:=q0k l) (q0k l).length (nR _)
 rw[List.take_length]at h
 have hcl:=q49 l
 refine⟨fun j hj=>?_,by have:=h.len;omega⟩
 obtain⟨k,k1,k2⟩:=h.val j hj
 obtain⟨v,v1,v2⟩:=q7h (l:=l) (i:=k) (by omega)
 have:=h.cnt j hj
 rw[k2,v1]
 omega
/-! The encoding of strings. -/
def q0x (W:List (List Int)):List Int:=(W.map fun w=>q0f w.length++w).flatten
def qbv (l:List (List Int)):List Int:=
 if(q9m (q0z (q0k l))).length<(q21 (q0k l) (cw (words l).length)).length then 1::q9m (q0z (q0k l))else 0::q21 (q0k l) (cw (words l).length)
def q8r (l:List (List Int)):List Int:=q0f (words l).length++q0x (words l)++qbv l
theorem qfd {W:List (List Int)}{i:Nat}(h:i<W.length):q0x (W.take (i+1))=q0x (W.take i)++(q0f (W.getD i []).length++W.getD i []):=by
 rw[List.take_succ_eq_append_getElem h,q0x,List.map_append,List.flatten_append,gQ,gE h]
 simp[q0x]
theorem qby {W:List (List Int)}(hW:∀w∈W,w.length<=4096):(q0x W).length<=4106*W.length:=by
 induction W with
 |nil=>simp[q0x]
 |cons w W ih=>
  have h1:=hW w mS
  have h2:=ih (fun x hx=>hW x (mC _ hx))
  have h3:=q03 (x:=w.length) (by omega)
  have:q0x (w::W)=(q0f w.length++w)++q0x W:=rfl
  rw[this,lA,lA,lC]
  omega
theorem qsc {l:List (List Int)}(hl:l.length<=10000){out:List Int}(ho:out.length<=50000000):∀(n i:Nat),l.length-i<n->i<=l.length->
  F56c12 n (l.length:Int) i (words l) out ((q0k l).take i) ((q0k l).take i) (q0k l)=some ((out++qbv l,()),())
 |0,i,h,_=>by omega
 | n+1,i,h,hi=>by
  have hcl:=q49 l
  rw[F56c12_eq]
  by_cases hlt:i<l.length
  ·obtain⟨v,v1,v2⟩:=q7h hlt
   simp only[dT (show(i:Int)<(l.length:Int) by omega),cT,if_pos (show(0:Int)<=(i:Int) by omega),if_pos (show(i:Int)<((q0k l).length:Int) by omega),tN,lT]
   rw[if_pos (by simp only[lim];omega),if_pos (by simp only[lim];omega),v1,q01 (by omega) (by omega),q00 (by omega) (by omega),<-v1]
   have ih:=qsc hl ho n (i+1) (by omega) (by omega)
   have e:(q0k l).take (i+1)=(q0k l).take i++[(q0k l).getD i 0]:=by
    rw[List.take_succ_eq_append_getElem (by omega),gQ,gE (by omega)];rfl
   rw[e]at ih
   exact ih
  ·have hwl:=q24 l
   have hcw:=qs1 (x:=(words l).length) (by omega)
   obtain⟨hok,hrl⟩:=qdc (l:=l) (by omega)
   have hps:q04 (q0k l).length (cw (words l).length)<=8388608:=(size_eq (by omega) (by omega)).2
   have hrb:(q9m (q0z (q0k l))).length<=300000:=by
    have h1:=qam (q0z (q0k l)) 0 (qmp hok)
    have h2:=q03 (x:=(q0z (q0k l)).length) (by omega)
    rw[q9m,lA]
    omega
   rw[dF (by omega),cF,tL (by omega),qfc (by omega),oB]
   dsimp only
   rw[qi1 (qj4 (by omega)) (by omega) (by omega),oB,qp3 (by omega)]
   erw [oB]
   rw[quw hok (by omega),oB]
   dsimp only
   have hpl:=q4c (q0k l) (cw (words l).length)
   unfold qbv
   by_cases hlt2:(q9m (q0z (q0k l))).length<(q21 (q0k l) (cw (words l).length)).length
   ·rw[dT (by omega),cT,if_pos hlt2,if_pos (by simp only[lim];omega),if_pos (by simp only[lim,lA,List.length_singleton];omega),aA]
    rfl
   ·rw[dF (by omega),cF,if_neg hlt2,if_pos (by simp only[lim];omega),if_pos (by simp only[lim,lA,List.length_singleton];omega),aA]
    rfl
theorem qyn {l:List (List Int)}(hl:l.length<=10000)(hc:∀s∈l,s.length<=4096):∀(n i:Nat),(words l).length-i+10100<n->i<=(words l).length->
  F56c4 n ((words l).length:Int) i (words l) (q0k l) (q0f (words l).length++q0x ((words l).take i))=some ((q8r l,()),())
 |0,i,h,_=>by omega
 | n+1,i,h,hi=>by
  have hwl:=q24 l
  have hcl:=q49 l
  have hv:=q03 (x:=(words l).length) (by omega)
  have hwB:∀j,(q0x ((words l).take j)).length<=4106*10000:=fun j=>by
   have:=qby (W:=(words l).take j) (fun w hw=>hc w ((q4b l w).1 (List.mem_of_mem_take hw)))
   rw[lT]at this
   omega
  rw[F56c4_eq]
  by_cases hlt:i<(words l).length
  ·have hwi:((words l).getD i []).length<=4096:=hc _ ((q4b l _).1 (q4j.2 ⟨i,hlt,rfl⟩))
   have hvi:=q03 (x:=((words l).getD i []).length) (by omega)
   have hb:=hwB i
   simp only[dT (show(i:Int)<((words l).length:Int) by omega),cT,if_pos (show(0:Int)<=(i:Int) by omega),if_pos (show(i:Int)<((words l).length:Int) by omega),tN]
   rw[q01 (by omega) (by omega),q2e (by omega),oB]
   dsimp only
   rw[if_pos (by simp only[lim,lA];omega),if_pos (by simp only[lim,lA];omega),q00 (by omega) (by omega)]
   have ih:=qyn hl hc n (i+1) (by omega) (by omega)
   rw[qfd hlt]at ih
   simp only[<-aA]at ih ⊢
   exact ih
  ·rw[dF (by omega),cF,tL (by omega),hcl]
   have hb:=hwB (words l).length
   rw[List.take_length]at hb
   have:=qsc hl (out:=q0f (words l).length++q0x (words l)) (by rw[lA];omega) n 0 (by omega) (by omega)
   exact this
theorem qls {l:List (List Int)}(hl:l.length<=10000)(hc:∀s∈l,s.length<=4096):F56.run qft Rk1 4000000 (l,())=some ((q8r l,()),()):=by
 have hwl:=q24 l
 rw[show F56.run qft Rk1 4000000 (l,())=_ from(F56_run _ _).trans (F56c1_eq 3999999 _),qrv (by omega),oB]
 dsimp only
 rw[q01 (by omega) (by omega),q2e (by omega),oB]
 dsimp only
 have:=qyn hl hc 3999999 0 (by omega) (by omega)
 rw[List.take_zero,show q0x []=[]from rfl,List.append_nil]at this
 exact this
/-! The reference's encoding. -/
def qcc (W:List (List Int)):List (List Int):=W.map fun w=>q0f w.length++w
theorem qop {l:List (List Int)}(hl:l.length<=10000){out:List (List Int)}(ho:out.length<=20000)(hof:out.flatten.length<=50000000):∀(n i:Nat),l.length-i<n->i<=l.length->
  F66c10 n i (words l) (q0k l) out ((q0k l).take i) ((q0k l).take i)=some ((out.flatten++qbv l,()),())
 |0,i,h,_=>by omega
 | n+1,i,h,hi=>by
  have hcl:=q49 l
  rw[F66c10_eq]
  by_cases hlt:i<l.length
  ·obtain⟨v,v1,v2⟩:=q7h hlt
   simp only[dT (show(i:Int)<((q0k l).length:Int) by omega),cT,if_pos (show(0:Int)<=(i:Int) by omega),if_pos (show(i:Int)<((q0k l).length:Int) by omega),tN,lT]
   rw[if_pos (by simp only[lim];omega),if_pos (by simp only[lim];omega),v1,q01 (by omega) (by omega),q00 (by omega) (by omega),<-v1]
   have ih:=qop hl ho hof n (i+1) (by omega) (by omega)
   have e:(q0k l).take (i+1)=(q0k l).take i++[(q0k l).getD i 0]:=by
    rw[List.take_succ_eq_append_getElem (by omega),gQ,gE (by omega)];rfl
   rw[e]at ih
   exact ih
  ·have hwl:=q24 l
   have hcw:=qs1 (x:=(words l).length) (by omega)
   obtain⟨hok,hrl⟩:=qdc (l:=l) (by omega)
   have hps:q04 (q0k l).length (cw (words l).length)<=30000:=by
    have:(q0k l).length*cw (words l).length<=10000*22:=Nat.mul_le_mul (by omega) (by omega)
    unfold q04
    omega
   have hrb:(q9m (q0z (q0k l))).length<=300000:=by
    have h1:=qam (q0z (q0k l)) 0 (qmp hok)
    have h2:=q03 (x:=(q0z (q0k l)).length) (by omega)
    rw[q9m,lA]
    omega
   rw[dF (by omega),cF,tL (by omega),qbt (by omega),oB]
   dsimp only
   rw[qf0 (qj4 (by omega)) (by omega) (by omega),oB,qkt (by omega)]
   erw [oB]
   rw[qoy hok (by omega),oB]
   dsimp only
   have hpl:=q4c (q0k l) (cw (words l).length)
   have fin:∀(b:Int) (x:List Int),x.length<=400000->F110.run qrc Rk1 400000000 (out++[[b]]++[x],())=some ((out.flatten++b::x,()),()):=by
    intro b x hx
    rw[qb8 (by simp only[lA,List.length_singleton];omega) (by simp only[List.flatten_append,lA,List.flatten_cons,List.flatten_nil,List.append_nil,List.length_singleton];omega)]
    simp only[List.flatten_append,List.flatten_cons,List.flatten_nil,List.append_nil,aA]
    rfl
   unfold qbv
   by_cases hlt2:(q9m (q0z (q0k l))).length<(q21 (q0k l) (cw (words l).length)).length
   ·rw[dT (by omega),cT,if_pos hlt2,if_pos (by simp only[lim];omega),if_pos (by simp only[lim,lA,List.length_singleton];omega),fin _ _ (by omega)]
    rfl
   ·rw[dF (by omega),cF,if_neg hlt2,if_pos (by simp only[lim];omega),if_pos (by simp only[lim,lA,List.length_singleton];omega),fin _ _ (by omega)]
    rfl
theorem qeu (W:List (List Int)):(qcc W).flatten=q0x W:=rfl
theorem quq {l:List (List Int)}(hl:l.length<=10000)(hc:∀s∈l,s.length<=4096):∀(n i:Nat),(words l).length-i+10100<n->i<=(words l).length->
  F66c4 n i (words l) (q0k l) (q0f (words l).length::qcc ((words l).take i))=some ((q8r l,()),())
 |0,i,h,_=>by omega
 | n+1,i,h,hi=>by
  have hwl:=q24 l
  have hv:=q03 (x:=(words l).length) (by omega)
  rw[F66c4_eq]
  by_cases hlt:i<(words l).length
  ·have hwi:((words l).getD i []).length<=4096:=hc _ ((q4b l _).1 (q4j.2 ⟨i,hlt,rfl⟩))
   simp only[dT (show(i:Int)<((words l).length:Int) by omega),cT,if_pos (show(0:Int)<=(i:Int) by omega),if_pos (show(i:Int)<((words l).length:Int) by omega),tN]
   rw[qy1 (by omega),oB]
   dsimp only
   rw[if_pos (by simp only[lim,qcc,lC,List.length_map,lT];omega),q00 (by omega) (by omega)]
   have ih:=quq hl hc n (i+1) (by omega) (by omega)
   have e:qcc ((words l).take (i+1))=qcc ((words l).take i)++[q0f ((words l).getD i []).length++(words l).getD i []]:=by
    rw[List.take_succ_eq_append_getElem hlt,qcc,List.map_append,gQ,gE hlt];rfl
   rw[e]at ih
   exact ih
  ·have hb:=qby (W:=words l) (fun w hw=>hc w ((q4b l w).1 hw))
   rw[dF (by omega),cF,tL (by omega)]
   have:=qop hl (out:=q0f (words l).length::qcc (words l)) (by simp only[qcc,lC,List.length_map];omega) (by rw[List.flatten_cons,qeu,lA];omega) n 0 (by omega) (by omega)
   rw[List.flatten_cons,qeu]at this
   exact this
theorem qoq {l:List (List Int)}(hl:l.length<=10000)(hc:∀s∈l,s.length<=4096):F66.run qft Rk1 4000000 (l,())=some ((q8r l,()),()):=by
 have hwl:=q24 l
 rw[show F66.run qft Rk1 4000000 (l,())=_ from(F66_run _ _).trans (F66c1_eq 3999999 _),qkg hl,oB]
 dsimp only
 rw[q01 (by omega) (by omega),q18 (by omega),oB]
 dsimp only
 exact quq hl hc 3999999 0 (by omega) (by omega)
end Go.Proofs.Tryz
