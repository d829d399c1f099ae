/- Law 12, after law 10: dictionaries, encoded. -/
import Derived.Test.YtpnabclcnplchaaGreatL12Enc2
set_option linter.unusedVariables false
set_option linter.unusedSimpArgs false
namespace Go.Proofs.Tryz
open Go.Eng
theorem qg5 {s:List Int}:∀(w:List (List Int)) (i:Nat),0<=(qln s w i).1/\(qln s w i).1<=i+w.length
 |[],i=>by simp[qln]
 | x::r,i=>by
  unfold qln
  by_cases h:x=s
  ·rw[if_pos h];simp;omega
  ·rw[if_neg h]
   have:=qg5 (s:=s) r (i+1)
   simp only[lC]
   omega
theorem q4d (l:List (List Int)):(q0l l).length=l.length:=by rw[q0l,List.length_map]
theorem q7l {l:List (List Int)}{i:Nat}(h:i<l.length):∃v:Nat,(q0l l).getD i 0=(v:Int)/\v<=l.length:=by
 have hb:=qg5 (s:=l[i]) (words l) 0
 have:=q26 l
 refine⟨(qln l[i] (words l) 0).1.toNat,?_,by omega⟩
 rw[q0l,gQ,List.getElem?_map,gE h]
 show(qln l[i] (words l) 0).1=_
 omega
theorem qjd {l:List (List Int)}(hl:l.length<=1000000):okU (q0l l):=by
 intro i hi
 rw[q4d]at hi
 obtain⟨v,h1,h2⟩:=q7l hi
 exact⟨v,h1,by omega⟩
theorem qdg {l:List (List Int)}(hl:l.length<=1000000):okR (q0z (q0l l))/\(q0z (q0l l)).length<=l.length:=by
 have h:=qcg (l:=q0l l) (q0l l).length (nR _)
 rw[List.take_length]at h
 have hcl:=q4d l
 refine⟨fun j hj=>?_,by have:=h.len;omega⟩
 obtain⟨k,k1,k2⟩:=h.val j hj
 obtain⟨v,v1,v2⟩:=q7l (l:=l) (i:=k) (by omega)
 have:=h.cnt j hj
 rw[k2,v1]
 omega
/-! The encoding of strings. -/
def q0x (W:List (List Int)):List Int:=(W.map fun w=>q0f w.length++w).flatten
def qav (l:List (List Int)):List Int:=
 if(q8w (q0z (q0l l))).length<(q22 (q0l l) (cw (words l).length)).length then 1::q8w (q0z (q0l l))else 0::q22 (q0l l) (cw (words l).length)
def q7q (l:List (List Int)):List Int:=q0f (words l).length++q0x (words l)++qav l
theorem qfj {W:List (List Int)}{i:Nat}(h:i<W.length):q0x (W.take (i+1))=q0x (W.take i)++(q0f (W.getD i []).length++W.getD i []):=by
 rw[List.take_succ_eq_append_getElem h,q0x,List.map_append,List.flatten_append,gQ,gE h]
 simp[q0x]
theorem qc0 {W:List (List Int)}(hW:∀w∈W,w.length<=4096):(q0x W).length<=4106*W.length:=by
 induction W with
 |nil=>simp[q0x]
 |cons w W ih=>
  have h1:=hW w mS
  have h2:=ih (fun x hx=>hW x (mC _ hx))
  have h3:=q03 (x:=w.length) (by omega)
  have:q0x (w::W)=(q0f w.length++w)++q0x W:=rfl
  rw[this,lA,lA,lC]
  omega
theorem qsp {l:List (List Int)}(hl:l.length<=10000){out:List Int}(ho:out.length<=50000000):∀(n i:Nat),l.length-i<n->i<=l.length->
  F56c12 n (l.length:Int) i (words l) out ((q0l l).take i) ((q0l l).take i) (q0l l)=some ((out++qav l,()),())
 |0,i,h,_=>by omega
 | n+1,i,h,hi=>by
  have hcl:=q4d l
  rw[F56c12_eq]
  by_cases hlt:i<l.length
  ·obtain⟨v,v1,v2⟩:=q7l hlt
   simp only[dT (show(i:Int)<(l.length:Int) by omega),cT,if_pos (show(0:Int)<=(i:Int) by omega),if_pos (show(i:Int)<((q0l l).length:Int) by omega),tN,lT]
   rw[if_pos (by simp only[lim];omega),if_pos (by simp only[lim];omega),v1,q01 (by omega) (by omega),q00 (by omega) (by omega),<-v1]
   have ih:=qsp hl ho n (i+1) (by omega) (by omega)
   have e:(q0l l).take (i+1)=(q0l l).take i++[(q0l l).getD i 0]:=by
    rw[List.take_succ_eq_append_getElem (by omega),gQ,gE (by omega)];rfl
   rw[e]at ih
   exact ih
  ·have hwl:=q26 l
   have hcw:=qse (x:=(words l).length) (by omega)
   obtain⟨hok,hrl⟩:=qdg (l:=l) (by omega)
   have hps:q04 (q0l l).length (cw (words l).length)<=8388608:=(size_eq (by omega) (by omega)).2
   have hrb:(q8w (q0z (q0l l))).length<=300000:=by
    have h1:=qao (q0z (q0l l)) 0 (qms hok)
    have h2:=q03 (x:=(q0z (q0l l)).length) (by omega)
    rw[q8w,lA]
    omega
   rw[dF (by omega),cF,tL (by omega),qfi (by omega),oB]
   dsimp only
   rw[qi8 (qjd (by omega)) (by omega) (by omega),oB,qpb (by omega)]
   erw [oB]
   rw[qv4 hok (by omega),oB]
   dsimp only
   have hpl:=q4f (q0l l) (cw (words l).length)
   unfold qav
   by_cases hlt2:(q8w (q0z (q0l l))).length<(q22 (q0l l) (cw (words l).length)).length
   ·rw[dT (by omega),cT,if_pos hlt2,if_pos (by simp only[lim];omega),if_pos (by simp only[lim,lA,List.length_singleton];omega),aA]
    rfl
   ·rw[dF (by omega),cF,if_neg hlt2,if_pos (by simp only[lim];omega),if_pos (by simp only[lim,lA,List.length_singleton];omega),aA]
    rfl
theorem qyt {l:List (List Int)}(hl:l.length<=10000)(hc:∀s∈l,s.length<=4096):∀(n i:Nat),(words l).length-i+10100<n->i<=(words l).length->
  F56c4 n ((words l).length:Int) i (words l) (q0l l) (q0f (words l).length++q0x ((words l).take i))=some ((q7q l,()),())
 |0,i,h,_=>by omega
 | n+1,i,h,hi=>by
  have hwl:=q26 l
  have hcl:=q4d l
  have hv:=q03 (x:=(words l).length) (by omega)
  have hwB:∀j,(q0x ((words l).take j)).length<=4106*10000:=fun j=>by
   have:=qc0 (W:=(words l).take j) (fun w hw=>hc w ((q3j l w).1 (List.mem_of_mem_take hw)))
   rw[lT]at this
   omega
  rw[F56c4_eq]
  by_cases hlt:i<(words l).length
  ·have hwi:((words l).getD i []).length<=4096:=hc _ ((q3j l _).1 (q4o.2 ⟨i,hlt,rfl⟩))
   have hvi:=q03 (x:=((words l).getD i []).length) (by omega)
   have hb:=hwB i
   simp only[dT (show(i:Int)<((words l).length:Int) by omega),cT,if_pos (show(0:Int)<=(i:Int) by omega),if_pos (show(i:Int)<((words l).length:Int) by omega),tN]
   rw[q01 (by omega) (by omega),q2h (by omega),oB]
   dsimp only
   rw[if_pos (by simp only[lim,lA];omega),if_pos (by simp only[lim,lA];omega),q00 (by omega) (by omega)]
   have ih:=qyt hl hc n (i+1) (by omega) (by omega)
   rw[qfj hlt]at ih
   simp only[<-aA]at ih ⊢
   exact ih
  ·rw[dF (by omega),cF,tL (by omega),hcl]
   have hb:=hwB (words l).length
   rw[List.take_length]at hb
   have:=qsp hl (out:=q0f (words l).length++q0x (words l)) (by rw[lA];omega) n 0 (by omega) (by omega)
   exact this
theorem qm0 {l:List (List Int)}(hl:l.length<=10000)(hc:∀s∈l,s.length<=4096):F56.run qfz Rk1 4000000 (l,())=some ((q7q l,()),()):=by
 have hwl:=q26 l
 rw[show F56.run qfz Rk1 4000000 (l,())=_ from(F56_run _ _).trans (F56c1_eq 3999999 _),qs8 (by omega),oB]
 dsimp only
 rw[q01 (by omega) (by omega),q2h (by omega),oB]
 dsimp only
 have:=qyt hl hc 3999999 0 (by omega) (by omega)
 rw[List.take_zero,show q0x []=[]from rfl,List.append_nil]at this
 exact this
/-! The reference's encoding. -/
def qce (W:List (List Int)):List (List Int):=W.map fun w=>q0f w.length++w
theorem qow {l:List (List Int)}(hl:l.length<=10000){out:List (List Int)}(ho:out.length<=20000)(hof:out.flatten.length<=50000000):∀(n i:Nat),l.length-i<n->i<=l.length->
  F66c10 n i (words l) (q0l l) out ((q0l l).take i) ((q0l l).take i)=some ((out.flatten++qav l,()),())
 |0,i,h,_=>by omega
 | n+1,i,h,hi=>by
  have hcl:=q4d l
  rw[F66c10_eq]
  by_cases hlt:i<l.length
  ·obtain⟨v,v1,v2⟩:=q7l hlt
   simp only[dT (show(i:Int)<((q0l l).length:Int) by omega),cT,if_pos (show(0:Int)<=(i:Int) by omega),if_pos (show(i:Int)<((q0l l).length:Int) by omega),tN,lT]
   rw[if_pos (by simp only[lim];omega),if_pos (by simp only[lim];omega),v1,q01 (by omega) (by omega),q00 (by omega) (by omega),<-v1]
   have ih:=qow hl ho hof n (i+1) (by omega) (by omega)
   have e:(q0l l).take (i+1)=(q0l l).take i++[(q0l l).getD i 0]:=by
    rw[List.take_succ_eq_append_getElem (by omega),gQ,gE (by omega)];rfl
   rw[e]at ih
   exact ih
  ·have hwl:=q26 l
   have hcw:=qse (x:=(words l).length) (by omega)
   obtain⟨hok,hrl⟩:=qdg (l:=l) (by omega)
   have hps:q04 (q0l l).length (cw (words l).length)<=30000:=by
    have:(q0l l).length*cw (words l).length<=10000*22:=Nat.mul_le_mul (by omega) (by omega)
    unfold q04
    omega
   have hrb:(q8w (q0z (q0l l))).length<=300000:=by
    have h1:=qao (q0z (q0l l)) 0 (qms hok)
    have h2:=q03 (x:=(q0z (q0l l)).length) (by omega)
    rw[q8w,lA]
    omega
   rw[dF (by omega),cF,tL (by omega),qbw (by omega),oB]
   dsimp only
   rw[qf6 (qjd (by omega)) (by omega) (by omega),oB,ql2 (by omega)]
   erw [oB]
   rw[qp6 hok (by omega),oB]
   dsimp only
   have hpl:=q4f (q0l l) (cw (words l).length)
   have fin:∀(b:Int) (x:List Int),x.length<=400000->F110.run qrq Rk1 400000000 (out++[[b]]++[x],())=some ((out.flatten++b::x,()),()):=by
    intro b x hx
    rw[qbc (by simp only[lA,List.length_singleton];omega) (by simp only[List.flatten_append,lA,List.flatten_cons,List.flatten_nil,List.append_nil,List.length_singleton];omega)]
    simp only[List.flatten_append,List.flatten_cons,List.flatten_nil,List.append_nil,aA]
    rfl
   unfold qav
   by_cases hlt2:(q8w (q0z (q0l l))).length<(q22 (q0l l) (cw (words l).length)).length
   ·rw[dT (by omega),cT,if_pos hlt2,if_pos (by simp only[lim];omega),if_pos (by simp only[lim,lA,List.length_singleton];omega),fin _ _ (by omega)]
    rfl
   ·rw[dF (by omega),cF,if_neg hlt2,if_pos (by simp only[lim];omega),if_pos (by simp only[lim,lA,List.length_singleton];omega),fin _ _ (by omega)]
    rfl
theorem qf0 (W:List (List Int)):(qce W).flatten=q0x W:=rfl
theorem quy {l:List (List Int)}(hl:l.length<=10000)(hc:∀s∈l,s.length<=4096):∀(n i:Nat),(words l).length-i+10100<n->i<=(words l).length->
  F66c4 n i (words l) (q0l l) (q0f (words l).length::qce ((words l).take i))=some ((q7q l,()),())
 |0,i,h,_=>by omega
 | n+1,i,h,hi=>by
  have hwl:=q26 l
  have hv:=q03 (x:=(words l).length) (by omega)
  rw[F66c4_eq]
  by_cases hlt:i<(words l).length
  ·have hwi:((words l).getD i []).length<=4096:=hc _ ((q3j l _).1 (q4o.2 ⟨i,hlt,rfl⟩))
   simp only[dT (show(i:Int)<((words l).length:Int) by omega),cT,if_pos (show(0:Int)<=(i:Int) by omega),if_pos (show(i:Int)<((words l).length:Int) by omega),tN]
   rw[qy5 (by omega),oB]
   dsimp only
   rw[if_pos (by simp only[lim,qce,lC,List.length_map,lT];omega),q00 (by omega) (by omega)]
   have ih:=quy hl hc n (i+1) (by omega) (by omega)
   have e:qce ((words l).take (i+1))=qce ((words l).take i)++[q0f ((words l).getD i []).length++(words l).getD i []]:=by
    rw[List.take_succ_eq_append_getElem hlt,qce,List.map_append,gQ,gE hlt];rfl
   rw[e]at ih
   exact ih
  ·have hb:=qc0 (W:=words l) (fun w hw=>hc w ((q3j l w).1 hw))
   rw[dF (by omega),cF,tL (by omega)]
   have:=qow hl (out:=q0f (words l).length::qce (words l)) (by simp only[qce,lC,List.length_map];omega) (by rw[List.flatten_cons,qf0,lA];omega) n 0 (by omega) (by omega)
   rw[List.flatten_cons,qf0]at this
   exact this
theorem qox {l:List (List Int)}(hl:l.length<=10000)(hc:∀s∈l,s.length<=4096):F66.run qfz Rk1 4000000 (l,())=some ((q7q l,()),()):=by
 have hwl:=q26 l
 rw[show F66.run qfz Rk1 4000000 (l,())=_ from(F66_run _ _).trans (F66c1_eq 3999999 _),qkp hl,oB]
 dsimp only
 rw[q01 (by omega) (by omega),q19 (by omega),oB]
 dsimp only
 exact quy hl hc 3999999 0 (by omega) (by omega)
end Go.Proofs.Tryz
