/- Law 12, after law 10: dictionaries, encoded. -/
import Derived.Test.YtpnabclcnplchaaGreatL12Enc2
set_option linter.unusedVariables false
set_option linter.unusedSimpArgs false
namespace Go.Proofs.Tryz
open Go.Eng
theorem qfx {s:List Int}:∀(w:List (List Int)) (i:Nat),0<=(ql7 s w i).1/\(ql7 s w i).1<=i+w.length
 |[],i=>by simp[ql7]
 | x::r,i=>by
  unfold ql7
  by_cases h:x=s
  ·rw[if_pos h];simp;omega
  ·rw[if_neg h]
   have:=qfx (s:=s) r (i+1)
   simp only[List.length_cons]
   omega
theorem q48 (l:List (List Int)):(q0k l).length=l.length:=by rw[q0k,List.length_map]
theorem q7g {l:List (List Int)} {i:Nat} (h:i<l.length):∃v:Nat,(q0k l).getD i 0=(v:Int)/\v<=l.length:=by
 have hb:=qfx (s:=l[i]) (words l) 0
 have:=q22 l
 refine⟨(ql7 l[i] (words l) 0).1.toNat,?_,by omega⟩
 rw[q0k,List.getD_eq_getElem?_getD,List.getElem?_map,List.getElem?_eq_getElem h]
 show(ql7 l[i] (words l) 0).1=_
 omega
theorem qiy {l:List (List Int)} (hl:l.length<=1000000):okU (q0k l):=by
 intro i hi
 rw[q48]at hi
 obtain⟨v,h1,h2⟩:=q7g hi
 exact⟨v,h1,by omega⟩
theorem qd9 {l:List (List Int)} (hl:l.length<=1000000):okR (q0z (q0k l))/\(q0z (q0k l)).length<=l.length:=by
 have h:=qcb (l:=q0k l) (q0k l).length (Nat.le_refl _)
 rw[List.take_length]at h
 have hcl:=q48 l
 refine⟨fun j hj=>?_,by have:=h.len;omega⟩
 obtain⟨k,k1,k2⟩:=h.val j hj
 obtain⟨v,v1,v2⟩:=q7g (l:=l) (i:=k) (by omega)
 have:=h.cnt j hj
 rw[k2,v1]
 omega
/-! The encoding of strings. -/
def q0x (W:List (List Int)):List Int:=(W.map fun w=>q0f w.length++w).flatten
def qbs (l:List (List Int)):List Int:=
 if(q9l (q0z (q0k l))).length<(q1z (q0k l) (cw (words l).length)).length then 1::q9l (q0z (q0k l))else 0::q1z (q0k l) (cw (words l).length)
def q8q (l:List (List Int)):List Int:=q0f (words l).length++q0x (words l)++qbs l
theorem qfb {W:List (List Int)} {i:Nat} (h:i<W.length):q0x (W.take (i+1))=q0x (W.take i)++(q0f (W.getD i []).length++W.getD i []):=by
 rw[List.take_succ_eq_append_getElem h,q0x,List.map_append,List.flatten_append,List.getD_eq_getElem?_getD,List.getElem?_eq_getElem h]
 simp[q0x]
theorem qbv {W:List (List Int)} (hW:∀w∈W,w.length<=4096):(q0x W).length<=4106*W.length:=by
 induction W with
 |nil=>simp[q0x]
 |cons w W ih=>
  have h1:=hW w List.mem_cons_self
  have h2:=ih (fun x hx=>hW x (List.mem_cons_of_mem _ hx))
  have h3:=q03 (x:=w.length) (by omega)
  have:q0x (w::W)=(q0f w.length++w)++q0x W:=rfl
  rw[this,List.length_append,List.length_append,List.length_cons]
  omega
theorem qrr {l:List (List Int)} (hl:l.length<=10000) {out:List Int} (ho:out.length<=50000000):∀(n i:Nat),l.length-i<n->i<=l.length->
  F56c12 n (l.length:Int) i (words l) out ((q0k l).take i) ((q0k l).take i) (q0k l)=some ((out++qbs l,()),())
 |0,i,h,_=>by omega
 | n+1,i,h,hi=>by
  have hcl:=q48 l
  rw[F56c12_eq]
  by_cases hlt:i<l.length
  ·obtain⟨v,v1,v2⟩:=q7g hlt
   simp only[dT (show(i:Int)<(l.length:Int) by omega),cT,if_pos (show(0:Int)<=(i:Int) by omega),if_pos (show(i:Int)<((q0k l).length:Int) by omega),tN,List.length_take]
   rw[if_pos (by simp only[lim];omega),if_pos (by simp only[lim];omega),v1,q01 (by omega) (by omega),q00 (by omega) (by omega),<-v1]
   have ih:=qrr hl ho n (i+1) (by omega) (by omega)
   have e:(q0k l).take (i+1)=(q0k l).take i++[(q0k l).getD i 0]:=by
    rw[List.take_succ_eq_append_getElem (by omega),List.getD_eq_getElem?_getD,List.getElem?_eq_getElem (by omega)];rfl
   rw[e]at ih
   exact ih
  ·have hwl:=q22 l
   have hcw:=qrg (x:=(words l).length) (by omega)
   obtain⟨hok,hrl⟩:=qd9 (l:=l) (by omega)
   have hps:q04 (q0k l).length (cw (words l).length)<=8388608:=(size_eq (by omega) (by omega)).2
   have hrb:(q9l (q0z (q0k l))).length<=300000:=by
    have h1:=qal (q0z (q0k l)) 0 (qme hok)
    have h2:=q03 (x:=(q0z (q0k l)).length) (by omega)
    rw[q9l,List.length_append]
    omega
   rw[dF (by omega),cF,List.take_of_length_le (by omega),qfa (by omega),oB]
   dsimp only
   rw[qhx (qiy (by omega)) (by omega) (by omega),oB,qoo (by omega)]
   erw [oB]
   rw[qu8 hok (by omega),oB]
   dsimp only
   have hpl:=q4b (q0k l) (cw (words l).length)
   unfold qbs
   by_cases hlt2:(q9l (q0z (q0k l))).length<(q1z (q0k l) (cw (words l).length)).length
   ·rw[dT (by omega),cT,if_pos hlt2,if_pos (by simp only[lim];omega),if_pos (by simp only[lim,List.length_append,List.length_singleton];omega),List.append_assoc]
    rfl
   ·rw[dF (by omega),cF,if_neg hlt2,if_pos (by simp only[lim];omega),if_pos (by simp only[lim,List.length_append,List.length_singleton];omega),List.append_assoc]
    rfl
theorem qxr {l:List (List Int)} (hl:l.length<=10000) (hc:∀s∈l,s.length<=4096):∀(n i:Nat),(words l).length-i+10100<n->i<=(words l).length->
  F56c4 n ((words l).length:Int) i (words l) (q0k l) (q0f (words l).length++q0x ((words l).take i))=some ((q8q l,()),())
 |0,i,h,_=>by omega
 | n+1,i,h,hi=>by
  have hwl:=q22 l
  have hcl:=q48 l
  have hv:=q03 (x:=(words l).length) (by omega)
  have hwB:∀j,(q0x ((words l).take j)).length<=4106*10000:=fun j=>by
   have:=qbv (W:=(words l).take j) (fun w hw=>hc w ((q4a l w).1 (List.mem_of_mem_take hw)))
   rw[List.length_take]at this
   omega
  rw[F56c4_eq]
  by_cases hlt:i<(words l).length
  ·have hwi:((words l).getD i []).length<=4096:=hc _ ((q4a l _).1 (q4i.2 ⟨i,hlt,rfl⟩))
   have hvi:=q03 (x:=((words l).getD i []).length) (by omega)
   have hb:=hwB i
   simp only[dT (show(i:Int)<((words l).length:Int) by omega),cT,if_pos (show(0:Int)<=(i:Int) by omega),if_pos (show(i:Int)<((words l).length:Int) by omega),tN]
   rw[q01 (by omega) (by omega),q2c (by omega),oB]
   dsimp only
   rw[if_pos (by simp only[lim,List.length_append];omega),if_pos (by simp only[lim,List.length_append];omega),q00 (by omega) (by omega)]
   have ih:=qxr hl hc n (i+1) (by omega) (by omega)
   rw[qfb hlt]at ih
   simp only[<-List.append_assoc]at ih ⊢
   exact ih
  ·rw[dF (by omega),cF,List.take_of_length_le (by omega),hcl]
   have hb:=hwB (words l).length
   rw[List.take_length]at hb
   have:=qrr hl (out:=q0f (words l).length++q0x (words l)) (by rw[List.length_append];omega) n 0 (by omega) (by omega)
   exact this
theorem qlh {l:List (List Int)} (hl:l.length<=10000) (hc:∀s∈l,s.length<=4096):F56.run qfr Rk1 4000000 (l,())=some ((q8q l,()),()):=by
 have hwl:=q22 l
 rw[show F56.run qfr Rk1 4000000 (l,())=_ from(F56_run _ _).trans (F56c1_eq 3999999 _),qrb (by omega),oB]
 dsimp only
 rw[q01 (by omega) (by omega),q2c (by omega),oB]
 dsimp only
 have:=qxr hl hc 3999999 0 (by omega) (by omega)
 rw[List.take_zero,show q0x []=[]from rfl,List.append_nil]at this
 exact this
/-! The reference's encoding. -/
def qc9 (W:List (List Int)):List (List Int):=W.map fun w=>q0f w.length++w
theorem qob {l:List (List Int)} (hl:l.length<=10000) {out:List (List Int)} (ho:out.length<=20000) (hof:out.flatten.length<=50000000):∀(n i:Nat),l.length-i<n->i<=l.length->
  F66c10 n i (words l) (q0k l) out ((q0k l).take i) ((q0k l).take i)=some ((out.flatten++qbs l,()),())
 |0,i,h,_=>by omega
 | n+1,i,h,hi=>by
  have hcl:=q48 l
  rw[F66c10_eq]
  by_cases hlt:i<l.length
  ·obtain⟨v,v1,v2⟩:=q7g hlt
   simp only[dT (show(i:Int)<((q0k l).length:Int) by omega),cT,if_pos (show(0:Int)<=(i:Int) by omega),if_pos (show(i:Int)<((q0k l).length:Int) by omega),tN,List.length_take]
   rw[if_pos (by simp only[lim];omega),if_pos (by simp only[lim];omega),v1,q01 (by omega) (by omega),q00 (by omega) (by omega),<-v1]
   have ih:=qob hl ho hof n (i+1) (by omega) (by omega)
   have e:(q0k l).take (i+1)=(q0k l).take i++[(q0k l).getD i 0]:=by
    rw[List.take_succ_eq_append_getElem (by omega),List.getD_eq_getElem?_getD,List.getElem?_eq_getElem (by omega)];rfl
   rw[e]at ih
   exact ih
  ·have hwl:=q22 l
   have hcw:=qrg (x:=(words l).length) (by omega)
   obtain⟨hok,hrl⟩:=qd9 (l:=l) (by omega)
   have hps:q04 (q0k l).length (cw (words l).length)<=30000:=by
    have:(q0k l).length*cw (words l).length<=10000*22:=Nat.mul_le_mul (by omega) (by omega)
    unfold q04
    omega
   have hrb:(q9l (q0z (q0k l))).length<=300000:=by
    have h1:=qal (q0z (q0k l)) 0 (qme hok)
    have h2:=q03 (x:=(q0z (q0k l)).length) (by omega)
    rw[q9l,List.length_append]
    omega
   rw[dF (by omega),cF,List.take_of_length_le (by omega),qbq (by omega),oB]
   dsimp only
   rw[qex (qiy (by omega)) (by omega) (by omega),oB,qkm (by omega)]
   erw [oB]
   rw[qok hok (by omega),oB]
   dsimp only
   have hpl:=q4b (q0k l) (cw (words l).length)
   have fin:∀(b:Int) (x:List Int),x.length<=400000->F110.run qqu Rk1 400000000 (out++[[b]]++[x],())=some ((out.flatten++b::x,()),()):=by
    intro b x hx
    rw[qb6 (by simp only[List.length_append,List.length_singleton];omega) (by simp only[List.flatten_append,List.length_append,List.flatten_cons,List.flatten_nil,List.append_nil,List.length_singleton];omega)]
    simp only[List.flatten_append,List.flatten_cons,List.flatten_nil,List.append_nil,List.append_assoc]
    rfl
   unfold qbs
   by_cases hlt2:(q9l (q0z (q0k l))).length<(q1z (q0k l) (cw (words l).length)).length
   ·rw[dT (by omega),cT,if_pos hlt2,if_pos (by simp only[lim];omega),if_pos (by simp only[lim,List.length_append,List.length_singleton];omega),fin _ _ (by omega)]
    rfl
   ·rw[dF (by omega),cF,if_neg hlt2,if_pos (by simp only[lim];omega),if_pos (by simp only[lim,List.length_append,List.length_singleton];omega),fin _ _ (by omega)]
    rfl
theorem qer (W:List (List Int)):(qc9 W).flatten=q0x W:=rfl
theorem qu2 {l:List (List Int)} (hl:l.length<=10000) (hc:∀s∈l,s.length<=4096):∀(n i:Nat),(words l).length-i+10100<n->i<=(words l).length->
  F66c4 n i (words l) (q0k l) (q0f (words l).length::qc9 ((words l).take i))=some ((q8q l,()),())
 |0,i,h,_=>by omega
 | n+1,i,h,hi=>by
  have hwl:=q22 l
  have hv:=q03 (x:=(words l).length) (by omega)
  rw[F66c4_eq]
  by_cases hlt:i<(words l).length
  ·have hwi:((words l).getD i []).length<=4096:=hc _ ((q4a l _).1 (q4i.2 ⟨i,hlt,rfl⟩))
   simp only[dT (show(i:Int)<((words l).length:Int) by omega),cT,if_pos (show(0:Int)<=(i:Int) by omega),if_pos (show(i:Int)<((words l).length:Int) by omega),tN]
   rw[qx5 (by omega),oB]
   dsimp only
   rw[if_pos (by simp only[lim,qc9,List.length_cons,List.length_map,List.length_take];omega),q00 (by omega) (by omega)]
   have ih:=qu2 hl hc n (i+1) (by omega) (by omega)
   have e:qc9 ((words l).take (i+1))=qc9 ((words l).take i)++[q0f ((words l).getD i []).length++(words l).getD i []]:=by
    rw[List.take_succ_eq_append_getElem hlt,qc9,List.map_append,List.getD_eq_getElem?_getD,List.getElem?_eq_getElem hlt];rfl
   rw[e]at ih
   exact ih
  ·have hb:=qbv (W:=words l) (fun w hw=>hc w ((q4a l w).1 hw))
   rw[dF (by omega),cF,List.take_of_length_le (by omega)]
   have:=qob hl (out:=q0f (words l).length::qc9 (words l)) (by simp only[qc9,List.length_cons,List.length_map];omega) (by rw[List.flatten_cons,qer,List.length_append];omega) n 0 (by omega) (by omega)
   rw[List.flatten_cons,qer]at this
   exact this
theorem qoc {l:List (List Int)} (hl:l.length<=10000) (hc:∀s∈l,s.length<=4096):F66.run qfr Rk1 4000000 (l,())=some ((q8q l,()),()):=by
 have hwl:=q22 l
 rw[show F66.run qfr Rk1 4000000 (l,())=_ from(F66_run _ _).trans (F66c1_eq 3999999 _),qk9 hl,oB]
 dsimp only
 rw[q01 (by omega) (by omega),q18 (by omega),oB]
 dsimp only
 exact qu2 hl hc 3999999 0 (by omega) (by omega)
end Go.Proofs.Tryz
