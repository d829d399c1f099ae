/- Law 12: what an argument's bulk tells of a vector. -/
import Derived.Test.YtpnabclcnplchaaGreatL12Enc4
set_option linter.unusedVariables false
set_option linter.unusedSimpArgs false
namespace Go.Proofs.Tryz
open Go.Eng
theorem qe1 {α:Type}(f:α->Nat)(hf:∀x,1<=f x):∀l:List α,l.length<=qru f l
 |[]=>nR _
 |x::r=>by
  have:=qe1 f hf r
  have:=hf x
  simp only[lC,qru]
  omega
theorem z109 (v:Vec):∀i,i<=v.texts.length->tl v i+qru (fun s:List Int=>s.length+1) (v.texts.drop i)<=qru (fun s:List Int=>s.length+1) v.texts
 |0,_=>by simp[tl]
 |i+1,h=>by
  have ih:=z109 v i (by omega)
  have hlt:i<v.texts.length:=by omega
  rw[List.drop_eq_getElem_cons hlt]at ih
  have hg:v.texts.getD i []=v.texts[i]:=by rw[gQ,gE hlt];rfl
  simp only[qru]at ih
  rw[show tl v (i+1)=tl v i+(v.texts.getD i []).length from rfl,hg]
  omega
theorem qyh {v:Vec}{m:Nat}(hm:qr6 NN 1 0 v<=m):vsz v<=2*m/\v.texts.length<=m:=by
 have h:1+(qru (fun _:Int=>1) v.ints+1+(qru (fun s:List Int=>s.length+1) v.texts+1+(qru (fun _:Bool=>1) v.nulls+1+0)))+1<=m:=hm
 have h1:=qe1 (fun _:Int=>1) (fun _=>nR _) v.ints
 have h2:=qe1 (fun s:List Int=>s.length+1) (fun _=>by omega) v.texts
 have h3:=qe1 (fun _:Bool=>1) (fun _=>nR _) v.nulls
 have h4:=z109 v v.texts.length (nR _)
 unfold vsz
 omega
theorem z13e {v:Vec}(h:okK NN 1 0 v):okL v.ints:=by
 obtain⟨_,h2,_⟩:=h
 intro x hx
 have h3:(Lit.int .i64 x).wf=true:=h2 x hx
 simp only[Lit.wf,Bool.and_eq_true,decide_eq_true_eq]at h3
 exact⟨h3.1,Int.lt_of_le_of_lt h3.2 (by decide)⟩
end Go.Proofs.Tryz
