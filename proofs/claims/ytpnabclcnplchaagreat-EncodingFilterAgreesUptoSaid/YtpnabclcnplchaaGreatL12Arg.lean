/- Law 12: what an argument's bulk tells of a vector. -/
import Derived.Test.YtpnabclcnplchaaGreatL12Enc4
set_option linter.unusedVariables false
set_option linter.unusedSimpArgs false
namespace Go.Proofs.Tryz
open Go.Eng
theorem qdh {α:Type}(f:α->Nat)(hf:∀x,1<=f x):∀l:List α,l.length<=qrj f l
 |[]=>nR _
 |x::r=>by
  have:=qdh f hf r
  have:=hf x
  simp only[lC,qrj]
  omega
theorem z104 (v:Vec):∀i,i<=v.texts.length->tl v i+qrj (fun s:List Int=>s.length+1) (v.texts.drop i)<=qrj (fun s:List Int=>s.length+1) v.texts
 |0,_=>by simp[tl]
 |i+1,h=>by
  have ih:=z104 v i (by omega)
  have hlt:i<v.texts.length:=by omega
  rw[List.drop_eq_getElem_cons hlt]at ih
  have hg:v.texts.getD i []=v.texts[i]:=by rw[gQ,gE hlt];rfl
  simp only[qrj]at ih
  rw[show tl v (i+1)=tl v i+(v.texts.getD i []).length from rfl,hg]
  omega
theorem qyb {v:Vec}{m:Nat}(hm:qqq NN 1 0 v<=m):vsz v<=2*m/\v.texts.length<=m:=by
 have h:1+(qrj (fun _:Int=>1) v.ints+1+(qrj (fun s:List Int=>s.length+1) v.texts+1+(qrj (fun _:Bool=>1) v.nulls+1+0)))+1<=m:=hm
 have h1:=qdh (fun _:Int=>1) (fun _=>nR _) v.ints
 have h2:=qdh (fun s:List Int=>s.length+1) (fun _=>by omega) v.texts
 have h3:=qdh (fun _:Bool=>1) (fun _=>nR _) v.nulls
 have h4:=z104 v v.texts.length (nR _)
 unfold vsz
 omega
theorem z13e {v:Vec}(h:okK NN 1 0 v):okL v.ints:=by
 obtain⟨_,h2,_⟩:=h
 intro x hx
 have h3:(Lit.int .i64 x).wf=true:=h2 x hx
 simp only[Lit.wf,Bool.and_eq_true,decide_eq_true_eq]at h3
 exact⟨h3.1,Int.lt_of_le_of_lt h3.2 (by decide)⟩
end Go.Proofs.Tryz
