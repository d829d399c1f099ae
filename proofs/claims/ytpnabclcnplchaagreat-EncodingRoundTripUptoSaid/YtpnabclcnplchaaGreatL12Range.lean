/- Law 12, after law 10: the bounds of the words that compare, by halving and by counting. -/
import Derived.Test.YtpnabclcnplchaaGreatL12FnA
import Derived.Test.YtpnabclcnplchaaGreatL12FnB
import Derived.Test.YtpnabclcnplchaaGreatEngine4
set_option linter.unusedVariables false
set_option linter.unusedSimpArgs false
namespace Go.Proofs.Tryz
open Go.Eng
open IntKind (i64 u64 u8)
def ptr (e:Bool)(s x:List Int):Bool:=q0s x s||(e&&decide (x=s))
def qql (e:Bool)(s:List Int)(w:List (List Int))(k:Nat):Prop:=
 k<=w.length/\(∀i,i<k->ptr e s (w.getD i [])=true)/\∀i,k<=i->i<w.length->ptr e s (w.getD i [])=false
def q2l (w:List (List Int)):Prop:=∀i j,i<j->j<w.length->q0s (w.getD i []) (w.getD j [])=true
theorem z15r (f t:Nat)(h1:f<4611686018427387904)(h2:t<4611686018427387904):i64.wrap ((i64.wrap ((f:Int)+(t:Int))).tdiv 2)=(((f+t)/2:Nat):Int):=by
 rw[q00 (z:=(f:Int)+(t:Int)) (by omega) (by omega),Int.tdiv_eq_ediv_of_nonneg (by omega),q00 (by omega) (by omega)]
 omega
theorem q9h {e:Bool}{s:List Int}{w:List (List Int)}(hw:q2l w){i j:Nat}(hij:i<=j)(hj:j<w.length)(h:ptr e s (w.getD j [])=true):ptr e s (w.getD i [])=true:=by
 rcases Nat.lt_or_eq_of_le hij with hl|rfl
 ·have h1:=hw i j hl hj
  simp only[ptr,Bool.or_eq_true,Bool.and_eq_true,decide_eq_true_eq]at h ⊢
  rcases h with h|⟨_,h⟩
  ·exact .inl (q5t h1 h)
  ·rw[h]at h1
   exact .inl h1
 ·exact h
theorem qip {e:Bool}{s:List Int}{w:List (List Int)}(hw:q2l w)(hlen:w.length<4611686018427387904):∀(n f t:Nat),t-f<n->f<=t->t<=w.length->
  (∀i,i<f->ptr e s (w.getD i [])=true)->(∀i,t<=i->i<w.length->ptr e s (w.getD i [])=false)->∃k:Nat,F172c2 n w s e f t=some (((k:Int),()),())/\qql e s w k
 |0,f,t,h,_,_,_,_=>by omega
 | n +1,f,t,h,hft,htl,h1,h2=>by
  rw[F172c2_eq]
  by_cases hlt:f<t
  ·have hm:=z15r f t (by omega) (by omega)
   generalize hmd:(f+t)/2=m at hm
   have hmf:f<=m:=by omega
   have hmt:m<t:=by omega
   have up:ptr e s (w.getD m [])=true->∃k:Nat,F172c2 n w s e (i64.wrap ((m:Int)+1)) t=some (((k:Int),()),())/\qql e s w k:=by
    intro hp
    rw[q00 (by omega) (by omega)]
    exact qip hw hlen n (m+1) t (by omega) (by omega) htl (fun i hi=>q9h hw (by omega) (by omega) hp) h2
   have down:ptr e s (w.getD m [])=false->∃k:Nat,F172c2 n w s e f m=some (((k:Int),()),())/\qql e s w k:=by
    intro hp
    refine qip hw hlen n f m (by omega) (by omega) (by omega) h1 (fun i hi hil=>?_)
    cases hq:ptr e s (w.getD i [])with
    |false=>rfl
    |true=>rw[q9h hw hi hil hq]at hp;cases hp
   rw[hm]
   simp only[dT (show(f:Int)<t by omega),cT,if_pos (show(0:Int)<=(m:Int) by omega),if_pos (show(m:Int)<(w.length:Int) by omega),tN]
   cases hs:q0s (w.getD m []) s with
   |true=>exact up (by simp only[ptr,hs,Bool.true_or])
   | false=>
    cases he:e with
    |false=>subst he;exact down (by simp only[ptr,hs,Bool.false_or,Bool.false_and])
    | true=>
     subst he
     by_cases hq:w.getD m []=s
     ·simp only[cF,cT,dT hq]
      exact up (by simp only[ptr,dT hq,Bool.and_self,Bool.or_true])
     ·simp only[cF,cT,dF hq]
      exact down (by simp only[ptr,hs,dF hq,Bool.and_false,Bool.or_false])
  ·rw[dF (by omega)]
   have:f=t:=by omega
   subst this
   exact⟨f,rfl,htl,h1,h2⟩
theorem quf {e:Bool}{s:List Int}{w:List (List Int)}(hw:q2l w)(hlen:w.length<=3000000):
  ∃k:Nat,F172.run Pk2n Rk6 4000000 (w,s,e,())=some (((k:Int),()),())/\qql e s w k:=by
 rw[show F172.run Pk2n Rk6 4000000 (w,s,e,())=_ from F172_run _ _ _ _]
 exact qip hw (by omega) 4000000 0 w.length (by omega) (by omega) (nR _) (fun i hi=>by omega) (fun i h1 h2=>by omega)
end Go.Proofs.Tryz
