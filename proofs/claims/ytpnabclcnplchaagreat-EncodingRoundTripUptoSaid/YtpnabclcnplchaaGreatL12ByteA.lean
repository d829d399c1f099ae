/- Law 12: encodings are bytes. -/
import Derived.Test.YtpnabclcnplchaaGreatL12Dec6
set_option linter.unusedVariables false
set_option linter.unusedSimpArgs false
namespace Go.Proofs.Tryz
open Go.Eng
theorem q44 {a c:List Int}(ha:byt a)(hc:byt c):byt (a++c):=fun x hx=>(mA.1 hx).elim (ha x) (hc x)
theorem qwv {a:List Int}(ha:byt a)(i:Nat):byt (a.drop i):=fun x hx=>ha x (List.mem_of_mem_drop hx)
theorem qo6 {l:List (List Int)}(h:∀w∈l,byt w)(i:Nat):byt (l.getD i []):=by
 rw[gQ]
 rcases Nat.lt_or_ge i l.length with h'|h'
 ·rw[gE h']
  exact h _ (gM h')
 ·rw[List.getElem?_eq_none h']
  exact fun x hx=>by cases hx
theorem qln:∀(l:List Run) (v:Int),byt (q2j l v)
 |[],_=>fun x hx=>by cases hx
 |r::t,v=>by
  rw[q2j]
  exact q44 (q44 (q1a _) (q1a _)) (qln t r.value)
theorem qpi (l:List Run):byt (q9b l):=by
 unfold q9b
 exact q44 (q1a _) (qln l 0)
theorem quk (l:List Int):∀i,byt (nmB l i)
 |0=>fun x hx=>by cases hx
 |i+1=>by
  rw[nmB]
  refine q44 (quk l i) ?_
  rw[qzf]
  exact qek _ _
theorem qw1 {l:List (List Int)}(h:∀w∈l,byt w):∀i,byt (txB l i)
 |0=>fun x hx=>by cases hx
 |i+1=>by
  rw[txB]
  exact q44 (q44 (qw1 h i) (q1a _)) (qo6 h i)
theorem qtc {l:List (List Int)}(h:∀w∈l,byt w):∀i,byt (fcB l i)
 |0=>fun x hx=>by cases hx
 |i+1=>by
  rw[fcB]
  exact q44 (q44 (q44 (qtc h i) (q1a _)) (q1a _)) (qwv (qo6 h i) _)
theorem qx7 {l:List (List Int)}(h:∀w∈l,byt w):byt (q86 l):=by
 unfold q86
 refine q44 (q44 (q1a _) ?_) ?_
 ·intro x hx
  obtain⟨s,hs,hx⟩:=List.mem_flatten.1 hx
  obtain⟨w,hw,rfl⟩:=List.mem_map.1 hs
  exact q44 (q1a _) (h w ((q3u l w).1 hw)) x hx
 ·unfold qbc
  split
  ·intro x hx
   rcases List.mem_cons.1 hx with rfl|hx
   ·omega
   ·exact qpi _ x hx
  ·intro x hx
   rcases List.mem_cons.1 hx with rfl|hx
   ·omega
   ·exact qa1 _ _ x hx
theorem qsk {v:Vec}(hx:okL v.ints)(h:∀w∈v.texts,byt w)(k:Int):byt (q0h v k):=by
 unfold q0h
 split
 ·unfold plE
  split
  ·exact qa1 _ _
  ·split
   ·exact quk _ _
   ·exact qw1 h _
 ·split
  ·exact qpi _
  ·split
   ·exact qf4 _
   ·split
    ·exact qk3 hx
    ·split
     ·exact qx7 h
     ·exact qtc h _
theorem qz8 {v:Vec}(ht:okT v.texts):∀i,(fcB v.texts i).length<=20*i+tl v i
 |0=>by simp[fcB]
 |i+1=>by
  have h1:=qz8 ht i
  have h2:=q5l ht i
  have h3:=qpz v.texts i
  have h4:=q03 (x:=shr v.texts i) (by omega)
  have h5:=q03 (x:=(v.texts.getD i []).length-shr v.texts i) (by omega)
  rw[fcB,show tl v (i+1)=tl v i+(v.texts.getD i []).length from rfl]
  simp only[lA,lD]
  omega
theorem z10y {v:Vec}{k:Nat}(hv:okV v=true)(hk:k<=5):qs3 v (k:Int)=if app (k:Int) v.f_Type=true then((k:Int)::q0h v k,0)else([],7):=by
 unfold qs3
 rw[hv,if_neg (by decide),if_neg (by omega),if_neg (by omega)]
 cases app (k:Int) v.f_Type<;>rfl
theorem z14c {v:Vec}{k:Nat}(hv:okV v=true)(hs:vsz v<=10000)(hx:okL v.ints)(ht:∀w∈v.texts,byt w)(hk:k<=5){R:List Int}(hR:byt R)(hRl:R.length<=1000):
  okB (((k:Int)::q0h v k)++R)/\(((k:Int)::q0h v k)++R).length<=100000000/\((((k:Int)::q0h v k)++R).getD 0 0=5->(((k:Int)::q0h v k)++R).length<=1000000):=by
 have hF:=qit hv hs hx
 have hl:=q7v hF (k:Int)
 refine⟨quq (q44 ?_ hR),by simp only[lA,lC];omega,fun h=>?_⟩
 ·intro x h
  rcases List.mem_cons.1 h with rfl|h
  ·omega
  ·exact qsk hx ht _ x h
 ·have h5:(k:Int)=5:=h
  have hb:q0h v (k:Int)=fcB v.texts v.texts.length:=by
   unfold q0h
   rw[if_neg (by omega),if_neg (by omega),if_neg (by omega),if_neg (by omega),if_neg (by omega)]
  have h6:=qz8 hF.okT v.texts.length
  have h7:=hF.texts
  unfold vsz at hs
  rw[lA,lC,hb]
  omega
theorem z13c {v:Vec}(h:okK NN 1 0 v):∀w∈v.texts,byt w:=by
 obtain⟨_,_,h3,_⟩:=h
 exact fun w hw x hx=>h3 w hw x hx
end Go.Proofs.Tryz
