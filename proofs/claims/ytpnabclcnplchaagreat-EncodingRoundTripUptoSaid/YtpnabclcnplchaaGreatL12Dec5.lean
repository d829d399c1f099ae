/- Law 12: Decode, of the program and of the reference. -/
import Derived.Test.YtpnabclcnplchaaGreatL12DPl3
set_option linter.unusedVariables false
set_option linter.unusedSimpArgs false
namespace Go.Proofs.Tryz
open Go.Eng
theorem z143 {c:Nat}(h:5<c)(t:Int):F38.run Pk9 Rkl 4000000 ((c:Int),t,())=some ((false,()),())/\F25.run Pk9 Rkl 4000000 (t,(c:Int),())=some ((false,()),()):=by
 have a0:=dF (show¬(c:Int)=0 by omega)
 have a1:=dF (show¬(c:Int)=1 by omega)
 have a2:=dF (show¬(c:Int)=2 by omega)
 have a3:=dF (show¬(c:Int)=3 by omega)
 have a4:=dF (show¬(c:Int)=4 by omega)
 have a5:=dF (show¬(c:Int)=5 by omega)
 constructor
 ·rw[show F38.run Pk9 Rkl 4000000 ((c:Int),t,())=_ from F38_run _ _ _,a0,a1,a2,a3,a4,a5]
  simp only[cF]
  exact F38c11_eq 3999999
 ·rw[show F25.run Pk9 Rkl 4000000 (t,(c:Int),())=_ from F25_run _ _ _,a0,a1,a2,a3,a4,a5]
  simp only[cF]
  exact F25c11_eq 3999999
theorem qfn {v:Vec}:∀(d i:Nat),(∀j,i<=j->j<i+d->qwj v j=true)->q4x v d i=true
 |0,_,_=>rfl
 |d+1,i,h=>by
  rw[q4x,h i (nR _) (by omega),qfn d (i+1) (fun j h1 h2=>h j (by omega) (by omega))]
  rfl
def qwu (l:List Int):Prop:=∀x∈l,x=0\/x=1
theorem z127 {t:Int}{l:List Int}{N:Nat}(ht:t=1\/t=2)(hl:l.length=N)(hN:N<=65536)(hbit:t=1->qwu l):okV {f_Type:=t,ints:=l,texts:=[],nulls:=List.replicate N false}=true:=by
 unfold okV
 dsimp only
 rw[dT (by omega),dT (by omega),List.length_replicate,dT hN,Bool.true_and,Bool.true_and,Bool.true_and]
 have h1:q2i {f_Type:=t,ints:=l,texts:=[],nulls:=List.replicate N false}=true:=by
  unfold q2i
  dsimp only
  rw[if_neg (by omega),List.length_replicate,hl]
  simp
 rw[h1,Bool.true_and]
 refine qfn N 0 fun j _ hj=>?_
 unfold qwj
 dsimp only
 rw[gQ,List.getElem?_replicate,if_pos (by omega)]
 have hj':j<l.length:=by omega
 by_cases h:t=1
 ·have:=hbit h _ (gM hj')
  have hg:l.getD j 0=l[j]:=by rw[gQ,gE hj'];rfl
  rw[hg,dT h,dF (show¬t=3 by omega)]
  rcases this with h'|h'<;>simp[h']
 ·rw[dF h,dF (show¬t=3 by omega)]
  rfl
theorem z128 {W:List (List Int)}{N:Nat}(hl:W.length=N)(hN:N<=65536)(ht:okT W):okV {f_Type:=3,ints:=[],texts:=W,nulls:=List.replicate N false}=true:=by
 unfold okV
 dsimp only
 rw[List.length_replicate,dT hN]
 have h1:q2i {f_Type:=3,ints:=[],texts:=W,nulls:=List.replicate N false}=true:=by
  unfold q2i
  dsimp only
  rw[if_pos rfl,List.length_replicate,hl]
  simp
 rw[h1]
 have h2:q4x {f_Type:=3,ints:=[],texts:=W,nulls:=List.replicate N false} N 0=true:=by
  refine qfn N 0 fun j _ hj=>?_
  unfold qwj
  dsimp only
  rw[gQ,List.getElem?_replicate,if_pos (by omega)]
  have:=q5l ht j
  rw[dT this]
  rfl
 rw[h2]
 rfl
def vFin (b:List Int)(c q:Nat)(v:Vec):Option (HRes NN.ρ pvR×HOut NN.ρ frA):=
 bif !decide (List.map Eng.q0n ((c:Int)::q0h v c)=List.map Eng.q0n (slice b 0 q))then some ((q3k,((0:Int),((4:Int),()))),())else some ((v,((q:Int),((0:Int),()))),())
theorem z106 {b:List Int}{c q:Nat}{v:Vec}(hok:okV v=true)(hF:Fit v)(hc:b.getD 0 0=(c:Int))(hc5:c<=5)(ha:app c v.f_Type=true)(h1:1<=b.length)(hq:q<=b.length)(n:Nat):
  F18c17 (n+1) b q v.texts (v.texts.length:Int) (v.texts.length:Int) q3k v=vFin b c q v:=by
 have hc':b.getD (Int.toNat (0:Int)) 0=(c:Int):=hc
 rw[F18c17_eq,dF (by omega),cF,if_pos (by omega),hc',q00 (z:=(c:Int)) (by omega) (by omega),qem (fun _=>hF) hF.okL,oB]
 dsimp only
 have hE:qs3 v (c:Int)=((c:Int)::q0h v c,0):=by
  unfold qs3
  rw[hok,if_neg (by decide),if_neg (by omega),if_neg (by omega),ha,if_neg (by decide)]
 rw[hE,if_pos (by omega),if_pos (by omega),tN,show List.drop (Int.toNat (0:Int)) (List.take q b)=slice b 0 q from rfl,show F40.run _ _ 4000000 ((c:Int)::q0h v c,slice b 0 q,())=_ from F40_run _ _ _,oB]
 rfl
theorem z107 {b:List Int}{c q:Nat}{t:Int}{l:List Int}{W:List (List Int)}{N:List Bool}(hok:okV {f_Type:=t,ints:=l,texts:=W,nulls:=N}=true)(hF:Fit {f_Type:=t,ints:=l,texts:=W,nulls:=N})(hc:b.getD 0 0=(c:Int))(hc5:c<=5)(h1:1<=b.length)(hq:q<=b.length)(n:Nat):
  F19c26 (n+1) b q (W.length:Int) q3k t l N W=vFin b c q {f_Type:=t,ints:=l,texts:=W,nulls:=N}/\F19c26' (n+1) b q (W.length:Int) q3k t W N l=vFin b c q {f_Type:=t,ints:=l,texts:=W,nulls:=N}:=by
 have hc':b.getD (Int.toNat (0:Int)) 0=(c:Int):=hc
 constructor
 ·rw[F19c26_eq,dF (by omega),cF,if_pos (by omega),hc',q00 (z:=(c:Int)) (by omega) (by omega),qlb hok hF (by omega) (by omega),oB]
  dsimp only
  rw[if_pos (by omega),if_pos (by omega),tN,show List.drop (Int.toNat (0:Int)) (List.take q b)=slice b 0 q from rfl]
  rfl
 ·rw[F19c26'_eq,dF (by omega),cF,if_pos (by omega),hc',q00 (z:=(c:Int)) (by omega) (by omega),qlb hok hF (by omega) (by omega),oB]
  dsimp only
  rw[if_pos (by omega),if_pos (by omega),tN,show List.drop (Int.toNat (0:Int)) (List.take q b)=slice b 0 q from rfl]
  rfl
/-! The tests of what has been read. -/
theorem qoi {α:Type}{l:List α}{i:Nat}{d:α}(h:i<l.length):l.drop i=l.getD i d::l.drop (i+1):=by
 rw[List.drop_eq_getElem_cons h,gQ,gE h]
 rfl
theorem qp1 {b l:List Int}{t q:Int}{v:Vec}{t':Int}{W:List (List Int)}{N:List Bool}(hl:l.length<=1000000)(hx:okL l):∀(d i n m:Nat),l.length-i=d->i<=l.length->d<n->d<m->
  ((t=1->qwu (l.drop i))/\F18c11 n b t q l (l.length:Int) i q3k v=F18c11 (n-d) b t q l (l.length:Int) (l.length:Int) q3k v/\F19c21' m b t q i q3k t' W N l=F19c21' (m-d) b t q (l.length:Int) q3k t' W N l)\/
  (¬(t=1->qwu (l.drop i))/\F18c11 n b t q l (l.length:Int) i q3k v=some ((q3k,((0:Int),((4:Int),()))),())/\F19c21' m b t q i q3k t' W N l=some ((q3k,((0:Int),((4:Int),()))),()))
 |0,i,n,m,hd,hi,hn,hm=>by
  have:i=l.length:=by omega
  subst this
  refine .inl ⟨fun _ x hx=>?_,rfl,rfl⟩
  rw[List.drop_length]at hx
  cases hx
 | d +1,i,n,m,hd,hi,hn,hm=>by
  obtain⟨n,rfl⟩:∃n',n=n'+1:=⟨n-1,by omega⟩
  obtain⟨m,rfl⟩:∃m',m=m'+1:=⟨m-1,by omega⟩
  have hlt:i<l.length:=by omega
  have ih:=qp1 (b:=b) (t:=t) (q:=q) (v:=v) (t':=t') (W:=W) (N:=N) hl hx d (i+1) n m (by omega) (by omega) (by omega) (by omega)
  have hdr:=qoi (d:=(0:Int)) hlt
  have hg:=q4v hx hlt
  have han:=qsc hg.1 hg.2
  rw[show n+1-(d+1)=n-d by omega,show m+1-(d+1)=m-d by omega,F18c11_eq,F19c21'_eq,dT (show(i:Int)<(l.length:Int) by omega),cT,cT,if_pos (show(0:Int)<=(i:Int) by omega),if_pos (show(i:Int)<(l.length:Int) by omega),if_pos (show(0:Int)<=(i:Int) by omega),if_pos (show(i:Int)<(l.length:Int) by omega),if_pos (show(0:Int)<=(i:Int) by omega),if_pos (show(i:Int)<(l.length:Int) by omega),tN,q00 (z:=(i:Int)+1) (by omega) (by omega),show(i:Int)+1=((i+1:Nat):Int) by omega]
  by_cases ht:t=1
  ·rw [dT ht,cT,cT]
   by_cases h0:l.getD i 0=0
   ·rw[dT (han.2 (.inl h0)),nT,cF,dT h0,nT,cF]
    rcases ih with⟨a1,a2,a3⟩|⟨a1,a2,a3⟩
    ·refine .inl ⟨fun _ x hx=>?_,a2,a3⟩
     rw[hdr]at hx
     rcases List.mem_cons.1 hx with rfl|hx
     ·exact .inl h0
     ·exact a1 ht x hx
    ·refine .inr ⟨fun h=>a1 fun _ x hx=>h ht x (by rw[hdr];exact mC _ hx),a2,a3⟩
   ·rw[dF h0,nF,cT]
    by_cases h1:l.getD i 0=1
    ·rw[dT (han.2 (.inr h1)),nT,cF,dT h1,nT,cF]
     rcases ih with⟨a1,a2,a3⟩|⟨a1,a2,a3⟩
     ·refine .inl ⟨fun _ x hx=>?_,a2,a3⟩
      rw[hdr]at hx
      rcases List.mem_cons.1 hx with rfl|hx
      ·exact .inr h1
      ·exact a1 ht x hx
     ·refine .inr ⟨fun h=>a1 fun _ x hx=>h ht x (by rw[hdr];exact mC _ hx),a2,a3⟩
    ·rw[dF (fun h=>(han.1 h).elim h0 h1),nF,cT,dF h1,nF,cT]
     refine .inr ⟨fun h=>?_,rfl,rfl⟩
     exact(h ht _ (by rw[hdr];exact mS)).elim h0 h1
  ·rw[dF ht,cF,cF]
   rcases ih with⟨a1,a2,a3⟩|⟨a1,a2,a3⟩
   ·exact .inl ⟨fun h=>absurd h ht,a2,a3⟩
   ·exact absurd (fun h=>absurd h ht) a1
theorem qq9 {b:List Int}{q:Int}{v:Vec}{t':Int}{W:List (List Int)}{l:List Int}{N:List Bool}(hl:W.length<=1000000):∀(d i n m:Nat),W.length-i=d->i<=W.length->d<n->d<m->
  (okT (W.drop i)/\F18c17 n b q W (W.length:Int) i q3k v=F18c17 (n-d) b q W (W.length:Int) (W.length:Int) q3k v/\F19c26 m b q i q3k t' l N W=F19c26 (m-d) b q (W.length:Int) q3k t' l N W)\/
  (¬okT (W.drop i)/\F18c17 n b q W (W.length:Int) i q3k v=some ((q3k,((0:Int),((3:Int),()))),())/\F19c26 m b q i q3k t' l N W=some ((q3k,((0:Int),((3:Int),()))),()))
 |0,i,n,m,hd,hi,hn,hm=>by
  have:i=W.length:=by omega
  subst this
  refine .inl ⟨fun x hx=>?_,rfl,rfl⟩
  rw[List.drop_length]at hx
  cases hx
 | d+1,i,n,m,hd,hi,hn,hm=>by
  obtain⟨n,rfl⟩:∃n',n=n'+1:=⟨n-1,by omega⟩
  obtain⟨m,rfl⟩:∃m',m=m'+1:=⟨m-1,by omega⟩
  have hlt:i<W.length:=by omega
  have ih:=qq9 (b:=b) (q:=q) (v:=v) (t':=t') (l:=l) (N:=N) hl d (i+1) n m (by omega) (by omega) (by omega) (by omega)
  have hdr:=qoi (d:=([]:List Int)) hlt
  rw[show n+1-(d+1)=n-d by omega,show m+1-(d+1)=m-d by omega,F18c17_eq,F19c26_eq,dT (show(i:Int)<(W.length:Int) by omega),cT,cT,if_pos (show(0:Int)<=(i:Int) by omega),if_pos (show(i:Int)<(W.length:Int) by omega),if_pos (show(0:Int)<=(i:Int) by omega),if_pos (show(i:Int)<(W.length:Int) by omega),tN,q00 (z:=(i:Int)+1) (by omega) (by omega),show(i:Int)+1=((i+1:Nat):Int) by omega]
  by_cases h0:4096<(W.getD i []).length
  ·rw[dT (show(4096:Int)<((W.getD i []).length:Int) by omega),cT,cT]
   refine .inr ⟨fun h=>?_,rfl,rfl⟩
   have:=h (W.getD i []) (by rw[hdr];exact mS)
   omega
  ·rw[dF (show¬(4096:Int)<((W.getD i []).length:Int) by omega),cF,cF]
   rcases ih with⟨a1,a2,a3⟩|⟨a1,a2,a3⟩
   ·refine .inl ⟨fun x hx=>?_,a2,a3⟩
    rw[hdr]at hx
    rcases List.mem_cons.1 hx with rfl|hx
    ·omega
    ·exact a1 x hx
   ·exact .inr ⟨fun h=>a1 fun x hx=>h x (by rw[hdr];exact mC _ hx),a2,a3⟩
end Go.Proofs.Tryz
