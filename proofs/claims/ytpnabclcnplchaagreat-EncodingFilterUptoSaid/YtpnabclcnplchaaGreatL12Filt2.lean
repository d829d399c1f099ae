/- Law 12: Filter, of the program and of the reference: the loops. -/
import Derived.Test.YtpnabclcnplchaaGreatL12Filt
set_option linter.unusedVariables false
set_option linter.unusedSimpArgs false
namespace Go.Proofs.Tryz
open Go.Eng
open IntKind (i64 u64 u8)
def setb (w:List Int)(j:Nat):List Int:=w.set (j/64) (Go.bits BinOp.or u64 (w.getD (j/64) 0) ((2^(j%64):Nat):Int))
theorem qxs (w:List Int)(j:Nat):(setb w j).length=w.length:=by unfold setb;rw[List.length_set]
def qrg (w:List Int)(H:List Nat):List Int:=H.foldl setb w
theorem qi9:∀(H:List Nat) (w:List Int),(qrg w H).length=w.length
 |[],w=>rfl
 |j::H,w=>by
  rw[show qrg w (j::H)=qrg (setb w j) H from rfl,qi9 H,qxs]
theorem qkw (w:List Int)(H:List Nat)(j:Nat):qrg w (H++[j])=setb (qrg w H) j:=by
 unfold qrg
 rw[List.foldl_append]
 rfl
def cI (H:List Nat):List Int:=H.map fun j:Nat=>(j:Int)
theorem qnk (H:List Nat):(cI H).length=H.length:=by simp[cI]
def wcn (n:Nat):Nat:=(n+63)/64
def zws (n:Nat):List Int:=List.replicate (wcn n) 0
theorem z13y {n:Nat}(hn:n<=1000000):F147.run Pks Rk5 4000000 ((n:Int),())=some ((((wcn n:Nat):Int),()),()):=by
 rw[show F147.run Pks Rk5 4000000 ((n:Int),())=_ from F147_run _ _,q00 (z:=(n:Int)+63) (by omega) (by omega),Int.tdiv_eq_ediv_of_nonneg (by omega),q00 (by omega) (by omega)]
 unfold wcn
 rw[show((n:Int)+63)/64=(((n+63)/64:Nat):Int) by omega]
abbrev agR:List RK:=[RK.ag 4 [CK.c (Ty.int .i64),CK.o 83 (Ty.int u64)]]
abbrev bsR:List RK:=[RK.v (Ty.nm 4)]
theorem qu8 {j:Nat}{x:Int}(hx:x=((j%64:Nat):Int)):u64.wrap ((1:Int)*(2:Int)^min x.toNat u64.bits)=((2^(j%64):Nat):Int):=by
 have h:(2:Nat)^(j%64)<=2^63:=Nat.pow_le_pow_right (by decide) (by omega)
 have h0:0<(2:Nat)^(j%64):=Nat.two_pow_pos _
 rw[hx,tN,show u64.bits=64 from rfl,Nat.min_eq_left (by omega),Int.one_mul,q2p,q01 (by omega) (by omega)]
theorem qzx {n:Nat}{H:List Nat}(hn:n<=1000000)(hH:∀j∈H,j<n)(hl:H.length<=1000000){x3:Int}{x5:List Int}:∀(d i m:Nat),H.length-i=d->i<=H.length->2*d<m->
  F45c3 m (cI H) (H.length:Int) i x3 n x5 (qrg (zws n) (H.take i))=some ((({n:=(n:Int),words:=qrg (zws n) H}:Bits),()),())
 |0,i,m,hd,hi,hm=>by
  obtain⟨m,rfl⟩:∃m',m=m'+1:=⟨m-1,by omega⟩
  rw[F45c3_eq,dF (by omega),cF,tL (by omega)]
 | d+1,i,m,hd,hi,hm=>by
  obtain⟨m,rfl⟩:∃m',m=m'+2:=⟨m-2,by omega⟩
  have hlt:i<H.length:=by omega
  have ih:=qzx (x3:=x3) (x5:=x5) hn hH hl d (i+1) m (by omega) (by omega) (by omega)
  have hj:=hH _ (gM hlt)
  have hg:(cI H).getD i 0=((H[i]:Nat):Int):=by rw[gQ,cI,List.getElem?_map,gE hlt];rfl
  rw[List.take_succ_eq_append_getElem hlt,qkw]at ih
  have hwl:(qrg (zws n) (H.take i)).length=wcn n:=by rw[qi9];simp[zws]
  generalize qrg (zws n) (H.take i)=w at ih hwl ⊢
  generalize H[i]=j at hj hg ih
  have hdv:(j:Int).tdiv 64=((j/64:Nat):Int):=by rw[Int.tdiv_eq_ediv_of_nonneg (by omega)];omega
  have hmd:(j:Int).tmod 64=((j%64:Nat):Int):=by rw[Int.tmod_eq_emod_of_nonneg (by omega)];omega
  have hjw:j/64<wcn n:=by unfold wcn;omega
  rw[F45c3_eq,dT (by omega),cT,if_pos (by omega),if_pos (by rw[qnk];omega),tN,hg,dT (by omega),cT,dT (by omega),cT,hdv,hmd,q00 (z:=((j/64:Nat):Int)) (by omega) (by omega),
   if_pos (by omega),if_pos (by omega),if_pos (by omega),if_pos (by omega),if_pos (by omega),qu8 rfl,tN,F45c7_eq,q00 (z:=(i:Int)+1) (by omega) (by omega)]
  exact ih
theorem z16s {n:Nat}{H:List Nat}(hn:n<=1000000)(hH:∀j∈H,j<n)(hl:H.length<=1000000):
  F45.run qw0 bsR 4000000 ((n:Int),cI H,())=some ((({n:=(n:Int),words:=qrg (zws n) H}:Bits),()),()):=by
 have h87:F87.run Pks agR 4000000 ((n:Int),())=some ((((n:Int),(zws n,())),()),()):=by
  rw[show F87.run Pks agR 4000000 ((n:Int),())=_ from(F87_run _ _).trans (F87c1_eq 3999999 _ _ _),dF (show¬(n:Int)<0 by omega),cF,dF (show¬(1048576:Int)<(n:Int) by omega),cF,F87c3_eq (n:=3999998),z13y hn,oB]
  dsimp only
  rw[if_pos (show(0:Int)<=((wcn n:Nat):Int) by omega),if_pos (show((wcn n:Nat):Int)<=((lim:Nat):Int) by unfold wcn;simp only[lim];omega),tN]
  rfl
 rw[show F45.run qw0 bsR 4000000 ((n:Int),cI H,())=_ from F45_run _ _ _,h87,oB]
 dsimp only
 rw[qnk]
 exact qzx hn hH hl H.length 0 4000000 (by omega) (by omega) (by omega)
def qef (p:Pred)(v:Vec)(k:Nat):List Nat:=(List.range k).filter fun j=>q4s p (vAt v j)
theorem qg3 (p:Pred)(v:Vec)(k:Nat):qef p v (k+1)=qef p v k++(if q4s p (vAt v k)=true then[k]else[]):=by
 unfold qef
 rw[List.range_succ,List.filter_append]
 congr 1
 by_cases h:q4s p (vAt v k)=true
 ·rw[if_pos h,List.filter_cons,if_pos h]
  rfl
 ·rw[if_neg h,List.filter_cons,if_neg h]
  rfl
theorem qx2 {p:Pred}{v:Vec}{k:Nat}:∀j∈qef p v k,j<k:=fun j hj=>List.mem_range.1 (List.mem_filter.1 hj).1
theorem qjw (p:Pred)(v:Vec)(k:Nat):(qef p v k).length<=k:=by
 have:=List.length_filter_le (fun j=>q4s p (vAt v j)) (List.range k)
 rw[List.length_range]at this
 exact this
def fwd (p:Pred)(v:Vec)(n k:Nat):List Int:=qrg (zws n) (qef p v k)
theorem qww (p:Pred)(v:Vec)(n k:Nat):fwd p v n (k+1)=if q4s p (vAt v k)=true then setb (fwd p v n k) k else fwd p v n k:=by
 unfold fwd
 rw[qg3]
 by_cases h:q4s p (vAt v k)=true
 ·rw[if_pos h,if_pos h,qkw]
 ·rw[if_neg h,if_neg h,List.append_nil]
theorem qsu (p:Pred)(v:Vec)(n k:Nat):(fwd p v n k).length=wcn n:=by
 unfold fwd
 rw[qi9]
 simp[zws]
abbrev flR:List RK:=[RK.v (Ty.nm 4),RK.v (Ty.int .i64)]
abbrev flA:List PK:=[PK.v (Ty.int u8).sl,PK.v (Ty.int .i64),PK.v (Ty.int .i64),PK.v (Ty.nm 3)]
theorem qzs {p:Pred}{v:Vec}{N:Nat}(hN:N<=10000)(hv:okV v=true)(hn:v.nulls.length=N){x3:Int}{x6:List Int}:∀(d i m:Nat),N-i=d->i<=N->d<m->
  F23c8 m N i p x3 v N x6 (fwd p v N i)=some ((({n:=(N:Int),words:=fwd p v N N}:Bits),((0:Int),())),())
 |0,i,m,hd,hi,hm=>by
  obtain⟨m,rfl⟩:∃m',m=m'+1:=⟨m-1,by omega⟩
  rw[F23c8_eq,dF (by omega),cF,show i=N by omega]
 | d+1,i,m,hd,hi,hm=>by
  obtain⟨m,rfl⟩:∃m',m=m'+1:=⟨m-1,by omega⟩
  have ih:=qzs (p:=p) (x3:=x3) (x6:=x6) hN hv hn d (i+1) m (by omega) (by omega) (by omega)
  obtain⟨t1,t2,_,h4,_⟩:=q1r hv
  have hwl:=qsu p v N i
  have hdv:(i:Int).tdiv 64=((i/64:Nat):Int):=by rw[Int.tdiv_eq_ediv_of_nonneg (by omega)];omega
  have hmd:(i:Int).tmod 64=((i%64:Nat):Int):=by rw[Int.tmod_eq_emod_of_nonneg (by omega)];omega
  have hjw:i/64<wcn N:=by unfold wcn;omega
  have hk:(vAt v i).kind=1\/(vAt v i).kind=2\/(vAt v i).kind=3:=by rw[qpk];omega
  rw[qww]at ih
  rw[F23c8_eq,dT (by omega),cT,(qrp h4 (by omega)).2,oB]
  dsimp only
  rw[qx3 hk,oB]
  dsimp only
  cases hh:q4s p (vAt v i)with
  |false=>
   rw[hh,if_neg (by decide)]at ih
   rw[cF,q00 (z:=(i:Int)+1) (by omega) (by omega)]
   exact ih
  |true=>
   rw[hh,if_pos rfl]at ih
   rw[cT,hdv,hmd,q00 (z:=((i/64:Nat):Int)) (by omega) (by omega),q01 (z:=((i%64:Nat):Int)) (by omega) (by omega),if_pos (by omega),if_pos (by omega),if_pos (by omega),if_pos (by omega),if_pos (by omega),qu8 rfl,tN,q00 (z:=(i:Int)+1) (by omega) (by omega)]
   exact ih
theorem z18v {a c:Val}(h1:a.kind=c.kind)(h2:a.int=c.int)(h3:a.text=c.text):a=c:=by
 cases a with
 | mk k i t=>
  cases c with
  |mk k' i' t'=>
   dsimp only at h1 h2 h3
   subst h1
   subst h2
   subst h3
   rfl
theorem qj1 (H:List Nat)(i:Nat):cI (H++[i])=cI H++[(i:Int)]:=by simp[cI]
theorem qyt {p:Pred}{v:Vec}{N:Nat}(hN:N<=10000)(hv:okV v=true)(hn:v.nulls.length=N){cmp:Bool}(hcmp:cmp=(decide (1<=p.op)&&decide (p.op<=6)))(hop:cmp=true\/p.op=20\/p.op=21){x6:Int}{x10:List Int}:∀(d i m:Nat) (hit:Bool) (last:Val),N-i=d->i<=N->3*d<m->
  (cmp=true->0<i->last=vAt v (i-1)/\hit=tst p.op (vAt v (i-1)) p.value)->(cmp=false->hit=false)->
  F22c10 m N cmp hit N i p x6 v (cI (qef p v i)) last x10=some ((({n:=(N:Int),words:=fwd p v N N}:Bits),((0:Int),())),())
 |0,i,m,hit,last,hd,hi,hm,h1,h2=>by
  obtain⟨m,rfl⟩:∃m',m=m'+1:=⟨m-1,by omega⟩
  have:i=N:=by omega
  subst this
  rw[F22c10_eq,dF (by omega),cF,z16s (by omega) (H:=qef p v i) qx2 (by have:=qjw p v i;omega),oB]
  rfl
 | d +1,i,m,hit,last,hd,hi,hm,h1,h2=>by
  obtain⟨m,rfl⟩:∃m',m=m'+3:=⟨m-3,by omega⟩
  obtain⟨t1,t2,_,h4,_⟩:=q1r hv
  have hk:(vAt v i).kind=1\/(vAt v i).kind=2\/(vAt v i).kind=3:=by rw[qpk];omega
  have hhl:=qjw p v i
  have hcl:=qnk (qef p v i)
  -- behind the test
  have hnext:∀(hit':Bool) (last':Val),(hit'||decide (p.op=21))=q4s p (vAt v i)->(cmp=true->last'=vAt v i/\hit'=tst p.op (vAt v i) p.value)->(cmp=false->hit'=false)->
    F22c15 (m+2) N cmp hit' i N i p x6 v (cI (qef p v i)) last' x10=some ((({n:=(N:Int),words:=fwd p v N N}:Bits),((0:Int),())),()):=by
   intro hit' last' g1 g2 g3
   have ih:=qyt (x6:=x6) (x10:=x10) hN hv hn hcmp hop d (i+1) m hit' last' (by omega) (by omega) (by omega) (fun a _=>g2 a) g3
   have h17:∀L,F22c17 (m+1) N cmp hit' N i p x6 v L last' x10=F22c10 m N cmp hit' N ((i+1:Nat):Int) p x6 v L last' x10:=fun L=>by
    rw[F22c17_eq,q00 (z:=(i:Int)+1) (by omega) (by omega)]
    rfl
   rw[qg3,<-g1]at ih
   rw[F22c15_eq,h17,h17,if_pos (by rw[qnk];simp only[lim];omega)]
   cases hit' with
   |true=>
    rw[Bool.true_or,if_pos rfl,qj1]at ih
    rw[cT]
    exact ih
   | false=>
    rw[Bool.false_or]at ih
    rw[cF]
    by_cases h21:p.op=21
    ·rw[dT h21,if_pos rfl,qj1]at ih
     rw[dT h21,cT]
     exact ih
    ·rw[dF h21,if_neg (by decide),List.append_nil]at ih
     rw[dF h21,cF]
     exact ih
  rw[F22c10_eq,dT (by omega),cT,(qrp h4 (by omega)).1,oB]
  dsimp only
  cases hc:cmp with
  |false=>
   rw[hc]at hnext h2 hop hcmp
   rw[cF]
   refine hnext hit last ?_ (fun h=>by cases h) h2
   rw[h2 rfl,Bool.false_or]
   unfold q4s
   have ho:p.op=20\/p.op=21:=hop.resolve_left (by decide)
   by_cases h21:p.op=21
   ·rw[if_pos h21,dT h21]
   ·rw[if_neg h21,dF h21,if_pos (by omega)]
  | true=>
   rw[hc]at hnext h1 hcmp
   have hb:1<=p.op/\p.op<=6:=by
    have:=hcmp.symm
    simp only[Bool.and_eq_true,decide_eq_true_eq]at this
    exact this
   have hhold:q4s p (vAt v i)=tst p.op (vAt v i) p.value:=by
    unfold q4s
    rw[if_neg (by omega),if_neg (by omega)]
   have h21:decide (p.op=21)=false:=dF (by omega)
   obtain⟨r,r1,_,r3⟩:=ql5 (op:=p.op) (a:=vAt v i) (c:=p.value) hk
   have hgo:=hnext (tst p.op (vAt v i) p.value) (vAt v i) (by rw[h21,Bool.or_false,hhold]) (fun _=>⟨rfl,rfl⟩) (fun h=>by cases h)
   have hrun:((F44.run tsA tsR 4000000 (p.op,vAt v i,p.value,())).bind fun r2=>F22c15 (m+2) N true (decide (r2.fst.fst.kind=(1:Int))&&(decide (r2.fst.fst.int=(1:Int))&&(decide (r2.fst.fst.text=[])&&true))) i N i p x6 v (cI (qef p v i)) (vAt v i) x10)=some ((({n:=(N:Int),words:=fwd p v N N}:Bits),((0:Int),())),()):=by
    rw[r1,oB]
    dsimp only
    rw[show(decide (r.kind=(1:Int))&&(decide (r.int=(1:Int))&&(decide (r.text=[])&&true)))=isTr r from rfl,r3]
    exact hgo
   rw[cT]
   by_cases hi0:i=0
   ·rw[dT (show(i:Int)=0 by omega),cT]
    exact hrun
   ·rw[dF (show¬(i:Int)=0 by omega),cF]
    obtain⟨g1,g2⟩:=h1 rfl (by omega)
    by_cases hs:(vAt v i).kind=last.kind/\(vAt v i).int=last.int/\(vAt v i).text=last.text
    ·have he:vAt v i=last:=z18v hs.1 hs.2.1 hs.2.2
     rw[dT hs.1,dT hs.2.1,dT hs.2.2,show(!(true&&(true&&(true&&true))))=false from rfl,cF]
     rw[he,g1,<-g2,<-g1]at hgo
     exact hgo
    ·have hf:(decide ((vAt v i).kind=last.kind)&&(decide ((vAt v i).int=last.int)&&(decide ((vAt v i).text=last.text)&&true)))=false:=by
      rw[Bool.eq_false_iff]
      intro h
      simp only[Bool.and_eq_true,decide_eq_true_eq,and_true]at h
      exact hs h
     rw[hf,nF,cT]
     exact hrun
end Go.Proofs.Tryz
