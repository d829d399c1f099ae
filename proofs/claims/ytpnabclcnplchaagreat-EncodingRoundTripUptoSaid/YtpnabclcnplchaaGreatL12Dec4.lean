/- Law 10: 'DictionaryDecodes' returns true. -/
import Derived.Test.YtpnabclcnplchaaGreatL12Dec3
set_option linter.unusedVariables false
set_option linter.unusedSimpArgs false
namespace Go.Proofs.Tryz
open Go.Eng
open IntKind (i64 u64 u8)
abbrev rdR:List RK:=[RK.own 110 (Ty.nm 5),RK.v (Ty.int .i64),RK.v (Ty.int .i64)]
def qs9 {α:Type}(good:List α->Nat->Prop)(l:List α)(q e:Nat):Prop:=(e=0->good l q)/\(e≠0->l=[]/\q=0)
def vrg (l:List Run):Prop:=∀r∈l,-9223372036854775808<=r.value/\r.value<9223372036854775808
def qxk (b:List Int)(lo:Int)(l:List Run)(q:Nat):Prop:=okC l/\l.length<=65536/\q<=b.length/\qm1 l/\q0k l<=65536/\lo<=q/\vrg l
section steps
variable {b:List Int} {x q e y p f at_ total cnt i k:Nat} {last:Int} {out:List Run}
theorem ne0 {e:Nat}(he:e≠0):(!decide ((e:Int)=0))=true:=by rw[dF (by omega)];rfl
theorem eq0:(!decide (((0:Nat):Int)=0))=false:=rfl
theorem qed (he:e≠0):F122c24 (k+1) (q:Int) (e:Int) out=some (([],((0:Int),((e:Int),()))),()):=by
 rw[F122c24_eq,ne0 he,cT]
theorem z15u (hi:i<cnt)(r1:F121.run q99 qcq 4000000 (b,(at_:Int),())=some (((x:Int),((q:Int),((e:Int),()))),()))(he:e≠0):
  F122c9 (k+2) b at_ 0 last total cnt i out=some (([],((0:Int),((e:Int),()))),()):=by
 rw[F122c9_eq,dT (by omega),cT,r1,oB,ne0 he,cT]
 exact qed he
theorem z12e (hi:i<cnt)(r1:F121.run q99 qcq 4000000 (b,(at_:Int),())=some (((x:Int),((q:Int),(((0:Nat):Int),()))),()))(hx:x=0)(hi0:0<i):
  F122c9 (k+2) b at_ 0 last total cnt i out=some (([],((0:Int),(((4:Nat):Int),()))),()):=by
 rw[F122c9_eq,dT (by omega),cT,r1,oB,eq0,cF]
 dsimp only
 rw[dT (show(x:Int)=0 by omega),cT,dT (show(0:Int)<(i:Int) by omega),cT]
 exact qed (e:=4) (by decide)
theorem z15v (hi:i<cnt)(r1:F121.run q99 qcq 4000000 (b,(at_:Int),())=some (((x:Int),((q:Int),(((0:Nat):Int),()))),()))(hx:¬(x=0/\0<i)):
  F122c9 (k+1) b at_ 0 last total cnt i out=F122c16 k b q last total x cnt i out:=by
 rw[F122c9_eq,dT (by omega),cT,r1,oB,eq0,cF]
 dsimp only
 by_cases h:x=0
 ·rw[dT (show(x:Int)=0 by omega),cT,dF (by omega),cF]
 ·rw[dF (show¬(x:Int)=0 by omega),cF]
theorem z12c (s1:F121.run q99 qcq 4000000 (b,(q:Int),())=some (((y:Int),((p:Int),((f:Int),()))),()))(hf:f≠0):
  F122c16 (k+2) b q last total x cnt i out=some (([],((0:Int),((f:Int),()))),()):=by
 rw[F122c16_eq,s1,oB,ne0 hf,cT]
 exact qed hf
theorem z12d (ht:total<=65536)(s1:F121.run q99 qcq 4000000 (b,(q:Int),())=some (((y:Int),((p:Int),(((0:Nat):Int),()))),()))(hy:y=0\/65536-total<y):
  F122c16 (k+2) b q last total x cnt i out=some (([],((0:Int),(((6:Nat):Int),()))),()):=by
 rw[F122c16_eq,s1,oB,eq0,cF]
 dsimp only
 by_cases h:y=0
 ·rw[dT (show(y:Int)<1 by omega),cT]
  exact qed (e:=6) (by decide)
 ·rw[dF (show¬(y:Int)<1 by omega),cF,q01 (z:=(65536:Int)-(total:Int)) (by omega) (by omega),dT (show(65536:Int)-(total:Int)<(y:Int) by omega),cT]
  exact qed (e:=6) (by decide)
theorem qzx {z:Int}(ht:total<=65536)(hi:i<=65536)(ho:out.length<=70000)(s1:F121.run q99 qcq 4000000 (b,(q:Int),())=some (((y:Int),((p:Int),(((0:Nat):Int),()))),()))(hy:¬(y=0\/65536-total<y))
  (z1:F125.run Pka Rk6 4000000 ((x:Int),())=some ((z,()),())):
  F122c16 (k+2) b q last total x cnt i out=F122c9 k b p 0 (i64.wrap (last+z)) ((total+y:Nat):Int) cnt ((i+1:Nat):Int) (out++[{value:=i64.wrap (last+z),count:=(y:Int)}]):=by
 rw[F122c16_eq,s1,oB,eq0,cF]
 dsimp only
 rw[dF (show¬(y:Int)<1 by omega),cF,q01 (z:=(65536:Int)-(total:Int)) (by omega) (by omega),dF (show¬(65536:Int)-(total:Int)<(y:Int) by omega),cF,F122c20_eq,z1,oB]
 dsimp only
 rw[if_pos (show out.length+1<=lim by simp only[lim];omega),q01 (z:=(total:Int)+(y:Int)) (by omega) (by omega),q00 (z:=(y:Int)) (by omega) (by omega),q00 (z:=(i:Int)+1) (by omega) (by omega)]
 rfl
theorem z12j (hc:cnt<=65536)(hi:i<cnt){left:Int}(r2:F132.run q99 qcq 4000000 (b,(at_:Int),())=some (((x:Int),((q:Int),((e:Int),()))),()))(he:e≠0):
  F82c10 (k+1) b cnt at_ last left i out=some (([],((0:Int),((e:Int),()))),()):=by
 rw[F82c10_eq,q00 (z:=(cnt:Int)) (by omega) (by omega),dT (by omega),cT,r2,oB,ne0 he,cT]
theorem qy5 (hc:cnt<=65536)(hi:i<cnt){left:Int}(r2:F132.run q99 qcq 4000000 (b,(at_:Int),())=some (((x:Int),((q:Int),(((0:Nat):Int),()))),()))(hx:x=0)(hi0:0<i):
  F82c10 (k+1) b cnt at_ last left i out=some (([],((0:Int),(((4:Nat):Int),()))),()):=by
 rw[F82c10_eq,q00 (z:=(cnt:Int)) (by omega) (by omega),dT (by omega),cT,r2,oB,eq0,cF]
 dsimp only
 rw[dT (show(x:Int)=0 by omega),cT,dT (show(0:Int)<(i:Int) by omega),cT]
 rfl
theorem z15x (hc:cnt<=65536)(hi:i<cnt){left:Int}(r2:F132.run q99 qcq 4000000 (b,(at_:Int),())=some (((x:Int),((q:Int),(((0:Nat):Int),()))),()))(hx:¬(x=0/\0<i)):
  F82c10 (k+1) b cnt at_ last left i out=F82c17 k b cnt last left i x q out:=by
 rw[F82c10_eq,q00 (z:=(cnt:Int)) (by omega) (by omega),dT (by omega),cT,r2,oB,eq0,cF]
 dsimp only
 by_cases h:x=0
 ·rw[dT (show(x:Int)=0 by omega),cT,dF (by omega),cF]
 ·rw[dF (show¬(x:Int)=0 by omega),cF]
theorem z12k {left:Int}(s2:F132.run q99 qcq 4000000 (b,(q:Int),())=some (((y:Int),((p:Int),((f:Int),()))),()))(hf:f≠0):
  F82c17 (k+1) b cnt last left i x q out=some (([],((0:Int),((f:Int),()))),()):=by
 rw[F82c17_eq,s2,oB,ne0 hf,cT]
theorem z12l (s2:F132.run q99 qcq 4000000 (b,(q:Int),())=some (((y:Int),((p:Int),(((0:Nat):Int),()))),()))(hy:y=0\/65536-total<y):
  F82c17 (k+1) b cnt last ((65536-total:Nat):Int) i x q out=some (([],((0:Int),(((6:Nat):Int),()))),()):=by
 rw[F82c17_eq,s2,oB,eq0,cF]
 dsimp only
 by_cases h:y=0
 ·rw[dT (show(y:Int)=0 by omega),cT]
  rfl
 ·rw[dF (show¬(y:Int)=0 by omega),cF,dT (show((65536-total:Nat):Int)<(y:Int) by omega),cT]
  rfl
theorem z15y {z:Int}(ht:total<=65536)(hi:i<=65536)(ho:out.length<=70000)(s2:F132.run q99 qcq 4000000 (b,(q:Int),())=some (((y:Int),((p:Int),(((0:Nat):Int),()))),()))(hy:¬(y=0\/65536-total<y))
  (z2:F141.run Pka Rk6 4000000 ((x:Int),())=some ((z,()),())):
  F82c17 (k+2) b cnt last ((65536-total:Nat):Int) i x q out=F82c10 k b cnt p (i64.wrap (last+z)) ((65536-(total+y):Nat):Int) ((i+1:Nat):Int) (out++[{value:=i64.wrap (last+z),count:=(y:Int)}]):=by
 rw[F82c17_eq,s2,oB,eq0,cF]
 dsimp only
 rw[dF (show¬(y:Int)=0 by omega),cF,dF (show¬((65536-total:Nat):Int)<(y:Int) by omega),cF,F82c22_eq,z2,oB]
 dsimp only
 rw[if_pos (show out.length+1<=lim by simp only[lim];omega),q01 (z:=((65536-total:Nat):Int)-(y:Int)) (by omega) (by omega),q00 (z:=(y:Int)) (by omega) (by omega),q00 (z:=(i:Int)+1) (by omega) (by omega),show((65536-total:Nat):Int)-(y:Int)=((65536-(total+y):Nat):Int) by omega]
 rfl
end steps
theorem qjk {out:List Run}{v c:Int}(h:qm1 out)(hv:0<out.length->v≠(out.getD (out.length-1) q0x).value):qm1 (out++[{value:=v,count:=c}]):=by
 intro j h0 hj
 rw[lA,List.length_singleton]at hj
 rw[q4h,q4h]
 by_cases hl:j<out.length
 ·rw[if_pos hl,if_pos (by omega)]
  exact h j h0 hl
 ·have:j=out.length:=by omega
  subst this
  rw[if_neg (by omega),if_pos rfl,if_pos (by omega)]
  exact hv h0
theorem q71:∀(out:List Run) (r:Run),q0k (out++[r])=q0k out+r.count
 |[],r=>by simp[q0k]
 |x::out,r=>by rw[List.cons_append,q0k,q0k,q71 out r];omega
theorem z13g {last z:Int}(h1:-9223372036854775808<=last)(h2:last<9223372036854775808)(h3:-9223372036854775808<=z)(h4:z<9223372036854775808)(h0:z≠0):i64.wrap (last+z)≠last:=by
 rw[IntKind.wrap_i64]
 omega
theorem qcn (z:Int):-9223372036854775808<=i64.wrap z/\i64.wrap z<9223372036854775808:=by
 rw[IntKind.wrap_i64]
 omega
theorem ql6 {b:List Int}(hb:okB b)(hl:b.length<=4000000000){cnt:Nat}(hcnt:cnt<=65536){lo:Int}:∀(d i n m:Nat) (at_ total:Nat) (last:Int) (out:List Run),cnt-i=d->i<=cnt->3*d+3<n->3*d+3<m->total<=65536->at_<=b.length->okC out->out.length=i->qm1 out->q0k out=total->(-9223372036854775808<=last/\last<9223372036854775808)->(0<out.length->last=(out.getD (out.length-1) q0x).value)->lo<=at_->vrg out->
  ∃(l:List Run) (q e:Nat),F122c9 n b at_ 0 last total cnt i out=some ((l,((q:Int),((e:Int),()))),())/\F82c10 m b cnt at_ last ((65536-total:Nat):Int) i out=some ((l,((q:Int),((e:Int),()))),())/\qs9 (qxk b lo) l q e
 | 0,i,n,m,at_,total,last,out,hd,hi,hn,hm,ht,ha,ho,hol,hdist,hsum,hlr,hlast,hlo,hvr=>by
  obtain⟨n,rfl⟩:∃n',n=n'+2:=⟨n-2,by omega⟩
  obtain⟨m,rfl⟩:∃m',m=m'+1:=⟨m-1,by omega⟩
  refine⟨out,at_,0,?_,?_,fun _=>⟨ho,by omega,ha,hdist,by omega,hlo,hvr⟩,fun h=>absurd rfl h⟩
  ·rw[F122c9_eq,dF (by omega),cF,F122c24_eq]
   rfl
  ·rw[F82c10_eq,q00 (z:=(cnt:Int)) (by omega) (by omega),dF (by omega),cF]
   rfl
 | d + 1,i,n,m,at_,total,last,out,hd,hi,hn,hm,ht,ha,ho,hol,hdist,hsum,hlr,hlast,hlo,hvr=>by
  obtain⟨n,rfl⟩:∃n',n=n'+3:=⟨n-3,by omega⟩
  obtain⟨m,rfl⟩:∃m',m=m'+3:=⟨m-3,by omega⟩
  obtain⟨x,q,e,r1,r2,r3,r4⟩:=q38 hb hl (at_:Int)
  have bad:∀e:Nat,e≠0->qs9 (qxk b lo) [] 0 e:=fun e he=>⟨fun h=>absurd h he,fun _=>⟨rfl,rfl⟩⟩
  have hilt:i<cnt:=by omega
  by_cases he:e=0
  ·subst he
   obtain⟨q1,q2,q3⟩:=r3 rfl
   by_cases hx:x=0/\0<i
   ·exact⟨[],0,4,z12e (k:=n+1) hilt r1 hx.1 hx.2,qy5 (k:=m+2) hcnt hilt r2 hx.1 hx.2,bad 4 (by decide)⟩
   ·obtain⟨y,p,f,s1,s2,s3,s4⟩:=q38 hb hl (q:Int)
    rw[z15v (k:=n+2) hilt r1 hx,z15x (k:=m+2) hcnt hilt r2 hx]
    by_cases hf:f=0
    ·subst hf
     obtain⟨p1,p2,p3⟩:=s3 rfl
     by_cases hy:y=0\/65536-total<y
     ·exact⟨[],0,6,z12d ht s1 hy,z12l (k:=m+1) s2 hy,bad 6 (by decide)⟩
     ·obtain⟨z,⟨zl,zr⟩,z1,z2,zv⟩:=q97 q3
      rw[qzx ht (by omega) (by omega) s1 hy z1,z15y ht (by omega) (by omega) s2 hy z2]
      exact ql6 (lo:=lo) hb hl hcnt d (i+1) n m p (total+y) (i64.wrap (last+z)) (out++[{value:=i64.wrap (last+z),count:=(y:Int)}]) (by omega) (by omega) (by omega) (by omega) (by omega) p2 (by
        intro r hr
        rcases mA.1 hr with hr|hr
        ·exact ho r hr
        ·rw[List.mem_singleton]at hr
         subst hr
         exact⟨by show(1:Int)<=(y:Int);omega,by show(y:Int)<=65536;omega⟩) (by rw[lA,List.length_singleton];omega)
       (qjk hdist (fun h0=>by
        rw[<-hlast h0]
        refine z13g hlr.1 hlr.2 zl zr ?_
        rw[zv]
        by_cases h2:x%2=0
        ·rw[if_pos h2];omega
        ·rw[if_neg h2];omega))
       (by rw[q71,hsum];show(total:Int)+(y:Int)=_;omega) (qcn _)
       (fun _=>by rw[lA,List.length_singleton,Nat.add_sub_cancel,q4h,if_neg (by omega),if_pos rfl]) (by omega) (by
        intro r hr
        rcases mA.1 hr with hr|hr
        ·exact hvr r hr
        ·rw[List.mem_singleton]at hr
         subst hr
         exact qcn _)
    ·exact⟨[],0,f,z12c s1 hf,z12k (k:=m+1) s2 hf,bad f hf⟩
  ·exact⟨[],0,e,z15u (k:=n+1) hilt r1 he,z12j (k:=m+2) hcnt hilt r2 he,bad e he⟩
theorem qpe {b:List Int}(hb:okB b)(hl:b.length<=4000000000)(at_:Int):
  ∃(l:List Run) (q e:Nat),F122.run q99 rdR 4000000 (b,at_,())=some ((l,((q:Int),((e:Int),()))),())/\F82.run q99 rdR 4000000 (b,at_,())=some ((l,((q:Int),((e:Int),()))),())/\qs9 (qxk b at_) l q e:=by
 rw[show F122.run q99 rdR 4000000 (b,at_,())=_ from F122_run _ _ _,show F82.run q99 rdR 4000000 (b,at_,())=_ from F82_run _ _ _]
 rw[show F122c1 4000000 b at_=_ from F122c1_eq 3999999 _ _,show F82c1 4000000 b at_=_ from F82c1_eq 3999999 _ _]
 obtain⟨x,q,e,r1,r2,r3,r4⟩:=q38 hb hl at_
 have bad:∀e:Nat,e≠0->qs9 (qxk b at_) [] 0 e:=fun e he=>⟨fun h=>absurd h he,fun _=>⟨rfl,rfl⟩⟩
 rw[r1,r2]
 simp only[oB]
 by_cases he:e=0
 ·subst he
  obtain⟨q1,q2,q3⟩:=r3 rfl
  rw[eq0,cF,cF]
  by_cases hx:65536<x
  ·rw[dT (by omega),cT,cT]
   exact⟨[],0,6,rfl,rfl,bad 6 (by decide)⟩
  ·rw[dF (by omega),cF,cF,q00 (z:=(x:Int)) (by omega) (by omega)]
   exact ql6 hb hl (cnt:=x) (by omega) x 0 3999999 3999999 q 0 0 [] (by omega) (by omega) (by omega) (by omega) (by omega) q2 (fun r hr=>by cases hr) (by simp) (fun j h0 hj=>by simp at hj) rfl ⟨by omega,by omega⟩ (fun h=>by simp at h) (by omega) (fun r hr=>by cases hr)
 ·rw[ne0 he,cT,cT]
  exact⟨[],0,e,rfl,rfl,bad e he⟩
/-! Words. -/
def qu1 (b:List Int)(cnt:Nat)(lo:Int)(W:List (List Int))(q:Nat):Prop:=W.length<=cnt/\(∀w∈W,w.length<=4096)/\q<=b.length/\lo<=q
def qbk (b:List Int)(q x:Nat):List Int:=List.map Eng.q0n (List.drop q (List.take (q+x) b))
theorem qrw {b:List Int}{q x:Nat}:(qbk b q x).length<=x:=by
 simp only[qbk,List.length_map,lD,lT]
 omega
abbrev wdR:List RK:=[RK.own 9 Ty.str,RK.v (Ty.int .i64),RK.v (Ty.int .i64)]
abbrev wdA:List PK:=[PK.v (Ty.int u8).sl,PK.v (Ty.int .i64),PK.v (Ty.int .i64)]
theorem qhi {b:List Int}(hb:okB b)(hl:b.length<=4000000000){cnt:Nat}(hcnt:cnt<=65536){lo:Int}:∀(d i n m:Nat) (at_:Nat) (W:List (List Int)),cnt-i=d->i<=cnt->2*d<n->2*d<m->at_<=b.length->W.length=i->(∀w∈W,w.length<=4096)->lo<=at_->
  ∃(l:List (List Int)) (q e:Nat),F127c8 n b at_ cnt i W=some ((l,((q:Int),((e:Int),()))),())/\F133c8 m b cnt at_ i W=some ((l,((q:Int),((e:Int),()))),())/\qs9 (qu1 b cnt lo) l q e
 | 0,i,n,m,at_,W,hd,hi,hn,hm,ha,hWl,hW,hlo=>by
  obtain⟨n,rfl⟩:∃n',n=n'+1:=⟨n-1,by omega⟩
  obtain⟨m,rfl⟩:∃m',m=m'+1:=⟨m-1,by omega⟩
  refine⟨W,at_,0,?_,?_,fun _=>⟨by omega,hW,ha,hlo⟩,fun h=>absurd rfl h⟩
  ·rw[F127c8_eq,dF (by omega),cF]
   rfl
  ·rw[F133c8_eq,q00 (z:=(cnt:Int)) (by omega) (by omega),dF (by omega),cF]
   rfl
 | d + 1,i,n,m,at_,W,hd,hi,hn,hm,ha,hWl,hW,hlo=>by
  obtain⟨n,rfl⟩:∃n',n=n'+2:=⟨n-2,by omega⟩
  obtain⟨m,rfl⟩:∃m',m=m'+2:=⟨m-2,by omega⟩
  obtain⟨x,q,e,r1,r2,r3,r4⟩:=q38 hb hl (at_:Int)
  have bad:∀e:Nat,e≠0->qs9 (qu1 b cnt lo) [] 0 e:=fun e he=>⟨fun h=>absurd h he,fun _=>⟨rfl,rfl⟩⟩
  have h1:=F127c8_eq (n+1) b at_ cnt i W
  have h2:=F133c8_eq (m+1) b cnt at_ i W
  rw[dT (show(i:Int)<(cnt:Int) by omega),cT,r1,oB]at h1
  rw[q00 (z:=(cnt:Int)) (by omega) (by omega),dT (show(i:Int)<(cnt:Int) by omega),cT,r2,oB]at h2
  dsimp only at h1 h2
  by_cases he:e=0
  ·subst he
   obtain⟨q1,q2,q3⟩:=r3 rfl
   rw[eq0,cF]at h1 h2
   by_cases hx:4096<x
   ·rw[dT (show(4096:Int)<(x:Int) by omega),cT]at h1 h2
    exact⟨[],0,3,h1,h2,bad 3 (by decide)⟩
   ·rw [dF (show¬(4096:Int)<(x:Int) by omega),cF,q00 (z:=(b.length:Int)-(q:Int)) (by omega) (by omega),q00 (z:=(x:Int)) (by omega) (by omega)]at h1 h2
    by_cases hs:b.length-q<x
    ·rw[dT (show(b.length:Int)-(q:Int)<(x:Int) by omega),cT]at h1 h2
     exact⟨[],0,2,h1,h2,bad 2 (by decide)⟩
    ·rw [dF (show¬(b.length:Int)-(q:Int)<(x:Int) by omega),cF,q00 (z:=(q:Int)+(x:Int)) (by omega) (by omega),if_pos (show(0:Int)<=(q:Int) by omega),if_pos (show(q:Int)<=(q:Int)+(x:Int) by omega),if_pos (show(q:Int)+(x:Int)<=(b.length:Int) by omega)]at h1 h2
     have hwd:List.map Eng.q0n (List.drop (Int.toNat (q:Int)) (List.take ((q:Int)+(x:Int)).toNat b))=qbk b q x:=by
      rw[tN,show((q:Int)+(x:Int)).toNat=q+x by omega]
      rfl
     rw[hwd]at h1 h2
     have next:∃(l:List (List Int)) (q' e':Nat),F127c21 (n+1) b ((q:Int)+(x:Int)) (qbk b q x) cnt i W=some ((l,((q':Int),((e':Int),()))),())/\F133c20 (m+1) b cnt i x q (qbk b q x) W=some ((l,((q':Int),((e':Int),()))),())/\qs9 (qu1 b cnt lo) l q' e':=by
      rw[F127c21_eq,if_pos (show W.length+1<=lim by simp only[lim];omega),F133c20_eq,if_pos (show W.length+1<=lim by simp only[lim];omega),q00 (z:=(i:Int)+1) (by omega) (by omega),q00 (z:=(x:Int)) (by omega) (by omega),q00 (z:=(q:Int)+(x:Int)) (by omega) (by omega),show(q:Int)+(x:Int)=((q+x:Nat):Int) by omega,show(i:Int)+1=((i+1:Nat):Int) by omega]
      exact qhi (lo:=lo) hb hl hcnt d (i+1) n m (q+x) (W++[qbk b q x]) (by omega) (by omega) (by omega) (by omega) (by omega) (by rw[lA,List.length_singleton,hWl]) (by
       intro w hw
       rcases mA.1 hw with hw|hw
       ·exact hW w hw
       ·rw[List.mem_singleton]at hw
        subst hw
        exact Nat.le_trans qrw (by omega)) (by omega)
     by_cases hi0:0<i
     ·have hwi:i64.wrap ((i:Int)-1)=((i-1:Nat):Int):=by rw[q00 (by omega) (by omega)];omega
      rw[dT (show(0:Int)<(i:Int) by omega),cT,hwi,if_pos (show(0:Int)<=((i-1:Nat):Int) by omega),if_pos (show((i-1:Nat):Int)<(W.length:Int) by omega)]at h1 h2
      cases hc:Eng.q0s (W.getD (((i-1:Nat):Int)).toNat []) (qbk b q x)with
      |true=>
       rw[hc,nT,cF]at h1 h2
       rw[h1,h2]
       exact next
      |false=>
       rw[hc,nF,cT]at h1 h2
       exact⟨[],0,4,h1,h2,bad 4 (by decide)⟩
     ·rw[dF (show¬(0:Int)<(i:Int) by omega),cF]at h1 h2
      rw[h1,h2]
      exact next
  ·rw[ne0 he,cT]at h1 h2
   exact⟨[],0,e,h1,h2,bad e he⟩
theorem qrm {b:List Int}(hb:okB b)(hl:b.length<=4000000000)(at_:Int){N:Nat}(hN:N<=65536):
  ∃(l:List (List Int)) (q e:Nat),F127.run wdA wdR 4000000 (b,at_,(N:Int),())=some ((l,((q:Int),((e:Int),()))),())/\F133.run wdA wdR 4000000 (b,at_,(N:Int),())=some ((l,((q:Int),((e:Int),()))),())/\qs9 (qu1 b N at_) l q e:=by
 rw[show F127.run wdA wdR 4000000 (b,at_,(N:Int),())=_ from F127_run _ _ _ _,show F133.run wdA wdR 4000000 (b,at_,(N:Int),())=_ from F133_run _ _ _ _]
 rw[show F127c1 4000000 b at_ N=_ from F127c1_eq 3999999 _ _ _,show F133c1 4000000 b at_ N=_ from F133c1_eq 3999999 _ _ _]
 obtain⟨x,q,e,r1,r2,r3,r4⟩:=q38 hb hl at_
 have bad:∀e:Nat,e≠0->qs9 (qu1 b N at_) [] 0 e:=fun e he=>⟨fun h=>absurd h he,fun _=>⟨rfl,rfl⟩⟩
 rw[r1,r2,q01 (z:=(N:Int)) (by omega) (by omega)]
 simp only[oB]
 by_cases he:e=0
 ·subst he
  obtain⟨q1,q2,q3⟩:=r3 rfl
  rw[eq0,cF,cF]
  by_cases hx:N<x
  ·rw[dT (show(N:Int)<(x:Int) by omega),cT,cT]
   exact⟨[],0,6,rfl,rfl,bad 6 (by decide)⟩
  ·rw[dF (show¬(N:Int)<(x:Int) by omega),cF,cF,q00 (z:=(x:Int)) (by omega) (by omega)]
   obtain⟨l,q',e',g1,g2,g3⟩:=qhi hb hl (cnt:=x) (by omega) x 0 3999999 3999999 q [] (by omega) (by omega) (by omega) (by omega) q2 rfl (fun w hw=>by cases hw) (lo:=at_) (by omega)
   exact⟨l,q',e',g1,g2,fun h=>⟨Nat.le_trans (g3.1 h).1 (by omega),(g3.1 h).2⟩,g3.2⟩
 ·rw[ne0 he,cT,cT]
  exact⟨[],0,e,rfl,rfl,bad e he⟩
/-! Codes. -/
theorem quq {b:List Int}(h:∀x∈b,0<=x/\x<256):okB b:=by
 intro i hi
 have:=h (b[i]) (gM hi)
 refine⟨b[i].toNat,?_,by omega⟩
 rw[gQ,gE hi]
 show b[i]=_
 omega
def slice (b:List Int)(p q:Nat):List Int:=List.drop p (List.take q b)
theorem qbb {b:List Int}(hb:okB b)(p q:Nat):okB (slice b p q):=quq fun x hx=>qca hb x (List.mem_of_mem_take (List.mem_of_mem_drop hx))
theorem q1p {b:List Int}{p q:Nat}(hq:q<=b.length):(slice b p q).length=q-p:=by
 simp only[slice,lD,lT]
 omega
def qxj (b:List Int)(N:Nat)(lo:Int)(l:List Int)(q:Nat):Prop:=okU l/\l.length=N/\q<=b.length/\lo<=q
abbrev cdR:List RK:=[RK.own 83 (Ty.int u64),RK.v (Ty.int .i64),RK.v (Ty.int .i64)]
theorem z139 {b:List Int}{w N:Nat}(hw:w<=64):okU (unp b w N):=by
 intro i hi
 rw[q6f]at hi
 refine⟨q2g b/2^(i*w)%2^w,?_,?_⟩
 ·rw[unp,gQ,List.getElem?_map,List.getElem?_range hi];rfl
 ·exact Nat.lt_of_lt_of_le (Nat.mod_lt _ (Nat.two_pow_pos w)) (Nat.pow_le_pow_right (n:=2) (j:=64) (by decide) hw)
theorem qjc {x:List Int}{q:Int}(hl:x.length<=100000):∀(n m i:Nat),x.length-i<n->x.length-i<m->i<=x.length->
  F129c11 n q (x.length:Int) i ((x.take i).map u64.wrap) x=some ((x.map u64.wrap,(q,((0:Int),()))),())/\F134c19 m q i x ((x.take i).map u64.wrap)=some ((x.map u64.wrap,(q,((0:Int),()))),())
 |0,m,i,h,_,_=>by omega
 |n+1,0,i,_,h,_=>by omega
 | n+1,m+1,i,h,h',hi=>by
  rw[F129c11_eq,F134c19_eq]
  by_cases hlt:i<x.length
  ·obtain⟨i1,i2⟩:=qjc (q:=q) hl n m (i+1) (by omega) (by omega) (by omega)
   rw[List.take_succ_eq_append_getElem hlt,List.map_append]at i1 i2
   rw[dT (show(i:Int)<(x.length:Int) by omega),cT,cT,if_pos (show(0:Int)<=(i:Int) by omega),if_pos (show(i:Int)<(x.length:Int) by omega),if_pos (show((x.take i).map u64.wrap).length+1<=lim by simp only[List.length_map,lT,lim];omega),
    if_pos (show(0:Int)<=(i:Int) by omega),if_pos (show(i:Int)<(x.length:Int) by omega),if_pos (show((x.take i).map u64.wrap).length+1<=lim by simp only[List.length_map,lT,lim];omega),q00 (z:=(i:Int)+1) (by omega) (by omega),tN,gQ,gE hlt]
   exact⟨i1,i2⟩
  ·have:i=x.length:=by omega
   subst this
   rw[dF (show¬(x.length:Int)<(x.length:Int) by omega),cF,cF,List.take_length]
   exact⟨rfl,rfl⟩
theorem qwa (x:List Int):okU (x.map u64.wrap):=by
 intro i hi
 rw[List.length_map]at hi
 have hw:0<=u64.wrap x[i]/\u64.wrap x[i]<18446744073709551616:=by
  simp only[IntKind.wrap,IntKind.bits,IntKind.signed]
  simp
  omega
 refine⟨(u64.wrap x[i]).toNat,?_,by omega⟩
 rw[gQ,List.getElem?_map,gE hi]
 show u64.wrap x[i]=_
 omega
abbrev ckA:List PK:=[PK.v (Ty.int u8).sl,PK.v (Ty.int .i64),PK.v (Ty.int .i64),PK.v (Ty.int .i64)]
theorem qc6 {b:List Int}(hl:b.length<=100000000){at_ N K:Nat}(ha:at_<b.length){c:Nat}(hc:b.getD at_ 0=(c:Int))(n:Nat){R:Option (HRes NN.ρ cdR×HOut NN.ρ ckA)}
  (hbig:1<c->R=some (([],((0:Int),((4:Int),()))),()))
  (h0:c=0->∃r0:Int,F116.run Pky Rk6 4000000 ((K:Int),())=some ((r0,()),())/\∃r1:Int,F136.run Pk9 Rk6 4000000 ((N:Int),r0,())=some ((r1,()),())/\
   ((b.length:Int)-((at_+1:Nat):Int)<r1->R=some (([],((0:Int),((2:Int),()))),()))/\(¬(b.length:Int)-((at_+1:Nat):Int)<r1->0<=r1/\∃(l:List Int) (e:Int),F137.run upA upR 4000000 (List.drop (at_+1) (List.take (((at_+1:Nat):Int)+r1).toNat b),(N:Int),r0,())=some ((l,(e,())),())/\R=some ((l,(((at_+1:Nat):Int)+r1,(e,()))),())))
  (h1:c=1->∃(l:List Run) (q e:Int),F82.run q99 rdR 4000000 (b,((at_+1:Nat):Int),())=some ((l,(q,(e,()))),())/\(e≠0->R=some (([],((0:Int),(e,()))),()))/\(e=0->∃(x:List Int) (f:Int),F84.run exA exR 4000000 (l,())=some ((x,(f,())),())/\
   ((x.length:Int)≠(N:Int)->R=some (([],((0:Int),((18:Int),()))),()))/\((x.length:Int)=(N:Int)->F134c19 n q (0:Int) x []=R))):
  F134c1 (n+1) b (at_:Int) N K=R:=by
 have h2:=F134c1_eq n b (at_:Int) N K
 have hg:b.getD ((at_:Int)).toNat 0=(c:Int):=by rw[tN];exact hc
 have hw1:i64.wrap ((at_:Int)+1)=((at_+1:Nat):Int):=by rw[q00 (by omega) (by omega)];omega
 have hw2:i64.wrap (i64.wrap ((b.length:Int)-(at_:Int))-1)=(b.length:Int)-((at_+1:Nat):Int):=by
  rw[q00 (z:=(b.length:Int)-(at_:Int)) (by omega) (by omega),q00 (by omega) (by omega)];omega
 generalize b.getD ((at_:Int)).toNat 0=c' at hg h2
 subst hg
 rw[hw1,hw2,dF (show¬(at_:Int)=(b.length:Int) by omega),cF,if_pos (show(0:Int)<=(at_:Int) by omega),if_pos (show(at_:Int)<(b.length:Int) by omega),if_pos (show(0:Int)<=(at_:Int) by omega),if_pos (show(at_:Int)<(b.length:Int) by omega)]at h2
 rw[h2]
 clear h2
 by_cases hc1:1<c
 ·rw[dT (show(1:Int)<(c:Int) by omega),cT,hbig hc1]
 ·rw [dF (show¬(1:Int)<(c:Int) by omega),cF]
  by_cases hc0:c=0
  ·obtain⟨r0,e0,r1,e1,a1,a2⟩:=h0 hc0
   rw[dT (show(c:Int)=0 by omega),cT,e0,oB]
   dsimp only
   rw[e1,oB]
   dsimp only
   by_cases hs:(b.length:Int)-((at_+1:Nat):Int)<r1
   ·rw[dT hs,cT,a1 hs]
   ·obtain⟨b1,l,e,b2,b3⟩:=a2 hs
    rw[dF hs,cF,q00 (z:=((at_+1:Nat):Int)+r1) (by omega) (by omega),if_pos (show(0:Int)<=((at_+1:Nat):Int) by omega),if_pos (show((at_+1:Nat):Int)<=((at_+1:Nat):Int)+r1 by omega),if_pos (show((at_+1:Nat):Int)+r1<=(b.length:Int) by omega),oB,tN,b2,b3]
    rfl
  ·obtain⟨l,q,e,e1,a1,a2⟩:=h1 (by omega)
   rw[dF (show¬(c:Int)=0 by omega),cF,e1]
   erw [oB]
   dsimp only
   by_cases he:e=0
   ·obtain⟨x,f,x1,x2,x3⟩:=a2 he
    rw[dT he,nT,cF,x1]
    erw [oB]
    dsimp only
    by_cases hx:(x.length:Int)=(N:Int)
    ·rw[dT hx,nT,cF]
     exact x3 hx
    ·rw[dF hx,nF,cT,x2 hx]
   ·rw[dF he,nF,cT,a1 he]
theorem qnd {b:List Int}(hb:okB b)(hl:b.length<=100000000){at_ N K:Nat}(hN:N<=65536)(hK:K<=65536)(ha:at_<b.length)(h0:b.getD at_ 0=0):
  ∃(l:List Int) (q e:Nat) (q0:Int),F128.run ckA cdR 4000000 (b,((at_+1:Nat):Int),(N:Int),(K:Int),())=some ((l,(q0,((e:Int),()))),())/\
   F134.run ckA cdR 4000000 (b,(at_:Int),(N:Int),(K:Int),())=some ((l,(q0,((e:Int),()))),())/\(e=0->q0=(q:Int)/\qxj b N at_ l q):=by
 have hcw:=qsr (x:=K) (by omega)
 have hNw:N*cw K<=65536*64:=Nat.mul_le_mul hN (by omega)
 have hps:q04 N (cw K)<=600000:=by unfold q04;omega
 rw[show F128.run ckA cdR 4000000 (b,((at_+1:Nat):Int),(N:Int),(K:Int),())=_ from F128_run _ _ _ _ _,show F134.run ckA cdR 4000000 (b,(at_:Int),(N:Int),(K:Int),())=_ from F134_run _ _ _ _ _]
 have h1:F128c1 4000000 b ((at_+1:Nat):Int) N K=_:=F128c1_eq 3999999 _ _ _ _
 rw[qg9 (by omega),oB]at h1
 dsimp only at h1
 rw[q5n (by omega) (by omega),oB]at h1
 dsimp only at h1
 rw[q00 (z:=(b.length:Int)-((at_+1:Nat):Int)) (by omega) (by omega)]at h1
 by_cases hs:b.length-(at_+1)<q04 N (cw K)
 ·rw[dT (show(b.length:Int)-((at_+1:Nat):Int)<((q04 N (cw K):Nat):Int) by omega),cT]at h1
  refine⟨[],0,2,0,h1,qc6 hl ha (c:=0) h0 3999999 (fun h=>by omega) (fun _=>⟨_,qch (by omega),_,q6u (by omega) (by omega),fun _=>rfl,fun h=>?_⟩) (fun h=>by omega),(fun h=>by cases h)⟩
  exact absurd (show(b.length:Int)-((at_+1:Nat):Int)<((q04 N (cw K):Nat):Int) by omega) h
 ·have hwq:i64.wrap (((at_+1:Nat):Int)+((q04 N (cw K):Nat):Int))=((at_+1+q04 N (cw K):Nat):Int):=by rw[q00 (by omega) (by omega)];omega
  rw[dF (show¬(b.length:Int)-((at_+1:Nat):Int)<((q04 N (cw K):Nat):Int) by omega),cF,hwq,if_pos (show(0:Int)<=((at_+1:Nat):Int) by omega),if_pos (show((at_+1:Nat):Int)<=((at_+1+q04 N (cw K):Nat):Int) by omega),if_pos (show((at_+1+q04 N (cw K):Nat):Int)<=(b.length:Int) by omega)]at h1
  rw[oB]at h1
  obtain⟨l,e,u1,u2,u3,u4,u5⟩:=q96 (qbb hb (at_+1) (at_+1+q04 N (cw K))) (w:=cw K) (N:=N) (by omega) hN (by rw[q1p (by omega)];omega)
  have e1:List.drop (((at_+1:Nat):Int)).toNat (List.take (((at_+1+q04 N (cw K):Nat):Int)).toNat b)=slice b (at_+1) (at_+1+q04 N (cw K)):=by rw[tN,tN];rfl
  rw[e1]at h1
  dsimp only at h1
  rw[u1,oB]at h1
  refine⟨l,at_+1+q04 N (cw K),e,_,h1,qc6 hl ha (c:=0) h0 3999999 (fun h=>by omega) (fun _=>⟨_,qch (by omega),_,q6u (by omega) (by omega),fun h=>?_,fun _=>⟨by omega,l,(e:Int),?_,?_⟩⟩) (fun h=>by omega),fun h=>⟨rfl,?_,?_,by omega,by omega⟩⟩
  ·exact absurd h (show¬(b.length:Int)-((at_+1:Nat):Int)<((q04 N (cw K):Nat):Int) by omega)
  ·rw[show(((at_+1:Nat):Int)+((q04 N (cw K):Nat):Int)).toNat=at_+1+q04 N (cw K) by omega]
   exact u2
  ·rw[show((at_+1:Nat):Int)+((q04 N (cw K):Nat):Int)=((at_+1+q04 N (cw K):Nat):Int) by omega]
  ·rw[u3 h];exact z139 (by omega)
  ·rw[u3 h,q6f]
theorem qvi {b:List Int}(hb:okB b)(hl:b.length<=100000000){at_ N K:Nat}(hN:N<=65536)(ha:at_<b.length)(h0:b.getD at_ 0=1):
  ∃(l:List Int) (q e:Nat),F129.run wdA cdR 4000000 (b,((at_+1:Nat):Int),(N:Int),())=some ((l,((q:Int),((e:Int),()))),())/\
   F134.run ckA cdR 4000000 (b,(at_:Int),(N:Int),(K:Int),())=some ((l,((q:Int),((e:Int),()))),())/\qs9 (qxj b N at_) l q e:=by
 rw[show F129.run wdA cdR 4000000 (b,((at_+1:Nat):Int),(N:Int),())=_ from F129_run _ _ _ _,show F134.run ckA cdR 4000000 (b,(at_:Int),(N:Int),(K:Int),())=_ from F134_run _ _ _ _ _]
 have bad:∀e:Nat,e≠0->qs9 (qxj b N at_) [] 0 e:=fun e he=>⟨fun h=>absurd h he,fun _=>⟨rfl,rfl⟩⟩
 have h1:F129c1 4000000 b ((at_+1:Nat):Int) N=_:=F129c1_eq 3999999 _ _ _
 obtain⟨l,q,e,r1,r2,r3,r4⟩:=qpe hb (by omega) ((at_+1:Nat):Int)
 rw[r1]at h1
 erw [oB]at h1
 dsimp only at h1
 by_cases he:e=0
 ·subst he
  obtain⟨g1,g2,g3,g4,g5,g6⟩:=r3 rfl
  obtain⟨x,f,x1,x2,x3,x4⟩:=qc1 g1 (by omega)
  have hf:=x4 g4 g5
  subst hf
  obtain⟨x5,x6⟩:=x3 rfl
  have hxl:x.length<=65536:=by have:=qak g1;rw[<-x5]at this;omega
  rw[eq0,cF,x1]at h1
  erw [oB]at h1
  dsimp only at h1
  rw[eq0,cF]at h1
  by_cases hx:x.length=N
  ·rw[dT (show(x.length:Int)=(N:Int) by omega),nT,cF]at h1
   obtain⟨i1,i2⟩:=qjc (x:=x) (q:=(q:Int)) (by omega) 3999999 3999999 0 (by omega) (by omega) (by omega)
   refine⟨x.map u64.wrap,q,0,h1.trans i1,qc6 hl ha (c:=1) h0 3999999 (fun h=>by omega) (fun h=>by cases h) (fun _=>⟨l,q,_,r2,fun h=>absurd rfl h,fun _=>⟨x,_,x2,fun h=>absurd (show(x.length:Int)=(N:Int) by omega) h,fun _=>i2⟩⟩),fun _=>⟨qwa x,by rw[List.length_map];exact hx,g3,by omega⟩,fun h=>absurd rfl h⟩
  ·rw[dF (show¬(x.length:Int)=(N:Int) by omega),nF,cT]at h1
   exact⟨[],0,18,h1,qc6 hl ha (c:=1) h0 3999999 (fun h=>by omega) (fun h=>by cases h) (fun _=>⟨l,q,_,r2,fun h=>absurd rfl h,fun _=>⟨x,_,x2,fun _=>rfl,fun h=>absurd (show x.length=N by omega) hx⟩⟩),bad 18 (by decide)⟩
 ·rw[ne0 he,cT]at h1
  refine⟨[],0,e,h1,qc6 hl ha (c:=1) h0 3999999 (fun h=>by omega) (fun h=>by cases h) (fun _=>⟨l,q,e,r2,fun _=>rfl,fun h=>absurd h (by omega)⟩),bad e he⟩
/-! The strings of the codes. -/
def GT (b:List Int)(o N:Nat)(L:List (List Int))(q e:Nat):Prop:=(e=0->o<=q/\q<=b.length/\L.length=N/\∀w∈L,w.length<=4096)/\(e≠0->L=[]/\q=0)
theorem q9c {b:List Int}{o N e:Nat}(h:e≠0):GT b o N [] 0 e:=⟨fun h'=>absurd h' h,fun _=>⟨rfl,rfl⟩⟩
theorem qf8 {b:List Int}{off q N:Nat}{W:List (List Int)}{l:List Int}(hl:l.length=N)(hu:okU l)(hN:N<=10000)(hWl:W.length<=65536)(hW:∀w∈W,w.length<=4096)(ho:off<=q)(hq:q<=b.length):∀(d i n m:Nat) (out:List (List Int)),N-i=d->i<=N->d<n->d<m->out.length=i->(∀w∈out,w.length<=4096)->
  ∃(L:List (List Int)) (q' e:Nat),F74c19 n b off q N i W out l=some ((L,((q':Int),((e:Int),()))),())/\F77c11 m b off q i W l out=some ((L,((q':Int),((e:Int),()))),())/\GT b off N L q' e
 | 0,i,n,m,out,hd,hi,hn,hm,hol,how=>by
  obtain⟨n,rfl⟩:∃n',n=n'+1:=⟨n-1,by omega⟩
  obtain⟨m,rfl⟩:∃m',m=m'+1:=⟨m-1,by omega⟩
  have h1:=F74c19_eq n b off q N i W out l
  have h2:=F77c11_eq m b off q i W l out
  rw[dF (show¬(i:Int)<(N:Int) by omega),cF,qme (by omega) how,oB,if_pos (show(0:Int)<=(off:Int) by omega),if_pos (show(off:Int)<=(q:Int) by omega),if_pos (show(q:Int)<=(b.length:Int) by omega)]at h1
  rw[dF (show¬(i:Int)<(l.length:Int) by omega),cF,qph (by omega) how,oB,if_pos (show(0:Int)<=(off:Int) by omega),if_pos (show(off:Int)<=(q:Int) by omega),if_pos (show(q:Int)<=(b.length:Int) by omega)]at h2
  dsimp only at h1 h2
  by_cases he:List.map Eng.q0n (q86 out)=List.map Eng.q0n (List.drop ((off:Int)).toNat (List.take ((q:Int)).toNat b))
  ·rw[dT he,nT,cF]at h1 h2
   exact⟨out,q,0,h1,h2,fun _=>⟨ho,hq,by omega,how⟩,fun h=>absurd rfl h⟩
  ·rw[dF he,nF,cT]at h1 h2
   exact⟨[],0,4,h1,h2,q9c (by decide)⟩
 | d +1,i,n,m,out,hd,hi,hn,hm,hol,how=>by
  obtain⟨n,rfl⟩:∃n',n=n'+1:=⟨n-1,by omega⟩
  obtain⟨m,rfl⟩:∃m',m=m'+1:=⟨m-1,by omega⟩
  have h1:=F74c19_eq n b off q N i W out l
  have h2:=F77c11_eq m b off q i W l out
  obtain⟨c,hc,hc64⟩:=hu i (by omega)
  have hc':l.getD ((i:Int)).toNat 0=(c:Int):=by rw[tN];exact hc
  rw[hc',q01 (z:=(W.length:Int)) (by omega) (by omega),tN,dT (show(i:Int)<(N:Int) by omega),cT,if_pos (show(0:Int)<=(i:Int) by omega),if_pos (show(i:Int)<(l.length:Int) by omega)]at h1
  rw[hc',q01 (z:=(W.length:Int)) (by omega) (by omega),tN,dT (show(i:Int)<(l.length:Int) by omega),cT,if_pos (show(0:Int)<=(i:Int) by omega),if_pos (show(i:Int)<(l.length:Int) by omega)]at h2
  by_cases hcl:W.length<=c
  ·rw[dT (show(W.length:Int)<=(c:Int) by omega),cT]at h1 h2
   exact⟨[],0,6,h1,h2,q9c (by decide)⟩
  ·rw[dF (show¬(W.length:Int)<=(c:Int) by omega),cF,if_pos (show(0:Int)<=(c:Int) by omega),if_pos (show(c:Int)<(W.length:Int) by omega),if_pos (show out.length+1<=lim by simp only[lim];omega),q00 (z:=(i:Int)+1) (by omega) (by omega)]at h1
   rw[dF (show¬(W.length:Int)<=(c:Int) by omega),cF,if_pos (show(0:Int)<=(i:Int) by omega),if_pos (show(i:Int)<(l.length:Int) by omega),if_pos (show(0:Int)<=(c:Int) by omega),if_pos (show(c:Int)<(W.length:Int) by omega),if_pos (show out.length+1<=lim by simp only[lim];omega),q00 (z:=(i:Int)+1) (by omega) (by omega)]at h2
   obtain⟨L,q',e,g1,g2,g3⟩:=qf8 hl hu hN hWl hW ho hq d (i+1) n m (out++[W.getD c []]) (by omega) (by omega) (by omega) (by omega) (by rw[lA,List.length_singleton,hol]) (by
    intro w hw
    rcases mA.1 hw with hw|hw
    ·exact how w hw
    ·rw[List.mem_singleton]at hw
     subst hw
     exact hW _ (q51.2 ⟨c,by omega,rfl⟩))
   exact⟨L,q',e,h1.trans g1,h2.trans g2,g3⟩
abbrev dcR:List RK:=[RK.own 9 Ty.str,RK.v (Ty.int .i64),RK.v (Ty.int .i64)]
theorem qmb {b:List Int}(hb:okB b)(hl:b.length<=100000000){o N:Nat}(hN:N<=10000):
  ∃(L:List (List Int)) (q' e:Nat),F74.run wdA dcR 4000000 (b,(o:Int),(N:Int),())=some ((L,((q':Int),((e:Int),()))),())/\F77.run wdA dcR 4000000 (b,(o:Int),(N:Int),())=some ((L,((q':Int),((e:Int),()))),())/\GT b o N L q' e:=by
 generalize hoff:(o:Int)=off
 generalize hn:(N:Int)=n
 rw[show F74.run wdA dcR 4000000 (b,off,n,())=_ from F74_run _ _ _ _,show F77.run wdA dcR 4000000 (b,off,n,())=_ from F77_run _ _ _ _]
 rw[show F74c1 4000000 b off n=_ from F74c1_eq 3999999 _ _ _,show F77c1 4000000 b off n=_ from F77c1_eq 3999999 _ _ _]
 by_cases h0:off<0
 ·rw[dT h0,cT,cT]
  exact⟨[],0,1,rfl,rfl,q9c (by decide)⟩
 ·rw [dF h0,cF,cF]
  by_cases h1:(b.length:Int)<off
  ·rw[dT h1,cT,cT]
   exact⟨[],0,1,rfl,rfl,q9c (by decide)⟩
  ·rw [dF h1,cF,cF]
   by_cases h2:n<0
   ·rw[dT h2,cT,cT]
    exact⟨[],0,1,rfl,rfl,q9c (by decide)⟩
   ·rw [dF h2,cF,cF]
    by_cases h3:65536<n
    ·rw[dT h3,cT,cT]
     exact⟨[],0,1,rfl,rfl,q9c (by decide)⟩
    ·rw [dF h3,cF,cF]
     subst hoff
     subst hn
     have e1:F74c3 3999999 b (o:Int) N=_:=F74c3_eq 3999998 _ _ _
     have e2:F77c3 3999999 b (o:Int) N=_:=F77c3_eq 3999998 _ _ _
     obtain⟨W,q,e,r1,r2,r3,r4⟩:=qrm hb (by omega) (o:Int) (N:=N) (by omega)
     rw[r1,oB]at e1
     rw[r2,oB]at e2
     dsimp only at e1 e2
     by_cases he:e=0
     ·subst he
      obtain⟨w1,w2,w3,w4⟩:=r3 rfl
      rw[eq0,cF]at e1 e2
      by_cases hq:q=b.length
      ·have m0:F134.run ckA cdR 4000000 (b,(q:Int),(N:Int),(W.length:Int),())=some (([],((0:Int),((2:Int),()))),()):=by
        rw[show F134.run ckA cdR 4000000 (b,(q:Int),(N:Int),(W.length:Int),())=_ from F134_run _ _ _ _ _,show F134c1 4000000 b (q:Int) (N:Int) (W.length:Int)=_ from F134c1_eq 3999999 _ _ _ _,dT (show(q:Int)=(b.length:Int) by omega),cT]
       rw[dT (show(q:Int)=(b.length:Int) by omega),cT]at e1
       rw[m0,oB]at e2
       exact⟨[],0,2,e1,e2,q9c (by decide)⟩
      ·obtain⟨c,hc,hc8⟩:=hb q (by omega)
       have hc':b.getD ((q:Int)).toNat 0=(c:Int):=by rw[tN];exact hc
       rw[hc',dF (show¬(q:Int)=(b.length:Int) by omega),cF,if_pos (show(0:Int)<=(q:Int) by omega),if_pos (show(q:Int)<(b.length:Int) by omega),q00 (z:=(q:Int)+1) (by omega) (by omega),show(q:Int)+1=((q+1:Nat):Int) by omega]at e1
       -- behind the q0l
       have fin:∀(l:List Int) (q2 e:Nat) (q0:Int),(e=0->q0=(q2:Int)/\qxj b N (q:Int) l q2)->∃(L:List (List Int)) (q' e':Nat),F74c15 3999998 b o q0 e W l=some ((L,((q':Int),((e':Int),()))),())/\(bif !decide ((e:Int)=0)then some (([],((0:Int),((e:Int),()))),())else F77c11 3999998 b o q0 0 W l [])=some ((L,((q':Int),((e':Int),()))),())/\GT b o N L q' e':=by
        intro l q2 e q0 hg
        have f1:F74c15 3999998 b o q0 e W l=_:=F74c15_eq 3999997 _ _ _ _ _ _
        by_cases he:e=0
        ·subst he
         obtain⟨rfl,g1,g2,g3,g4⟩:=hg rfl
         rw[eq0,cF]at f1 ⊢
         obtain⟨L,q',e',k1,k2,k3⟩:=qf8 (b:=b) (off:=o) (q:=q2) (N:=N) (W:=W) (l:=l) g2 g1 hN (by omega) w2 (by omega) g3 N 0 3999997 3999998 [] (by omega) (by omega) (by omega) (by omega) rfl (fun w hw=>by cases hw)
         rw[g2]at f1
         exact⟨L,q',e',f1.trans k1,k2,k3⟩
        ·rw[ne0 he,cT]at f1 ⊢
         exact⟨[],0,e,f1,rfl,q9c he⟩
       by_cases hc0:c=0
       ·subst hc0
        obtain⟨l,q2,e,q0,p1,p2,p3⟩:=qnd hb hl (at_:=q) (N:=N) (K:=W.length) (by omega) (by omega) (by omega) hc
        rw[show decide (((0:Nat):Int)=0)=true from rfl,cT,p1,oB]at e1
        rw[p2,oB]at e2
        obtain⟨L,q',e',k1,k2,k3⟩:=fin l q2 e q0 p3
        exact⟨L,q',e',e1.trans k1,e2.trans k2,k3⟩
       ·rw[dF (show¬(c:Int)=0 by omega),cF]at e1
        by_cases hc1:c=1
        ·subst hc1
         obtain⟨l,q2,e,p1,p2,p3⟩:=qvi hb hl (at_:=q) (N:=N) (K:=W.length) (by omega) (by omega) hc
         rw[show decide (((1:Nat):Int)=1)=true from rfl,cT,p1,oB]at e1
         rw[p2,oB]at e2
         obtain⟨L,q',e',k1,k2,k3⟩:=fin l q2 e q2 (fun h=>⟨rfl,p3.1 h⟩)
         exact⟨L,q',e',e1.trans k1,e2.trans k2,k3⟩
        ·rw[dF (show¬(c:Int)=1 by omega),cF]at e1
         have m1:F134.run ckA cdR 4000000 (b,(q:Int),(N:Int),(W.length:Int),())=some (([],((0:Int),((4:Int),()))),()):=by
          rw[show F134.run ckA cdR 4000000 (b,(q:Int),(N:Int),(W.length:Int),())=_ from F134_run _ _ _ _ _]
          exact qc6 hl (by omega) hc 3999999 (fun _=>rfl) (fun h=>absurd h hc0) (fun h=>absurd h hc1)
         rw[m1,oB]at e2
         obtain⟨L,q',e',k1,k2,k3⟩:=fin [] 0 4 q (fun h=>by cases h)
         have k1':=F74c15_eq 3999997 b o q 4 W []
         exact⟨[],0,4,e1.trans k1',e2,q9c (by decide)⟩
     ·rw[ne0 he,cT]at e1 e2
      exact⟨[],0,e,e1,e2,q9c he⟩
end Go.Proofs.Tryz
