/- The engine, part N: literals, new rows and boxes.
The engine, part O: new boxes and rows.
The engine, part P: slice literals, append, stores.
The engine, part Q: append and stores, on the state.
The engine, part R: stores.
The engine, part RC: copy.
The engine, part S: several own blocks are handed to a call and come back turned.
The engine, part T: what a function takes and gives; calls.
The engine, part U: a call, as its caller sees it.
The engine, part V: what a call leaves behind.
The engine, part VM: maps of plain keys and plain values. -/
import Derived.Test.YtpnabclcnplchaaGreatEngine1
import Derived.Laws.OwnMore
import Derived.Laws.MakeOwn
import Derived.Maps.AppendAt
import Derived.Lib.AppendStr
import Derived.MapFrom
set_option linter.unusedVariables false
set_option linter.unusedSimpArgs false
namespace Go.Eng
variable {N:Names} {P:Program} {τ:TypeId->Option TI} {β:Type}
theorem qhl {α:Type}{R:α->List Value->Prop}{sz:Nat}(hl:∀x cs,R x cs->cs.length=sz){off:Nat}{vs:List Value}{x':α}:
  ∀{xs:List α} {cells:List Value},q6v R xs cells->∀(i:Nat) x,xs[i]?=some x->(∀ccs,R x ccs->R x' (q0g ccs off vs)/\off+vs.length<=ccs.length)->q6v R (xs.set i x') (q0g cells (i*sz+off) vs)/\i*sz+off+vs.length<=cells.length
 |[],_,_,i,x,hx,_=>by simp at hx
 |y::ys,cells,⟨c1,c2,e,h1,h2⟩,0,x,hx,hu=>by
  simp at hx
  subst hx
  subst e
  obtain⟨k1,k2⟩:=hu c1 h1
  refine⟨⟨q0g c1 off vs,c2,?_,k1,h2⟩,by rw[lA];omega⟩
  rw[Nat.zero_mul,Nat.zero_add]
  unfold q0g
  rw[List.take_append_of_le_length (by omega),List.drop_append_of_le_length (by omega)]
  simp
 |y::ys,cells,⟨c1,c2,e,h1,h2⟩,i+1,x,hx,hu=>by
  subst e
  have hc1:=hl y c1 h1
  obtain⟨k1,k2⟩:=qhl hl h2 i x (by simpa using hx) hu
  have hm:(i+1)*sz=sz+i*sz:=by rw[Nat.add_mul,Nat.one_mul,Nat.add_comm]
  refine⟨⟨c1,q0g c2 (i*sz+off) vs,?_,h1,k1⟩,by rw[lA,hm];omega⟩
  unfold q0g
  rw[hm,List.take_append,List.drop_append,tL (by omega:c1.length<=sz+i*sz+off),List.drop_eq_nil_of_le (by omega:c1.length<=sz+i*sz+off+vs.length),hc1]
  simp only[List.nil_append,aA]
  congr 3
  ·omega
  ·rw[show sz+i*sz+off+vs.length-sz=i*sz+off+vs.length from by omega]
theorem q5b {α:Type}{R:α->List Value->Prop}:∀{xs ys:List α} {cs ds:List Value},q6v R xs cs->q6v R ys ds->q6v R (xs++ys) (cs++ds)
 |[],ys,cs,ds,h,h'=>by rw[show cs=[]from h];exact h'
 |x::xs,ys,cs,ds,⟨c1,c2,e,h1,h2⟩,h'=>⟨c1,c2++ds,by rw[e,aA],h1,q5b h2 h'⟩
theorem q4c {α:Type}{R:α->List Value->Prop}{x:α}{zc:List Value}(h:R x zc):∀(n:Nat) (cs:List Value),cs.length=n*zc.length->(∀m,m<cs.length->cs[m]?=zc[m%zc.length]?)->q6v R (List.replicate n x) cs
 |0,cs,hl,_=>List.eq_nil_of_length_eq_zero (by simpa using hl)
 | n +1,cs,hl,hc=>by
  have hm:(n+1)*zc.length=zc.length+n*zc.length:=by rw[Nat.add_mul,Nat.one_mul,Nat.add_comm]
  refine⟨cs.take zc.length,cs.drop zc.length,(List.take_append_drop _ _).symm,?_,q4c h n _ (by rw[lD];omega) (fun m hmlt=>?_)⟩
  ·have:cs.take zc.length=zc:=by
    apply List.ext_getElem?
    intro m
    rw[List.getElem?_take]
    split
    ·rename_i hlt
     rw[hc m (by omega),Nat.mod_eq_of_lt hlt]
    ·rw[List.getElem?_eq_none (by omega)]
   rw[this]
   exact h
  ·rw[lD]at hmlt
   rw[List.getElem?_drop,hc _ (by omega),Nat.add_mod_left]
theorem qa2 (n:Nat)(zc:Array Value)(hz:0<zc.size):∀m,m<((Array.range n).map (zc[·%zc.size]!)).toList.length->((Array.range n).map (zc[·%zc.size]!)).toList[m]?=zc.toList[m%zc.toList.length]?:=by
 intro m hm
 have hlt:m<n:=by simpa using hm
 have h2:m%zc.size<zc.size:=Nat.mod_lt _ hz
 simp[hlt,h2]
theorem qcu (off:Nat):∀(vs:List Value) (j:Nat) (cs:Array Value),off+j+vs.length<=cs.size->
  ((vs.zipIdx j).foldl (fun cs (x:Value×Nat)=>cs.setIfInBounds (off+x.2) x.1) cs)=(q0g cs.toList (off+j) vs).toArray
 |[],j,cs,h=>by simp[q0g]
 |v::vs,j,cs,h=>by
  simp only[lC]at h
  rw[List.zipIdx_cons,List.foldl_cons,qcu off vs (j+1) _ (by simp;omega)]
  congr 1
  simp only[q0g,Array.toList_setIfInBounds,lC]
  rw[show off+j+(vs.length+1)=off+(j+1)+vs.length from by omega]
  rw[List.take_set,List.drop_set,if_pos (by omega)]
  have hl:off+j<cs.toList.length:=by simp;omega
  rw[show off+(j+1)=off+j+1 from by omega,List.take_succ_eq_append_getElem hl,List.set_append_right _ _ (by simp;omega)]
  simp only[lT,aA,List.singleton_append]
  rw[show min (off+j) cs.toList.length=off+j from by omega,Nat.sub_self]
  rfl
theorem qf2 {place:Nat->Option (Nat×Nat)}{cells:Array Value}{i off size:Nat}{v:Value}{rest:List (Nat×Value)}(hp:place i=some (off,size))(hs:v.cells.size=size)(hfit:off+size<=cells.size):
  Instr.fill place cells ((i,v)::rest)=Instr.fill place (q0g cells.toList off v.cells.toList).toArray rest:=by
 simp only[Instr.fill,hp]
 rw[if_neg (by simp only[Bool.or_eq_true,decide_eq_true_eq];rintro(h|h);exact h hs;omega)]
 congr 1
 have:=qcu off v.cells.toList 0 cells (by simp;omega)
 rw[<-Array.foldl_toList,Array.toList_zipIdx]
 exact this
def qu6:(ts:List Ty)->HL N.ρ ts->Nat->TV N->Option (HL N.ρ ts)
 |[],_,_,_=>none
 |t::_,x,0,v=>(q0u N v.t t v.x).map fun y=>(y,x.2)
 |_::ts,x,i+1,v=>(qu6 ts x.2 i v).map fun y=>(x.1,y)
theorem qkm {w:World}{ok:Nat->Prop}{v:TV N}{vs:List Value}(hv:Rep w ok v.t v.x vs):∀(ts:List Ty) (x y:HL N.ρ ts) (i:Nat) (cs:List Value),qu6 ts x i v=some y->q98 w ok (q9l w ok) ts x cs->
  q98 w ok (q9l w ok) ts y (q0g cs (q5a N ts i) vs)/\q5a N ts i+vs.length<=cs.length
 |[],_,_,_,_,h,_=>by cases h
 |t::ts,x,y,0,cs,h,⟨c1,c2,e,h1,h2⟩=>by
  subst e
  simp only[qu6,Option.map_eq_some_iff]at h
  obtain⟨z,hz,rfl⟩:=h
  have hzr:=qbs hz hv
  have l1:=q05 (show Rep w ok t x.1 c1 from h1)
  have l2:=q05 hzr
  simp only[q5a]
  refine⟨⟨vs,c2,?_,hzr,h2⟩,by rw[lA];omega⟩
  unfold q0g
  rw[List.take_zero,List.nil_append,Nat.zero_add,List.drop_append,List.drop_eq_nil_of_le (by omega),show vs.length-c1.length=0 from by omega]
  simp
 |t::ts,x,y,i+1,cs,h,⟨c1,c2,e,h1,h2⟩=>by
  subst e
  simp only[qu6,Option.map_eq_some_iff]at h
  obtain⟨z,hz,rfl⟩:=h
  obtain⟨k1,k2⟩:=qkm hv ts x.2 z i c2 hz h2
  have l1:=q05 (show Rep w ok t x.1 c1 from h1)
  simp only[q5a]
  refine⟨⟨c1,q0g c2 (q5a N ts i) vs,?_,h1,k1⟩,by rw[lA];omega⟩
  unfold q0g
  rw[List.take_append,List.drop_append,tL (by omega:c1.length<=N.sz t+q5a N ts i),List.drop_eq_nil_of_le (by omega:c1.length<=N.sz t+q5a N ts i+vs.length),l1]
  simp only[List.nil_append,aA]
  congr 3
  ·omega
  ·rw[show N.sz t+q5a N ts i+vs.length-N.sz t=q5a N ts i+vs.length from by omega]
def q5s (own:List (Nat×Blk N))(ρ:Operand->RV N)(ts:List Ty):List (Nat×Operand)->HL N.ρ ts->List Nat->Option (HL N.ρ ts×List Nat)
 |[],x,bs=>some (x,bs)
 | (i,o)::r,x,bs=>match qwl ts i with
  | some t=>match toDen own t (ρ o)with
   |some (y,b)=>match qu6 ts x i ⟨t,y⟩with
    |some x'=>q5s own ρ ts r x' (bs++b)
    |none=>none
   |none=>none
  |none=>none
theorem q7e {io:Io}{w0 w:World}{σ:St N}{E:Env}{a:Act}(hr:RelE io w0 σ E a w){ts:List Ty}{fs:List Field}(hf:q2o N τ ts 0 fs)
  {place:Nat->Option (Nat×Nat)} (hplace:∀i t,qwl ts i=some t->place i=some (q5a N ts i,N.sz t)):
  ∀(parts:List (Nat×Operand)) (x y:HL N.ρ ts) (bs bs':List Nat) (cs:List Value),q5s σ.own (ev σ) ts parts x bs=some (y,bs')->q98 w (okb w.heap.size σ.own E bs) (q9l w (okb w.heap.size σ.own E bs)) ts x cs->
   ∃ds,Instr.fill place cs.toArray (parts.map fun p=>(p.1,a.eval p.2))=some ds.toArray/\q98 w (okb w.heap.size σ.own E bs') (q9l w (okb w.heap.size σ.own E bs')) ts y ds
 |[],x,y,bs,bs',cs,h,hx=>by
  cases h
  exact⟨cs,rfl,hx⟩
 | (i,o)::r,x,y,bs,bs',cs,h,hx=>by
  simp only[q5s]at h
  split at h
  ·rename_i t ht
   split at h
   ·rename_i z b hz
    split at h
    ·rename_i x' hx'
     obtain⟨vs,v1,v2⟩:=hr.toDen hz (hr.ev o)
     have v3:=q6g v1 v2
     have v4:=q05 v1
     have hxm:=qgr (bs':=bs++b) (fun i hi=>mA.2 (.inl hi)) hx
     have hvm:=q2k (bs':=bs++b) (fun i hi=>mA.2 (.inr hi)) v1
     obtain⟨k1,k2⟩:=qkm (v:=⟨t,z⟩) hvm ts x x' i cs hx' hxm
     obtain⟨ds,d1,d2⟩:=q7e hr hf hplace r x' y (bs++b) bs' _ h k1
     refine⟨ds,?_,d2⟩
     rw[List.map_cons,qf2 (hplace i t ht) (by rw[<-v4,<-v3];simp) (by simp;omega)]
     rw[show(cs.toArray).toList=cs from rfl,v3]
     exact d1
    ·cases h
   ·cases h
  ·cases h
def q7d (own:List (Nat×Blk N))(ρ:Operand->RV N)(ts:List Ty):List (Nat×Operand)->List (RV N)->Option (List (RV N))
 |[],l=>some l
 | (i,o)::r,l=>match qwl ts i with
  |some t=>match q1d own t (ρ o)with
   |some vs=>bif Nat.ble (q5a N ts i+vs.length) l.length then q7d own ρ ts r (l.take (q5a N ts i)++vs++l.drop (q5a N ts i+vs.length))else none
   |none=>none
  |none=>none
theorem q7z {β:Type}{l vs:List β}{o:Nat}(h:o+vs.length<=l.length)(i:Nat):(l.take o++vs++l.drop (o+vs.length))[i]?=if i<o then l[i]? else if i<o+vs.length then vs[i-o]? else l[i]?:=by
 have ho:(l.take o).length=o:=by simp;omega
 by_cases h1:i<o
 ·rw[if_pos h1,aA,List.getElem?_append_left (by omega),List.getElem?_take,if_pos h1]
 ·rw[if_neg h1,aA,List.getElem?_append_right (by omega),ho]
  by_cases h2:i<o+vs.length
  ·rw[if_pos h2,List.getElem?_append_left (by omega)]
  ·rw[if_neg h2,List.getElem?_append_right (by omega),List.getElem?_drop]
   congr 1
   omega
theorem q8o {io:Io}{w0 w:World}{σ:St N}{E:Env}{a:Act}(hr:RelE io w0 σ E a w){ts:List Ty}
  {place:Nat->Option (Nat×Nat)} (hplace:∀i t,qwl ts i=some t->place i=some (q5a N ts i,N.sz t)):
  ∀(parts:List (Nat×Operand)) (l m:List (RV N)) (cs:List Value),q7d σ.own (ev σ) ts parts l=some m->cs.length=l.length->(∀(i:Nat) r u,l[i]?=some r->cs[i]?=some u->q0a w σ.own E r u)->
   ∃ds:List Value,Instr.fill place cs.toArray (parts.map fun p=>(p.1,a.eval p.2))=some ds.toArray/\ds.length=m.length/\∀(i:Nat) r u,m[i]?=some r->ds[i]?=some u->q0a w σ.own E r u
 |[],l,m,cs,h,hl,hc=>by
  cases h
  exact⟨cs,rfl,hl,hc⟩
 | (i, o)::r,l,m,cs,h,hl,hc=>by
  simp only[q7d]at h
  split at h
  ·rename_i t ht
   split at h
   ·rename_i vs hvs
    obtain⟨hle,h⟩:=q02 h
    have hle:=Nat.le_of_ble_eq_true hle
    obtain⟨us,v1,v2,v3,v4,v5⟩:=q8p hr (hr.ev o) hvs
    have hle2:q5a N ts i+us.length<=cs.length:=by rw[hl,v2];exact hle
    obtain⟨ds,d1,d2,d3⟩:=q8o hr hplace r _ m (q0g cs (q5a N ts i) us) h (by
     rw[q7g hle2,hl]
     simp only[lA,lT,lD]
     omega) (fun j q u hj hu=>by
     rw[q7z hle]at hj
     unfold q0g at hu
     rw[q7z hle2,v2]at hu
     split at hj
     ·rename_i h1
      rw[if_pos h1]at hu
      exact hc j q u hj hu
     ·rename_i h1
      rw[if_neg h1]at hu
      split at hj
      ·rename_i h2
       rw[if_pos h2]at hu
       exact v5 _ q u hj hu
      ·rename_i h2
       rw[if_neg h2]at hu
       exact hc j q u hj hu)
    refine⟨ds,?_,d2,d3⟩
    rw[List.map_cons,qf2 (hplace i t ht) (by rw[<-v3,<-v1];simp) (by simp;omega)]
    rw[show(cs.toArray).toList=cs from rfl,v1]
    exact d1
   ·cases h
  ·cases h
def q73 (τ:TypeId->Option TI)(σ:St N)(t:TypeId)(dst:Option Nat)(parts:List (Nat×Operand))(k:KK N β):Option β:=
 match τ t with
 | some ⟨.nm n,_⟩=>bif(N.rowsAt n).isEmpty then match q5s σ.own (ev σ) (N.body n) parts (N.un n (N.dv n)) []with
   |some (x,bs)=>k (.one (.data (.nm n) (N.re n x) bs)) []
   |none=>none
  else match q7d σ.own (ev σ) (N.body n) parts (zeroCells N 8 (.nm n))with
   |some l=>q7c σ.own dst n l k
   |none=>none
 |_=>none
theorem qfp (F:Fits P N τ):∀(ts:List Ty) (off:Nat) (fs:List Field),q2o N τ ts off fs->∃pl,fs.mapM (fun f=>(P.info? f.type).map fun i=>(f.offset,i.size))=some pl/\∀i t,qwl ts i=some t->pl[i]?=some (off+q5a N ts i,N.sz t)
 |[],off,[],_=>⟨[],rfl,fun i t h=>by cases h⟩
 |[],_,_::_,hf=>hf.elim
 |_::_,_,[],hf=>hf.elim
 | t::ts,off,f::fs,hf=>by
  obtain⟨f1,⟨e,f2⟩,_,_,f5⟩:=hf
  obtain⟨i,z,zc,h1,_,h3,_⟩:=F.info f2
  obtain⟨pl,p1,p2⟩:=qfp F ts _ fs f5
  refine⟨(f.offset,i.size)::pl,?_,fun j t' hj=>?_⟩
  ·simp[List.mapM_cons,h1,p1]
  ·cases j with
   |zero=>cases hj;simp[q5a,f1,h3]
   |succ j=>
    have:=p2 j t' hj
    simp only[List.getElem?_cons_succ,this,q5a,Nat.add_assoc]
theorem qhy (F:Fits P N τ){σ:St N}{t:TypeId}{dst:Option Nat}{parts:Array (Nat×Operand)}{k:KK N β}{r:β}(h:q73 τ σ t dst parts.toList k=some r):
  ∃s ad,k s ad=some r/\q2n P σ (fun a=>Instr.build t (parts.map fun(i,x)=>(i,a.eval x))) s ad:=by
 unfold q73 at h
 split at h
 ·rename_i n e hτ
  cases hd:(N.rowsAt n).isEmpty with
  | true=>
   rw[hd,cT]at h
   split at h
   ·rename_i x bs hx
    refine⟨_,_,h,q2n.pure fun io w0 E a w hr=>?_⟩
    obtain⟨fs,u1,u2,_,_,zc,⟨it,i1,i2,i3,i4⟩,_,u5⟩:=F.nm t n e hτ
    rcases u1 with⟨_,u1⟩|⟨len,el,ie,_,u1,ui,rfl⟩
    ·obtain⟨pl,p1,p2⟩:=qfp F _ _ _ u2
     obtain⟨ds,d1,d2⟩:=q7e (τ:=τ) hr u2 (place:=fun i=>pl.toArray[i]?) (fun i t' ht'=>by simpa using p2 i t' ht') parts.toList _ x [] bs zc.toList hx (q1l (u5 w (okb w.heap.size σ.own E [])))
     refine⟨.agg ds.toArray,?_,ds,q3d (by rw[N.un_re];exact d2),rfl⟩
     refine run_build w t _ ds.toArray ?_
     unfold Program.built
     simp only[i1,u1,i2,p1]
     rw[show(parts.map fun(x:Nat×Operand)=>(x.1,a.eval x.2)).toList=parts.toList.map (fun p=>(p.1,a.eval p.2))from by simp]
     exact d1
    ·have hpl:∀i t,qwl (N.body n) i=some t->(fun i=>some (i*ie.size,ie.size)) i=some (q5a N (N.body n) i,N.sz t):=by
      intro i t' ht'
      obtain⟨f,e',g1,g2,g3⟩:=q4k _ 0 _ i t' u2 ht'
      obtain⟨hlt,rfl⟩:=List.getElem?_eq_some_iff.1 g1
      simp only[qrv,List.getElem_map,List.getElem_range',Nat.zero_add,Nat.one_mul]at g2 g3
      obtain⟨i2,z,zc2,h1,_,h3,_⟩:=F.info g3
      rw[ui]at h1
      cases h1
      rw[<-h3,<-g2]
     obtain⟨ds,d1,d2⟩:=q7e (τ:=τ) hr u2 (place:=fun i=>some (i*ie.size,ie.size)) hpl parts.toList _ x [] bs zc.toList hx (q1l (u5 w (okb w.heap.size σ.own E [])))
     refine⟨.agg ds.toArray,?_,ds,q3d (by rw[N.un_re];exact d2),rfl⟩
     refine run_build w t _ ds.toArray ?_
     unfold Program.built
     simp only[i1,u1,i2,ui]
     rw[show(parts.map fun(x:Nat×Operand)=>(x.1,a.eval x.2)).toList=parts.toList.map (fun p=>(p.1,a.eval p.2))from by simp]
     exact d1
   ·cases h
  | false=>
   rw[hd,cF]at h
   split at h
   ·rename_i l hl
    refine q2n.vals h (fun hlen io w0 E a w hr=>?_)
    obtain⟨fs,u1,u2,_,_,zc,⟨it,i1,i2,i3,i4⟩,_,u5⟩:=F.nm t n e hτ
    have hz:=qbl (w:=w) (own:=σ.own) (E:=E) 8 (.nm n) zc.toList (F.zo t n e it zc hτ i1 i2)
    rcases u1 with⟨_,u1⟩|⟨len,el,ie,_,u1,ui,rfl⟩
    ·obtain⟨pl,p1,p2⟩:=qfp F _ _ _ u2
     obtain⟨ds,d1,d2,d3⟩:=q8o hr (place:=fun i=>pl.toArray[i]?) (fun i t' ht'=>by simpa using p2 i t' ht') parts.toList _ l zc.toList hl hz.1.symm hz.2
     refine⟨ds,?_,d2,d3⟩
     refine run_build w t _ ds.toArray ?_
     unfold Program.built
     simp only[i1,u1,i2,p1]
     rw[show(parts.map fun(x:Nat×Operand)=>(x.1,a.eval x.2)).toList=parts.toList.map (fun p=>(p.1,a.eval p.2))from by simp]
     exact d1
    ·have hpl:∀i t,qwl (N.body n) i=some t->(fun i=>some (i*ie.size,ie.size)) i=some (q5a N (N.body n) i,N.sz t):=by
      intro i t' ht'
      obtain⟨f,e',g1,g2,g3⟩:=q4k _ 0 _ i t' u2 ht'
      obtain⟨hlt,rfl⟩:=List.getElem?_eq_some_iff.1 g1
      simp only[qrv,List.getElem_map,List.getElem_range',Nat.zero_add,Nat.one_mul]at g2 g3
      obtain⟨i2,z,zc2,h1,_,h3,_⟩:=F.info g3
      rw[ui]at h1
      cases h1
      rw[<-h3,<-g2]
     obtain⟨ds,d1,d2,d3⟩:=q8o hr (place:=fun i=>some (i*ie.size,ie.size)) hpl parts.toList _ l zc.toList hl hz.1.symm hz.2
     refine⟨ds,?_,d2,d3⟩
     refine run_build w t _ ds.toArray ?_
     unfold Program.built
     simp only[i1,u1,i2,ui]
     rw[show(parts.map fun(x:Nat×Operand)=>(x.1,a.eval x.2)).toList=parts.toList.map (fun p=>(p.1,a.eval p.2))from by simp]
     exact d1
   ·cases h
 ·cases h
end Go.Eng

set_option linter.unusedVariables false
set_option linter.unusedSimpArgs false
namespace Go.Eng
variable {N:Names} {P:Program} {τ:TypeId->Option TI} {β:Type}
theorem Ext.alloc (w:World)(o:Obj):Ext w (w.alloc o):=
 ⟨rfl,rfl,rfl,by simp,fun g hg=>RowKit.Below.heap_alloc w o g hg⟩
theorem Ext.trans {a b c:World}(h:Ext a b)(k:Ext b c):Ext a c:=
 ⟨k.os.trans h.os,k.tape.trans h.tape,k.output.trans h.output,Nat.le_trans h.size k.size,fun g hg=>(k.block g (Nat.lt_of_lt_of_le hg h.size)).trans (h.block g hg)⟩
theorem Ext.grown {w w':World}(h:w.grownBy w' none):Ext w w':=
 ⟨h.os,h.tape,h.output,h.size,fun g hg=>h.block g hg (by simp)⟩
theorem q93 (w:World)(t:TypeId)(v:Value):(newVar t v).run P w=.ok ⟨w.heap.size,0,none⟩ (w.alloc (.cells v.cells t)):=by
 simp[newVar,newRow]
theorem qhk {w w':World}{own:List (Nat×Blk N)}{E:Env}{id:Nat}{b:Blk N}{V:Value}(he:Ext w w')(hV:∀g,q0j V=some g->w.heap.size<=g){bs:List Nat}{t:Ty}{x:t.den N.ρ}{cs:List Value}
  (h:Rep w (okb w.heap.size own E bs) t x cs):Rep w' (okb w'.heap.size (ins id b own) (qa7 E id V) bs) t x cs:=
 q09 (fun _ _ _ hc=>he.cell hc) (fun _ hb=>qiu he.size hV hb) h
def qdn (N:Names)(n:Nat)(e:TypeId):Option (Ty×Nat):=bif Nat.beq e 0 then none else match qhm N n with
 |some (T,len)=>bif Nat.ble len maxLen then some (T,len)else none
 |none=>none
theorem qnv {w:World}{ok:Nat->Prop}{f:Nat}{T:Ty}{c:List Value}(hs:qvk T=true)(h:q3z N f T c=true):Rep w ok T (N.dflt T) c:=by
 unfold q3z at h
 split at h
 ·simp only[Bool.and_eq_true,decide_eq_true_eq]at h
  obtain⟨rfl,rfl⟩:=h
  rfl
 ·rename_i b
  cases b with
  |true=>cases h
  |false=>rfl
 ·rename_i s
  refine⟨s,rfl,?_⟩
  simp only[List.isEmpty_iff]at h
  unfold q0o
  rw[h]
  rfl
 ·cases hs
 ·cases hs
 ·cases hs
 ·cases h
theorem q8q {w:World}{ok:Nat->Prop}{T:Ty}(hs:qvk T=true)(f:Nat):∀(len:Nat) (cs:List Value),qbm (q3z N f) N.sz (List.replicate len T) cs=true->q6v (Rep w ok T) (List.replicate len (N.dflt T)) cs
 |0,cs,h=>by
  have:cs=[]:=by simpa[qbm]using h
  subst this
  rfl
 |len+1,cs,h=>by
  simp only[List.replicate_succ,qbm,Bool.and_eq_true]at h
  exact⟨cs.take (N.sz T),cs.drop (N.sz T),(List.take_append_drop _ _).symm,qnv hs h.1,q8q hs f len _ h.2⟩
theorem qab (F:Fits P N τ){t:TypeId}{n len:Nat}{e:TypeId}{T:Ty}(hτ:τ t=some ⟨.nm n,e⟩)(ha:qdn N n e=some (T,len)):
  len<=maxLen/\0<len/\N.body n=List.replicate len T/\qvk T=true:=by
 unfold qdn at ha
 cases hb:Nat.beq e 0 with
 |true=>rw[hb]at ha;cases ha
 | false=>
  rw[hb]at ha
  simp only[cF]at ha
  split at ha
  ·rename_i T' len' h0
   obtain⟨h1,h2⟩:=q02 ha
   cases h2
   obtain⟨_,_,_,_,h5,h6,h7⟩:=qbq F hτ h0 (fun e0=>by rw[e0]at hb;cases hb)
   exact⟨Nat.le_of_ble_eq_true h1,h6,h5,h7⟩
  ·cases ha
def qsl (N:Names):(ty:Ty)->ty.den N.ρ->TypeId->Option (Nat×((T:Ty)×List (T.den N.ρ)))
 | .nm n,x,e=>match qdn N n e with
  |some (T,len)=>match N.lst n T x with
   |some l=>some (len,⟨T,l⟩)
   |none=>none
  |none=>none
 |_,_,_=>none
theorem qm8 (F:Fits P N τ){t:TypeId}{ty:Ty}{e:TypeId}{x:ty.den N.ρ}{len:Nat}{T:Ty}{l:List (T.den N.ρ)}(hτ:τ t=some ⟨ty,e⟩)(h:qsl N ty x e=some (len,⟨T,l⟩)):
  len=l.length/\l.length<=maxLen/\0<l.length/\∀{w:World} {ok:Nat->Prop} {cells:List Value},Rep w ok ty x cells->q6v (Rep w ok T) l cells:=by
 unfold qsl at h
 split at h
 ·rename_i e n x
  split at h
  ·rename_i T' len ha
   split at h
   ·rename_i l' hl
    cases h
    obtain⟨h1,h2,h3,h4⟩:=qab F hτ ha
    obtain⟨l1,l2⟩:=N.lst_ok n _ x l hl
    have hll:l.length=len:=by rw[l1,h3,List.length_replicate]
    exact⟨hll.symm,by omega,by omega,fun hr=>qfs l _ _ _ (by rw[hll,h3]) l2 (q1l hr)⟩
   ·cases h
  ·cases h
 ·cases h
def z110 (τ:TypeId->Option TI)(own:List (Nat×Blk N))(t:TypeId)(dst:Option Nat)(r:RV N)(k:KK N β):Option β:=
 match dst with
 |none=>none
 | some d=>match look own (1000+d)with
  |some _=>none
  | none=>bif qc5 r then k (.one (.bptr (1000+d) 0)) [(1000+d,.cells [r])]else bif isMp r then match τ t with
    |some ⟨ty,_⟩=>match q1d own ty r with
     |some vs=>k (.one (.bptr (1000+d) 0)) [(1000+d,.cells vs)]
     |none=>none
    |none=>none
   else match τ t with
   | some ⟨ty,e⟩=>match toDen own ty r with
    |some (x,bs)=>match qsl N ty x e with
     |some (len,⟨T,l⟩)=>k (.one (.optr (1000+d) 0 0)) [(1000+d,.row (qhd len) T l bs true)]
     |none=>k (.one (.bptr (1000+d) 0)) [(1000+d,.whole ty x bs)]
    |none=>none
   |none=>none
theorem qmi (F:Fits P N τ){σ:St N}{t:TypeId}{dst:Option Nat}{x:Operand}{k:KK N β}{r:β}(h:z110 τ σ.own t dst (ev σ x) k=some r):
  ∃s ad,k s ad=some r/\q2n P σ (fun a=>Instr.box t (a.eval x)) s ad:=by
 unfold z110 at h
 split at h
 ·cases h
 ·rename_i d
  split at h
  ·cases h
  ·rename_i hl
   have hrun:∀(a:Act) (w:World),(Instr.box t (a.eval x)).run P w=.ok (.pointer (some ⟨w.heap.size,0,none⟩)) (w.alloc (.cells (a.eval x).cells t)):=by
    intro a w
    simp only[Instr.box,Sem.run_bind,q93,Result.andThen_ok,Sem.run_pure]
   have hVg:∀w:World,∀o:Obj,∀g,q0j (.pointer (some ⟨w.heap.size,0,none⟩))=some g->w.heap.size<=g/\g<(w.alloc o).heap.size:=by
    intro w o g hg
    cases hg
    exact⟨nR _,by simp⟩
   cases hlo:qc5 (ev σ x)with
   | true=>
    rw[hlo]at h
    refine⟨_,_,h,fun io w0 E a w hr=>?_⟩
    have hx:=hr.ev x
    have hc:=qfi hlo hx hr.rowVal
    have he:=Ext.alloc w (.cells (a.eval x).cells t)
    have hadd:=hr.add he (V:=.pointer (some ⟨w.heap.size,0,none⟩)) (b:=.cells [ev σ x]) hl (hVg w _) ⟨w.heap.size,t,(a.eval x).cells,q06 _ _ _,heap_alloc_new w _,by rw[hc];rfl,fun i r u hi hu=>by
     match i,hi with
     |0,hi=>
      rw[hc]at hu
      simp only[List.getElem?_cons_zero,Option.some.injEq]at hi
      subst hi
      have:a.eval x=u:=by simpa using hu
      subst this
      exact q28 he hl (fun g hg=>(hVg w (.cells #[] t) g hg).1) hx⟩
    exact⟨_,_,_,hrun a w,hadd,.inr (.inl ⟨_,by rw[show q0d [(1000+d,Blk.cells [ev σ x])] σ.own=ins _ _ σ.own from rfl,q08,if_pos rfl]⟩),w.heap.size,q06 _ _ _,rfl⟩
   | false=>
    rw[hlo]at h
    simp only[cF]at h
    cases hmp:isMp (ev σ x)with
    | true=>
     rw[hmp,cT]at h
     split at h
     ·rename_i ty e hτ
      split at h
      ·rename_i vs hvs
       refine⟨_,_,h,fun io w0 E a w hr=>?_⟩
       obtain⟨cs,s1,s2,s3,s4,s5⟩:=q8p hr (hr.ev x) hvs
       have he:=Ext.alloc w (.cells (a.eval x).cells t)
       have hadd:=hr.add he (V:=.pointer (some ⟨w.heap.size,0,none⟩)) (b:=.cells vs) hl (hVg w _) ⟨w.heap.size,t,(a.eval x).cells,q06 _ _ _,heap_alloc_new w _,by rw[<-s2,<-s1];simp,fun i r u hi hu=>
        q28 he hl (fun g hg=>(hVg w (.cells #[] t) g hg).1) (s5 i r u hi (by rw[<-s1];simpa using hu))⟩
       exact⟨_,_,_,hrun a w,hadd,.inr (.inl ⟨_,by rw[show q0d [(1000+d,Blk.cells vs)] σ.own=ins _ _ σ.own from rfl,q08,if_pos rfl]⟩),w.heap.size,q06 _ _ _,rfl⟩
      ·cases h
     ·cases h
    |false=>
    rw[hmp,cF]at h
    split at h
    ·rename_i ty e hτ
     split at h
     ·rename_i y bs hy
      split at h
      ·rename_i len T l hbx
       obtain⟨rfl,q1,q2,q3⟩:=qm8 F hτ hbx
       refine⟨_,_,h,fun io w0 E a w hr=>?_⟩
       obtain⟨cs,h1,h2⟩:=hr.toDen hy (hr.ev x)
       have hc:=q6g h1 h2
       have he:=Ext.alloc w (.cells (a.eval x).cells t)
       have hz3:q6v (Rep (w.alloc (.cells (a.eval x).cells t)) (okb (w.alloc (.cells (a.eval x).cells t)).heap.size (ins (1000+d) (.row (qhd l.length) T l bs true) σ.own) (qa7 E (1000+d) (.slice (some ⟨w.heap.size,0,none⟩) l.length l.length)) bs) T) l (a.eval x).cells.toList:=by
        rw[hc]
        exact q3 (qhk he (fun g hg=>by cases hg;exact nR _) h1)
       have hlen:=q17 (fun x cs hx=>q05 hx) hz3
       have hadd:=hr.add he (V:=.slice (some ⟨w.heap.size,0,none⟩) l.length l.length) (b:=.row (qhd l.length) T l bs true) hl (fun g hg=>by cases hg;exact⟨nR _,by simp⟩)
        ⟨(a.eval x).cells.toList,by
         rw[q06]
         exact⟨hlen,.inr ⟨w.heap.size,l.length,(a.eval x).cells,t,(0,0),rfl,heap_alloc_new w _,.inl rfl,⟨fun h=>absurd h (Nat.not_lt.2 (Nat.le_trans (Nat.le_mul_of_pos_left qgb (by decide)) (qbe l.length))),fun _=>⟨rfl,rfl⟩⟩,nR _,q1,by simpa using hlen,tL (by omega)⟩⟩,hz3⟩
       refine⟨_,_,_,hrun a w,hadd,w.heap.size,l.length,l.length,T,?_,q2,q06 _ _ _,by rw[Nat.zero_mul]⟩
       exact⟨qhd l.length,l,bs,true,by rw[show q0d [(1000+d,Blk.row (qhd l.length) T l bs true)] σ.own=ins _ _ σ.own from rfl,q08,if_pos rfl],rfl⟩
      refine⟨_,_,h,fun io w0 E a w hr=>?_⟩
      obtain⟨cs,h1,h2⟩:=hr.toDen hy (hr.ev x)
      have hc:=q6g h1 h2
      have he:=Ext.alloc w (.cells (a.eval x).cells t)
      have hadd:=hr.add he (V:=.pointer (some ⟨w.heap.size,0,none⟩)) (b:=.whole ty y bs) hl (hVg w _) ⟨w.heap.size,t,(a.eval x).cells,q06 _ _ _,heap_alloc_new w _,by
       rw[hc]
       exact qhk he (fun g hg=>(hVg w (.cells #[] t) g hg).1) h1⟩
      exact⟨_,_,_,hrun a w,hadd,.inl ⟨_,_,_,by rw[show q0d [(1000+d,Blk.whole ty y bs)] σ.own=ins _ _ σ.own from rfl,q08,if_pos rfl]⟩,w.heap.size,q06 _ _ _,rfl⟩
     ·cases h
    ·cases h
def q46 (τ:TypeId->Option TI)(own:List (Nat×Blk N))(t:TypeId)(dst:Option Nat)(k:KK N β):Option β:=
 match dst with
 |none=>none
 | some d=>match look own (1000+d)with
  |some _=>none
  | none=>match τ t with
   |some ⟨.sl e,el⟩=>match look own (2000+d)with
    |some _=>none
    |none=>k (.one (.bptr (1000+d) 0)) [(1000+d,.cells [.own (2000+d)]),(2000+d,.row el e [] [] false)]
   |some ⟨.opq,_⟩=>k (.one (.bptr (1000+d) 0)) [(1000+d,.cells [.undef])]
   |some ⟨.nm n,e⟩=>match qdn N n e with
    |some (T,len)=>k (.one (.optr (1000+d) 0 0)) [(1000+d,.row (qhd len) T (List.replicate len (N.dflt T)) [] true)]
    |none=>bif(N.rowsAt n).isEmpty then k (.one (.bptr (1000+d) 0)) [(1000+d,.whole (.nm n) (N.dflt (.nm n)) [])]else match q8k d 0 (N.rowsAt n) (zeroCells N 8 (.nm n))with
    |(m,es)=>bif q26 own (es.map (·.1))then k (.one (.bptr (1000+d) 0)) ((1000+d,.cells m)::es)else none
   |some ⟨ty,_⟩=>k (.one (.bptr (1000+d) 0)) [(1000+d,.whole ty (N.dflt ty) [])]
   |none=>none
theorem qh7 (F:Fits P N τ){t:TypeId}{n:Nat}{e:TypeId}(hτ:τ t=some ⟨.nm n,e⟩)(w:World):∃zc:Array Value,(Instr.alloc t true (.tuple #[])).run P w=.ok (.pointer (some ⟨w.heap.size,0,none⟩)) (w.alloc (.cells zc t))/\q3z N 8 (.nm n) zc.toList=true:=by
 obtain⟨fs,_,_,_,_,zc,⟨i,h1,h2,h3,h4⟩,_,h5⟩:=F.nm t n e hτ
 refine⟨zc,?_,F.zo t n e i zc hτ h1 h2⟩
 simp only[Instr.alloc,zeroValue,typeInfo,Sem.run_bind,run_program,h1,h2,Result.andThen_ok,Sem.run_pure,q93]
 rfl
theorem qfv (F:Fits P N τ){t:TypeId}{ty:Ty}{e:TypeId}(hτ:τ t=some ⟨ty,e⟩)(w:World):∃zc:Array Value,(Instr.alloc t true (.tuple #[])).run P w=.ok (.pointer (some ⟨w.heap.size,0,none⟩)) (w.alloc (.cells zc t))/\(∀w ok,Rep w ok ty (N.dflt ty) zc.toList)/\zc.size=N.sz ty:=by
 obtain⟨i,z,zc,h1,h2,h3,h4,h5,h6,h7⟩:=F.info hτ
 refine⟨zc,?_,h7,?_⟩
 ·subst h5
  simp only[Instr.alloc,zeroValue,typeInfo,Sem.run_bind,run_program,h1,h2,Result.andThen_ok,Sem.run_pure,q93]
 ·have:=q05 (h7 w (fun _=>True))
  simpa using this
theorem qhx (F:Fits P N τ){σ:St N}{t:TypeId}{dst:Option Nat}{k:KK N β}{r:β}(h:q46 τ σ.own t dst k=some r):
  ∃s ad,k s ad=some r/\q2n P σ (fun a=>Instr.alloc t true (.tuple #[])) s ad:=by
 unfold q46 at h
 split at h
 ·cases h
 ·rename_i d
  split at h
  ·cases h
  ·rename_i hl
   have hVg:∀w:World,∀o:Obj,∀g,q0j (.pointer (some ⟨w.heap.size,0,none⟩))=some g->w.heap.size<=g/\g<(w.alloc o).heap.size:=by
    intro w o g hg
    cases hg
    exact⟨nR _,by simp⟩
   have hwhole:∀ty e,τ t=some ⟨ty,e⟩->k (.one (.bptr (1000+d) 0)) [(1000+d,.whole ty (N.dflt ty) [])]=some r->∃s ad,k s ad=some r/\q2n P σ (fun a=>Instr.alloc t true (.tuple #[])) s ad:=by
    intro ty e hτ h
    refine⟨_,_,h,fun io w0 E a w hr=>?_⟩
    obtain⟨zc,z1,z2,z3⟩:=qfv F hτ w
    have he:=Ext.alloc w (.cells zc t)
    have hadd:=hr.add he (V:=.pointer (some ⟨w.heap.size,0,none⟩)) (b:=.whole ty (N.dflt ty) []) hl (hVg w _) ⟨w.heap.size,t,zc,q06 _ _ _,heap_alloc_new w _,z2 _ _⟩
    exact⟨_,_,_,z1,hadd,.inl ⟨_,_,_,by rw[show q0d [(1000+d,Blk.whole ty (N.dflt ty) [])] σ.own=ins _ _ σ.own from rfl,q08,if_pos rfl]⟩,w.heap.size,q06 _ _ _,rfl⟩
   split at h
   ·rename_i e el hτ
    split at h
    ·cases h
    ·rename_i hl2
     refine⟨_,_,h,fun io w0 E a w hr=>?_⟩
     obtain⟨zc,z1,z2,z3⟩:=qfv F hτ w
     have he:=Ext.alloc w (.cells zc t)
     -- the row first: nil, no block
     have hadd1:=hr.add (Ext.refl w) (V:=.slice none 0 0) (b:=.row el e [] [] false) hl2 (fun g hg=>by cases hg) ⟨[],by rw[q06];exact⟨by simp,.inl ⟨rfl,rfl⟩⟩,rfl⟩
     have hl':look (ins (2000+d) (Blk.row el e [] [] false) σ.own) (1000+d)=none:=by
      rw[q08,if_neg (by omega)]
      exact hl
     have hzc:zc=#[.slice none 0 0]:=by
      obtain⟨A,cap,c1,c2,c3,c4⟩:=z2 w (fun _=>True)
      have hi:=F.sl t e el hτ
      obtain⟨_,_,i,i1,i2,_⟩:=hi
      obtain⟨i',z',zc',j1,j2,j3,j4,j5,j6,j7⟩:=F.info hτ
      rw[i1]at j1;cases j1
      rw[i2]at j2;cases j2
      have hrun:(Instr.alloc t true (.tuple #[])).run P w=.ok (.pointer (some ⟨w.heap.size,0,none⟩)) (w.alloc (.cells #[.slice none 0 0] t)):=by
       simp only[Instr.alloc,zeroValue,typeInfo,Sem.run_bind,run_program,i1,i2,Result.andThen_ok,Sem.run_pure,q93]
       rfl
      rw[hrun]at z1
      have hh:=congrArg (fun W:World=>W.heap[w.heap.size]?) (Result.ok.inj z1).2
      simp only[heap_alloc_new,Option.some.injEq,Obj.cells.injEq]at hh
      exact hh.1.symm
     have hadd2:=hadd1.add he (V:=.pointer (some ⟨w.heap.size,0,none⟩)) (b:=.cells [.own (2000+d)]) hl' (hVg w _) ⟨w.heap.size,t,zc,q06 _ _ _,heap_alloc_new w _,by rw[hzc];rfl,fun i r u hi hu=>by
      match i,hi with
      |0,hi=>
       rw[hzc]at hu
       simp only[List.getElem?_cons_zero,Option.some.injEq]at hi
       subst hi
       have:Value.slice none 0 0=u:=by simpa using hu
       subst this
       refine⟨by rw[q13 _ _ (by omega),q06],0,e,el,[],[],false,?_,rfl⟩
       rw[q08,if_neg (by omega),q08,if_pos rfl]⟩
     exact⟨_,_,_,z1,hadd2,.inr (.inl ⟨_,by rw[show q0d [(1000+d,Blk.cells [RV.own (2000+d)]),(2000+d,Blk.row el e [] [] false)] σ.own=ins _ _ (ins _ _ σ.own)from rfl,q08,if_pos rfl]⟩),w.heap.size,q06 _ _ _,rfl⟩
   ·rename_i e hτ
    refine⟨_,_,h,fun io w0 E a w hr=>?_⟩
    obtain⟨zc,z1,z2,z3⟩:=qfv F hτ w
    have he:=Ext.alloc w (.cells zc t)
    have hadd:=hr.add he (V:=.pointer (some ⟨w.heap.size,0,none⟩)) (b:=.cells [.undef]) hl (hVg w _) ⟨w.heap.size,t,zc,q06 _ _ _,heap_alloc_new w _,z3,fun i r u hi hu=>by
     match i,hi with
     |0,hi=>
      simp only[List.getElem?_cons_zero,Option.some.injEq]at hi
      subst hi
      trivial⟩
    exact⟨_,_,_,z1,hadd,.inr (.inl ⟨_,by rw[show q0d [(1000+d,Blk.cells [RV.undef])] σ.own=ins _ _ σ.own from rfl,q08,if_pos rfl]⟩),w.heap.size,q06 _ _ _,rfl⟩
   ·rename_i n e hτ
    split at h
    ·rename_i T len harr
     obtain⟨q1,q2,q3,q4⟩:=qab F hτ harr
     refine⟨_,_,h,fun io w0 E a w hr=>?_⟩
     obtain⟨zc,z1,z2⟩:=qh7 F hτ w
     have he:=Ext.alloc w (.cells zc t)
     have hz3:q6v (Rep (w.alloc (.cells zc t)) (okb (w.alloc (.cells zc t)).heap.size (ins (1000+d) (.row (qhd len) T (List.replicate len (N.dflt T)) [] true) σ.own) (qa7 E (1000+d) (.slice (some ⟨w.heap.size,0,none⟩) len len)) []) T) (List.replicate len (N.dflt T)) zc.toList:=by
      refine q8q q4 7 len zc.toList ?_
      have h8:qbm (q3z N 7) N.sz (N.body n) zc.toList=true:=z2
      rw[q3]at h8
      exact h8
     have hlen:=q17 (fun x cs hx=>q05 hx) hz3
     rw[List.length_replicate]at hlen
     have hadd:=hr.add he (V:=.slice (some ⟨w.heap.size,0,none⟩) len len) (b:=.row (qhd len) T (List.replicate len (N.dflt T)) [] true) hl (fun g hg=>by cases hg;exact⟨nR _,by simp⟩)
      ⟨zc.toList,by
       rw[q06,List.length_replicate]
       exact⟨hlen,.inr ⟨w.heap.size,len,zc,t,(0,0),rfl,heap_alloc_new w _,.inl rfl,⟨fun h=>absurd h (Nat.not_lt.2 (Nat.le_trans (Nat.le_mul_of_pos_left qgb (by decide)) (qbe len))),fun _=>⟨rfl,rfl⟩⟩,nR _,q1,by simpa using hlen,tL (by omega)⟩⟩,hz3⟩
     refine⟨_,_,_,z1,hadd,w.heap.size,len,len,T,?_,q2,q06 _ _ _,by rw[Nat.zero_mul]⟩
     exact⟨qhd len,List.replicate len (N.dflt T),[],true,by rw[show q0d [(1000+d,Blk.row (qhd len) T (List.replicate len (N.dflt T)) [] true)] σ.own=ins _ _ σ.own from rfl,q08,if_pos rfl],List.length_replicate⟩
    ·cases hd:(N.rowsAt n).isEmpty with
     |true=>
      rw[hd,cT]at h
      exact hwhole _ _ hτ h
     | false=>
      rw[hd,cF]at h
      split at h
      rename_i m es hes
      obtain⟨hc3,h⟩:=q02 h
      refine⟨_,_,h,fun io w0 E a w hr=>?_⟩
      obtain⟨zc,z1,z2⟩:=qh7 F hτ w
      have he:=Ext.alloc w (.cells zc t)
      obtain⟨k1,k2,k3,k4⟩:=q63 d 0 _ _ _ _ hes
      have hfr:=q19 hc3
      obtain⟨E1,h1,h2,h3,h4⟩:=hr.addNils es k2 (fun p hp=>⟨hfr _ (List.mem_map.2 ⟨p,hp,rfl⟩),(k3 p hp).2⟩)
      have hz:=qbl (w:=w) (own:=q0d es σ.own) (E:=E1) 8 (.nm n) zc.toList z2
      have hno:look (q0d es σ.own) (1000+d)=none:=by
       rw[h4]
       ·exact hl
       ·intro hm
        obtain⟨p,hp,e⟩:=List.mem_map.1 hm
        have:=(k3 p hp).1
        omega
      have hcell:=qp8 (w:=w) h2 (fun p hp=>(k3 p hp).2) k4 hz.2
      have hadd:=h1.add he (V:=.pointer (some ⟨w.heap.size,0,none⟩)) (b:=.cells m) hno (hVg w _) ⟨w.heap.size,t,zc,q06 _ _ _,heap_alloc_new w _,by rw[k1,hz.1];simp,fun i r u hi hu=>q28 he hno (fun g hg=>(hVg w (.cells #[] t) g hg).1) (hcell i r u hi (by simpa using hu))⟩
      exact⟨_,_,_,z1,hadd,.inr (.inl ⟨m,by
       show look (ins (1000+d) (Blk.cells m) (q0d es σ.own)) (1000+d)=_
       rw[q08,if_pos rfl]⟩),w.heap.size,q06 _ _ _,rfl⟩
   ·rename_i ty e _ _ _ hτ
    exact hwhole _ _ hτ h
   ·cases h
theorem q2n.row {σ:St N}{run:Act->Sem Value}{d:Nat}{el:TypeId}{ty:Ty}{xs:List (ty.den N.ρ)}{bs:List Nat}(hl:look σ.own (1000+d)=none)
  (h:∀io w0 E a w,RelE io w0 σ E a w->∃V w' cells,(run a).run P w=.ok V w'/\Ext w w'/\(∀g,q0j V=some g->w.heap.size<=g)/\qqk w' el (N.sz ty) V xs.length cells/\
   q6v (Rep w (okb w.heap.size σ.own E bs) ty) xs cells):
  q2n P σ run (.one (.own (1000+d))) [(1000+d,.row el ty xs bs false)]:=by
 intro io w0 E a w hr
 obtain⟨V,w',cells,h1,h2,h3,h4,h5⟩:=h io w0 E a w hr
 have hadd:=hr.add h2 (V:=V) (b:=.row el ty xs bs false) hl (fun g hg=>⟨h3 g hg,by
  rcases h4.2 with⟨rfl,_⟩|⟨g',cap,cur,_,_,rfl,hg',_⟩
  ·cases hg
  ·cases hg
   exact(Array.getElem?_eq_some_iff.1 hg').1⟩) ⟨cells,by rw[q06];exact h4,q0p (fun x cs hx=>qhk h2 h3 hx) h5⟩
 exact⟨V,w',_,h1,hadd,(q06 _ _ _).symm,xs.length,ty,el,xs,bs,false,by rw[show q0d [(1000+d,Blk.row el ty xs bs false)] σ.own=ins _ _ σ.own from rfl,q08,if_pos rfl],rfl⟩
def qci (σ:St N)(l c:Operand):Bool:=
 match l,c with
 |.tmp i,.tmp j=>i==j
 |.const (.int _ a),.const (.int _ b)=>decide (a=b)
 |_,_=>false
def qp2:Operand->Bool
 |.const (.int _ 0)=>true
 |_=>false
def qzu:Operand->Option Nat
 |.const (.int _ n)=>if 0<=n then some n.toNat else none
 |_=>none
theorem qlm {P:Program}(w:World)(base:Nat)(t e:TypeId)(i:TypeInfo)(z:Value)(size:Nat)(ht:P.underlying t=some (.slice e))(hi:P.info? e=some i)(hz:i.zero=some z)(hsize:i.size=size)
  (kl kc:IntKind) (n c:Nat) (hnc:n<=c) (hbytes:i.bytes*c<=281474976710656) (h63:c<=maxLen) (hbase:base<=w.heap.size):
  ∃w',(Instr.makeSlice t (.int kl (n:Int)) (.int kc (c:Int))).run P w=.ok (.slice (some ⟨w.heap.size,0,none⟩) n c) w'/\
   w'.ownsRow base e size (.slice (some ⟨w.heap.size,0,none⟩) n c) n ((madeCells z.cells (c*size)).toList.take (n*size))/\w.grownBy w' none:=by
 subst hsize
 have h63':(c:Int)<=9223372036854775807:=by
  have h:=h63
  simp[maxLen]at h
  omega
 have hb':(i.bytes:Int)*(c:Int)<=281474976710656:=by
  have h:((i.bytes*c:Nat):Int)<=281474976710656:=by omega
  rwa [Int.natCast_mul]at h
 have hr:=run_make (P:=P) w t e i z ht hi hz kl kc n c (by omega) (by omega) hb' h63'
 simp only[tN]at hr
 have hnm:n*i.size<=c*i.size:=Nat.mul_le_mul_right _ hnc
 exact⟨_,hr,⟨by rw[lT,Array.length_toList,size_madeCells];omega,.inr ⟨w.heap.size,c,_,rfl,hbase,heap_alloc_new w _,hnc,h63,size_madeCells _ _,rfl⟩⟩,World.grownBy_alloc w _ none⟩
def q9f (τ:TypeId->Option TI)(σ:St N)(t:TypeId)(dst:Option Nat)(l c:Operand)(k:KK N β):Option β:=
 match dst with
 |none=>none
 | some d=>match look σ.own (1000+d)with
  |some _=>none
  | none=>match τ t with
   | some ⟨.sl e,el⟩=>match ev σ l,ev σ c with
    | .int _ n,.int _ m=>
     bif qci σ l c then(if 0<=m then if m<=(lim:Int)then k (.one (.own (1000+d))) [(1000+d,.row el e (List.replicate m.toNat (N.dflt e)) [] false)]else none else none)
     else bif qp2 l then(if 0<=m then if m<=(lim:Int)then k (.one (.own (1000+d))) [(1000+d,.row el e [] [] false)]else none else none)
     else match qzu l with
      |some q=>if(q:Int)<=m then if m<=(lim:Int)then k (.one (.own (1000+d))) [(1000+d,.row el e (List.replicate q (N.dflt e)) [] false)]else none else none
      |none=>none
    |_,_=>none
   |_=>none
theorem qkd (F:Fits P N τ){σ:St N}{t:TypeId}{dst:Option Nat}{l c:Operand}{k:KK N β}{r:β}(h:q9f τ σ t dst l c k=some r):
  ∃s ad,k s ad=some r/\q2n P σ (fun a=>Instr.makeSlice t (a.eval l) (a.eval c)) s ad:=by
 unfold q9f at h
 split at h
 ·cases h
 ·rename_i d
  split at h
  ·cases h
  ·rename_i hl
   split at h
   ·rename_i e el hτ
    obtain⟨u1,⟨e',u2⟩,_⟩:=F.sl t e el hτ
    obtain⟨i,z,zc,i1,i2,i3,i4,i5,i6,i7⟩:=F.info u2
    have hpos:=F.pos u2
    split at h
    ·rename_i k1 n k2 m hn hm
     have hb:∀{m:Int},0<=m->m<=(lim:Int)->i.bytes*m.toNat<=281474976710656/\m.toNat<=maxLen:=by
      intro m h0 h1
      unfold lim at h1
      refine⟨?_,by simp only[maxLen];omega⟩
      calc i.bytes*m.toNat<=32768*4294967296:=Nat.mul_le_mul i4 (by omega)
       _<=281474976710656:=by decide
     cases hs:qci σ l c with
     | true=>
      rw[hs]at h
      simp only[cT]at h
      split at h
      ·rename_i h0
       split at h
       ·rename_i h1
        refine⟨_,_,h,q2n.row hl fun io w0 E a w hr=>?_⟩
        have hl':=hr.ev l
        have hc':=hr.ev c
        rw[hn]at hl'
        rw[hm]at hc'
        have hnm:n=m:=by
         unfold qci at hs
         split at hs
         ·rename_i p q
          have:p=q:=by simpa using hs
          subst this
          rw[hn]at hm
          cases hm
          rfl
         ·rename_i p1 p q1 q
          have:p=q:=by simpa using hs
          subst this
          cases hn
          cases hm
          rfl
         ·cases hs
        subst hnm
        obtain⟨b1,b2⟩:=hb h0 h1
        obtain⟨w',r1,r2,r3⟩:=run_make_full (P:=P) w 0 t el i z (N.sz e) u1 i1 i2 i3 k1 k2 n.toNat b1 b2 (Nat.zero_le _)
        have hnn:((n.toNat:Nat):Int)=n:=Int.toNat_of_nonneg h0
        rw[hnn]at r1
        have hz:z.cells.size=N.sz e:=by
         have:=q05 (i7 w (fun _=>True))
         rw[i5]
         simpa using this
        refine⟨_,w',_,by rw[show a.eval l=_ from hl',show a.eval c=_ from hc'];exact r1,Ext.grown r3,(fun g hg=>by cases hg;exact nR _),by rw[List.length_replicate];exact .of (F.small2 hτ) r2,?_⟩
        refine q4c (zc:=z.cells.toList) (by rw[i5];exact i7 _ _) n.toNat _ ?_ ?_
        ·have:=r2.1
         rw[this]
         simp[hz]
        ·unfold madeCells
         exact qa2 _ z.cells (by rw[hz];exact hpos)
       ·cases h
      ·cases h
     | false =>
      rw[hs]at h
      simp only[cF]at h
      cases hz0:qp2 l with
      | true=>
       rw[hz0,cT]at h
       split at h
       ·rename_i h0
        split at h
        ·rename_i h1
         refine⟨_,_,h,q2n.row hl fun io w0 E a w hr=>?_⟩
         have hl':=hr.ev l
         have hc':=hr.ev c
         rw[hn]at hl'
         rw[hm]at hc'
         have hn0:n=0:=by
          unfold qp2 at hz0
          split at hz0
          ·cases hn
           rfl
          ·cases hz0
         subst hn0
         obtain⟨b1,b2⟩:=hb h0 h1
         obtain⟨w',r1,r2,r3⟩:=run_make_own (P:=P) w 0 t el i z (N.sz e) u1 i1 i2 i3 k1 k2 m.toNat b1 b2 (Nat.zero_le _)
         have hmm:((m.toNat:Nat):Int)=m:=Int.toNat_of_nonneg h0
         rw[hmm]at r1
         exact⟨_,w',_,by rw[show a.eval l=_ from hl',show a.eval c=_ from hc'];exact r1,Ext.grown r3,(fun g hg=>by cases hg;exact nR _),.of (F.small2 hτ) r2,rfl⟩
        ·cases h
       ·cases h
      | false=>
       rw[hz0,cF]at h
       split at h
       ·rename_i q hq
        split at h
        ·rename_i h0
         split at h
         ·rename_i h1
          refine⟨_,_,h,q2n.row hl fun io w0 E a w hr=>?_⟩
          have hl':=hr.ev l
          have hc':=hr.ev c
          rw[hn]at hl'
          rw[hm]at hc'
          have hn0:n=(q:Int):=by
           unfold qzu at hq
           split at hq
           ·split at hq
            ·cases hn
             cases hq
             omega
            ·cases hq
           ·cases hq
          subst hn0
          have hm0:0<=m:=by omega
          obtain⟨b1,b2⟩:=hb hm0 h1
          obtain⟨w',r1,r2,r3⟩:=qlm (P:=P) w 0 t el i z (N.sz e) u1 i1 i2 i3 k1 k2 q m.toNat (by omega) b1 b2 (Nat.zero_le _)
          have hmm:((m.toNat:Nat):Int)=m:=Int.toNat_of_nonneg hm0
          rw[hmm]at r1
          have hz:z.cells.size=N.sz e:=by
           have:=q05 (i7 w (fun _=>True))
           rw[i5]
           simpa using this
          refine⟨_,w',_,by rw[show a.eval l=_ from hl',show a.eval c=_ from hc'];exact r1,Ext.grown r3,(fun g hg=>by cases hg;exact nR _),by rw[List.length_replicate];exact .of (F.small2 hτ) r2,?_⟩
          refine q4c (zc:=z.cells.toList) (by rw[i5];exact i7 _ _) q _ ?_ ?_
          ·have:=r2.1
           rw[this]
           simp[hz]
          ·intro j hj
           rw[List.getElem?_take]
           have hj2:j<q*N.sz e:=by
            rw[lT]at hj
            omega
           rw[if_pos hj2]
           refine qa2 _ z.cells (by rw[hz];exact hpos) j ?_
           rw[lT]at hj
           show j<(madeCells z.cells (m.toNat*N.sz e)).toList.length
           omega
         ·cases h
        ·cases h
       ·cases h
    ·cases h
   ·cases h
end Go.Eng

set_option linter.unusedVariables false
set_option linter.unusedSimpArgs false
namespace Go.Eng
variable {N:Names} {P:Program} {τ:TypeId->Option TI} {β:Type}
def q7f (own:List (Nat×Blk N))(ρ:Operand->RV N)(e:Ty):List (Nat×Operand)->List (e.den N.ρ)->List Nat->Option (List (e.den N.ρ)×List Nat)
 |[],xs,bs=>some (xs,bs)
 |(i,o)::r,xs,bs=>match toDen own e (ρ o)with
  |some (y,b)=>bif Nat.blt i xs.length then q7f own ρ e r (xs.set i y) (bs++b)else none
  |none=>none
theorem qd6 {io:Io}{w0 w:World}{σ:St N}{E:Env}{a:Act}(hr:RelE io w0 σ E a w){e:Ty}{sz:Nat}(hsz:sz=N.sz e):
  ∀(parts:List (Nat×Operand)) (xs ys:List (e.den N.ρ)) (bs bs':List Nat) (cs:List Value),q7f σ.own (ev σ) e parts xs bs=some (ys,bs')->q6v (Rep w (okb w.heap.size σ.own E bs) e) xs cs->
   ∃ds,Instr.fill (fun i=>some (i*sz,sz)) cs.toArray (parts.map fun p=>(p.1,a.eval p.2))=some ds.toArray/\q6v (Rep w (okb w.heap.size σ.own E bs') e) ys ds/\ys.length=xs.length
 |[],xs,ys,bs,bs',cs,h,hx=>by
  cases h
  exact⟨cs,rfl,hx,rfl⟩
 | (i,o)::r,xs,ys,bs,bs',cs,h,hx=>by
  simp only[q7f]at h
  split at h
  ·rename_i z b hz
   obtain⟨hlt,h⟩:=q02 h
   have hlt:i<xs.length:=by simpa[Nat.blt_eq]using hlt
   obtain⟨vs,v1,v2⟩:=hr.toDen hz (hr.ev o)
   have v3:=q6g v1 v2
   have v4:=q05 v1
   have hxm:=q0p (fun x cs hx=>q2k (bs':=bs++b) (fun i hi=>mA.2 (.inl hi)) hx) hx
   have hvm:=q2k (bs':=bs++b) (fun i hi=>mA.2 (.inr hi)) v1
   obtain⟨k1,k2⟩:=qhl (x':=z) (off:=0) (vs:=vs) (fun x cs hx=>q05 hx) hxm i xs[i] (gE hlt) (fun ccs hccs=>by
    have l1:=q05 hccs
    refine⟨?_,by omega⟩
    have:q0g ccs 0 vs=vs:=by
     unfold q0g
     rw[List.take_zero,List.nil_append,List.drop_eq_nil_of_le (by omega),List.append_nil]
    rw[this]
    exact hvm)
   rw[Nat.add_zero]at k1 k2
   obtain⟨ds,d1,d2,d3⟩:=qd6 hr hsz r (xs.set i z) ys (bs++b) bs' _ h k1
   refine⟨ds,?_,d2,by rw[d3];simp⟩
   rw[List.map_cons,qf2 rfl (by rw[hsz,<-v4,<-v3];simp) (by rw[hsz];simp;omega)]
   rw[show(cs.toArray).toList=cs from rfl,v3,hsz]
   rw[hsz]at d1
   exact d1
  ·cases h
def q24 (τ:TypeId->Option TI)(σ:St N)(t:TypeId)(len:Nat)(parts:List (Nat×Operand))(dst:Option Nat)(k:KK N β):Option β:=
 match dst with
 |none=>none
 | some d=>match look σ.own (1000+d)with
  |some _=>none
  | none=>match τ t with
   |some ⟨.sl e,el⟩=>bif Nat.ble (len*N.sz e) 16777216 then match q7f σ.own (ev σ) e parts (List.replicate len (N.dflt e)) []with
    |some (xs,bs)=>k (.one (.own (1000+d))) [(1000+d,.row el e xs bs false)]
    |none=>none
    else none
   |_=>none
theorem qah (F:Fits P N τ){σ:St N}{t:TypeId}{len:Nat}{parts:Array (Nat×Operand)}{dst:Option Nat}{k:KK N β}{r:β}(h:q24 τ σ t len parts.toList dst k=some r):
  ∃s ad,k s ad=some r/\q2n P σ (fun a=>Instr.buildSlice t len (parts.map fun(i,x)=>(i,a.eval x))) s ad:=by
 unfold q24 at h
 split at h
 ·cases h
 ·rename_i d
  split at h
  ·cases h
  ·rename_i hl
   split at h
   ·rename_i e el hτ
    obtain⟨hbig,h⟩:=q02 h
    have hbig:len*N.sz e<=16777216:=Nat.le_of_ble_eq_true hbig
    split at h
    ·rename_i xs bs hx
     refine⟨_,_,h,q2n.row hl fun io w0 E a w hr=>?_⟩
     obtain⟨u1,⟨e',u2⟩,_⟩:=F.sl t e el hτ
     obtain⟨i,z,zc,i1,i2,i3,i4,i5,i6,i7⟩:=F.info u2
     have hpos:=F.pos u2
     have hz:z.cells.size=N.sz e:=by
      have:=q05 (i7 w (fun _=>True))
      rw[i5]
      simpa using this
     have hlm:(parts.map fun(x:Nat×Operand)=>(x.1,a.eval x.2)).toList=parts.toList.map (fun p=>(p.1,a.eval p.2)):=by simp
     have hcells0:q6v (Rep w (okb w.heap.size σ.own E []) e) (List.replicate len (N.dflt e)) ((Array.range (len*i.size)).map (z.cells[·%z.cells.size]!)).toList:=by
      refine q4c (zc:=z.cells.toList) (by rw[i5];exact i7 _ _) len _ ?_ ?_
      ·simp[hz,i3]
      ·exact qa2 _ z.cells (by rw[hz];exact hpos)
     obtain⟨ds,d1,d2,d3⟩:=qd6 hr rfl parts.toList _ xs [] bs _ hx hcells0
     rw[List.length_replicate]at d3
     have hds:ds.length=len*N.sz e:=by rw[q17 (fun x cs hx=>q05 hx) d2,d3]
     have hown:(w.alloc (.cells ds.toArray el)).ownsRow 0 el (N.sz e) (.slice (some ⟨w.heap.size,0,none⟩) len len) xs.length ds:=by
      refine⟨by rw[hds,d3],.inr ⟨w.heap.size,len,ds.toArray,by rw[d3],Nat.zero_le _,heap_alloc_new w _,by omega,?_,by simp[hds],?_⟩⟩
      ·have:len<=len*N.sz e:=Nat.le_mul_of_pos_right _ hpos
       simp only[maxLen]
       omega
      ·rw[d3,<-hds]
       simp
     refine⟨.slice (some ⟨w.heap.size,0,none⟩) len len,w.alloc (.cells ds.toArray el),ds,?_,Ext.alloc w _,(fun g hg=>by cases hg;exact nR _),.of (F.small2 hτ) hown,d2⟩
     by_cases h0:len=0
     ·subst h0
      have hd0:ds=[]:=List.eq_nil_of_length_eq_zero (by rw[hds,Nat.zero_mul])
      subst hd0
      have hf0:Instr.fill (fun i=>some (i*N.sz e,N.sz e)) #[] (parts.map fun(x:Nat×Operand)=>(x.1,a.eval x.2)).toList=some #[]:=by
       rw[hlm]
       have:=d1
       simpa using this
      have hs0:=F.sizeOf u2 w
      show(Instr.buildSlice t 0 (parts.map fun(x:Nat×Operand)=>(x.1,a.eval x.2))).run P w=_
      simp only[Instr.buildSlice,Sem.run_bind,run_underlying u1,Result.andThen_ok,hs0,Nat.zero_mul]
      simp only[show¬(0>2^24)from by decide,if_false,if_true,Sem.run_pure,Result.andThen_ok,Array.range_zero',Array.map_empty,List.map_toArray,List.map_nil]
      rw[hf0]
      simp[newRow]
     ·have hsm:¬len*i.size>2^24:=by rw[i3];omega
      have hnz:¬len*i.size=0:=by
       rw[i3]
       intro h
       rcases Nat.mul_eq_zero.1 h with h|h
       ·exact h0 h
       ·omega
      refine run_buildSlice w t el len _ ds.toArray i z u1 i1 i2 hsm hnz ?_
      rw[i3]
      rw[i3]at d1
      rw[hlm]
      exact d1
    ·cases h
   ·cases h
/-! append -/
theorem qmw {w:World}{ok:Nat->Prop}{e:Ty}{A:Addr}:∀(ys:List (e.den N.ρ)) (o:Nat),(∀i y,ys[i]?=some y->∃ccs,Rep w ok e y ccs/\∀(j:Nat) u,ccs[j]?=some u->w.cell? (A.add ((o+i)*N.sz e+j))=some u)->
  ∃news,q6v (Rep w ok e) ys news/\∀(j:Nat) u,news[j]?=some u->w.cell? (A.add (o*N.sz e+j))=some u
 |[],o,_=>⟨[],rfl,fun j u hu=>by simp at hu⟩
 | y::ys,o,h=>by
  obtain⟨c1,h1,h2⟩:=h 0 y rfl
  obtain⟨c2,k1,k2⟩:=qmw ys (o+1) (fun i z hz=>by
   obtain⟨ccs,g1,g2⟩:=h (i+1) z (by simpa using hz)
   exact⟨ccs,g1,fun j u hu=>by rw[show o+1+i=o+(i+1)from by omega];exact g2 j u hu⟩)
  have hl:=q05 h1
  refine⟨c1++c2,⟨c1,c2,rfl,h1,k1⟩,fun j u hu=>?_⟩
  by_cases hj:j<c1.length
  ·rw[List.getElem?_append_left hj]at hu
   have:=h2 j u hu
   simpa using this
  ·rw[List.getElem?_append_right (by omega)]at hu
   have:=k2 _ u hu
   rw[show(o+1)*N.sz e+(j-c1.length)=o*N.sz e+j from by rw[Nat.add_mul,Nat.one_mul];omega]at this
   exact this
theorem qdm {w:World}{ok:Nat->Prop}{e:Ty}:∀{ys:List (e.den N.ρ)} {news:List Value},q6v (Rep w ok e) ys news->∀u∈news,u.oneCell'=true
 |[],news,h=>by rw[show news=[]from h];intro u hu;cases hu
 |y::ys,news,⟨c1,c2,e',h1,h2⟩=>by
  subst e'
  intro u hu
  rcases mA.1 hu with hu|hu
  ·exact q7t h1 u hu
  ·exact qdm h2 u hu
theorem qfw (t ty el:TypeId)(w:World)(h1:P.underlying t=some (.slice el))(i:TypeInfo)(h2:P.info? el=some i)(base:Option Addr)(n cap:Nat)(hn:n<=cap)(c:Nat):
  (Builtin.append_ #[t,t] ty #[.slice base n cap,.slice none 0 c]).run P w=.ok (.slice base n cap) w:=by
 cases base with
 |none=>simp[Builtin.append_,run_underlying h1,sizeOf,typeInfo,h2,Builtin.lenOf,Builtin.firstCells,loadCells,loadCellsFrom,hn]
 |some b=>simp[Builtin.append_,run_underlying h1,sizeOf,typeInfo,h2,Builtin.lenOf,Builtin.firstCells,loadCells,loadCellsFrom,hn,storeCells]
theorem qj4 (F:Fits P N τ){io:Io}{w0 w:World}{σ:St N}{E:Env}{a:Act}(hr:RelE io w0 σ E a w){t ty el:TypeId}{e:Ty}(hτ:τ t=some ⟨.sl e,el⟩)
  {v:Value} {n:Nat} {cells:List Value} (hown:w.ownsRow 0 el (N.sz e) v n cells) {ys:List (e.den N.ρ)} {bs:List Nat} {x:Value} {cs:List Value} (hx:Rep w (okb w.heap.size σ.own E bs) (.sl e) ys cs) (hxv:cs=[x]) (hlim:n+ys.length<=lim):
  ∃v' w' news,(Builtin.append_ #[t,t] ty #[v,x]).run P w=.ok v' w'/\w'.ownsRow 0 el (N.sz e) v' (n+ys.length) (cells++news)/\w.grownBy w' (q0j v)/\(∀g,q0j v'=some g->(q0j v=some g\/w.heap.size<=g)/\g<w'.heap.size)/\
   q6v (Rep w (okb w.heap.size σ.own E bs) e) ys news:=by
 obtain⟨u1,⟨e',u2⟩,_⟩:=F.sl t e el hτ
 obtain⟨i,z,zc,i1,i2,i3,i4,i5,i6,i7⟩:=F.info u2
 have hpos:=F.pos u2
 have hz:z.cells.size=N.sz e:=by
  have:=q05 (i7 w (fun _=>True))
  rw[i5]
  simpa using this
 obtain⟨A,cap,c1,c2,c2',c3⟩:=hx
 rw[hxv]at c1
 have c5:x=.slice A ys.length cap:=(List.cons.inj c1).1
 have hblk:v.ownBlock=q0j v:=by
  rcases hown.2 with⟨rfl,_⟩|⟨g,cap,cur,rfl,_⟩<;>rfl
 have hin:∀(v':Value) (w':World) m ds,w'.ownsRow 0 el (N.sz e) v' m ds->∀g,q0j v'=some g->g<w'.heap.size:=by
  intro v' w' m ds ho g hg
  rcases ho.2 with⟨rfl,_⟩|⟨g',cap,cur,rfl,_,hg',_⟩
  ·cases hg
  ·cases hg
   exact(Array.getElem?_eq_some_iff.1 hg').1
 cases A with
 | none=>
  have hy:ys=[]:=List.eq_nil_of_length_eq_zero (by have:=c2' rfl;omega)
  subst hy
  have hnc:∃base n' cap',v=.slice base n' cap'/\n'<=cap':=by
   rcases hown.2 with⟨rfl,_⟩|⟨g,cap,cur,rfl,_,_,h,_⟩
   ·exact⟨none,0,0,rfl,nR _⟩
   ·exact⟨_,n,cap,rfl,h⟩
  obtain⟨base,n',cap',rfl,hnc⟩:=hnc
  refine⟨_,w,[],by rw[c5];exact qfw t ty el w u1 i i1 base n' cap' hnc cap,by simpa using hown,⟨rfl,rfl,rfl,nR _,fun _ _ _=>rfl⟩,fun g hg=>⟨.inl hg,hin _ _ _ _ hown g hg⟩,rfl⟩
 | some ad=>
  obtain⟨news,n1,n2⟩:=qmw (A:=ad) ys 0 (fun i y hy=>by
   obtain⟨ad',ccs,d1,d2,d3,d4⟩:=c3 i y hy
   cases d1
   exact⟨ccs,d3,fun j u hu=>by rw[Nat.zero_add];exact d4 j u hu⟩)
  have hnl:=q17 (fun x cs hx=>q05 hx) n1
  have hb:(n+ys.length)*i.bytes<=140737488355328:=by
   calc(n+ys.length)*i.bytes<=4294967296*32768:=Nat.mul_le_mul hlim i4
    _<=140737488355328:=by decide
  obtain⟨v',w',r1,r2,r3,r4,r5⟩:=run_append_own_at (P:=P) w 0 t ty el i z (N.sz e) i.bytes u1 i1 i2 i3 rfl hz hpos v n cells hown ad ys.length cap news hnl (fun j u hu=>by have:=n2 j u hu;simpa using this) (qdm n1)
   (by unfold lim at hlim;simp only[maxLen];omega) hb (Nat.zero_le _)
  have hblk':v'.ownBlock=q0j v':=by
   rcases r2.2 with⟨rfl,_⟩|⟨g,cap,cur,rfl,_⟩<;>rfl
  refine⟨v',w',news,by rw[c5];exact r1,r2,by rw[<-hblk];exact r3,fun g hg=>⟨?_,hin _ _ _ _ r2 g hg⟩,n1⟩
  rw[hblk',hblk]at r5
  rcases r5 with r5|r5
  ·exact .inl (by rw[<-r5];exact hg)
  ·rw[hg]at r5
   cases r5
   exact .inr (nR _)
end Go.Eng

set_option linter.unusedVariables false
set_option linter.unusedSimpArgs false
namespace Go.Eng
variable {N:Names} {P:Program} {τ:TypeId->Option TI} {β:Type}
open Lib in
theorem qcf (w:World)(t u ty e:TypeId)(i:TypeInfo)(z:Value)(ht:P.underlying t=some (.slice e))(hu:P.underlying u=some .string)(hi:P.info? e=some i)(hz:i.zero=some z)(hz1:z.cells.size=1)
  (hsize:i.size=1) (v:Value) (n:Nat) (xs:List Value) (hown:w.ownsRow 0 e 1 v n xs) (s:ByteArray)
  (h63:n+s.size<=maxLen) (hbytes:(n+s.size)*i.bytes<=140737488355328):
  ∃v' w',(Builtin.append_ #[t,u] ty #[v,.string s]).run P w=.ok v' w'/\w'.ownsRow 0 e 1 v' (n+s.size) (xs++strCells s)/\w.grownBy w' v.ownBlock/\(v'.ownBlock=v.ownBlock\/v'.ownBlock=some w.heap.size):=by
 have hsmall:n+s.size<=9223372036854775807:=by simp only[maxLen]at h63;omega
 have hxl:xs.length=n:=by simpa using hown.1
 have hlen:(xs++strCells s).length=(n+s.size)*1:=by rw[lA,hxl,strCells_length,Nat.mul_one]
 have grown:∀(old:Nat),old<n+s.size->∀(row:Option Nat),
   (w.drew.alloc (.cells (xs.toArray++(strCells s).toArray++Builtin.zeroCells z.cells (grownCap w (n+s.size) old e-(n+s.size))) e)).ownsRow 0 e 1
    (.slice (some ⟨w.heap.size,0,none⟩) (n+s.size) (grownCap w (n+s.size) old e)) (n+s.size) (xs++strCells s)/\
   w.grownBy (w.drew.alloc (.cells (xs.toArray++(strCells s).toArray++Builtin.zeroCells z.cells (grownCap w (n+s.size) old e-(n+s.size))) e)) row:=by
  intro old ho row
  have hge:=grownCap_ge w (n+s.size) old e
  have hcm:grownCap w (n+s.size) old e<=maxLen:=grownCap_le_maxLen w (n+s.size) old e h63
  refine⟨⟨hlen,.inr ⟨w.heap.size,_,_,rfl,Nat.zero_le _,heap_alloc_new w.drew _,hge,hcm,?_,?_⟩⟩,⟨rfl,rfl,rfl,by simp,fun k hk _=>RowKit.Below.heap_alloc w.drew _ k hk⟩⟩
  ·simp only[Array.size_append,List.size_toArray,size_zeroCells,hz1,hxl,strCells_length]
   omega
  ·simp only[Array.toList_append,aA]
   rw[<-aA,<-hlen]
   exact List.take_left
 rcases hown.2 with⟨rfl,rfl⟩|⟨g,cap,cur,rfl,hbg,hg,hnc,hcm,hcs,htake⟩
 ·have hx:xs=[]:=List.eq_nil_of_length_eq_zero hxl
  subst hx
  by_cases hm:s.size=0
  ·have hn:strCells s=[]:=List.eq_nil_of_length_eq_zero (by rw[strCells_length];exact hm)
   refine⟨.slice none 0 0,w,?_,by rw[hm,hn];exact World.ownsRow_nil w 0 e 1,⟨rfl,rfl,rfl,nR _,fun _ _ _=>rfl⟩,.inl rfl⟩
   have hf:=run_firstCells_string (P:=P) w 1 s
   rw[hm]at hf
   simp[Builtin.append_,run_underlying ht,run_underlying hu,sizeOf,typeInfo,hi,hsize,Builtin.lenOf,hm,hf]
  ·have hr:=run_append_nil_string (P:=P) w t u ty e i z ht hu hi hz s (by omega) (by omega) (by have h:=hbytes;simp only[Nat.zero_add]at h;omega)
   have hgr:=grown 0 (by omega) (Value.ownBlock (.slice none 0 0))
   simp only[Nat.zero_add,List.nil_append,Array.empty_append]at hgr ⊢
   have e1:(s.data.map fun b=>Value.int .u8 b.toNat)=(strCells s).toArray:=by
    apply Array.ext'
    simp[strCells]
   rw[e1]at hr
   exact⟨_,_,hr,hgr.1,hgr.2,.inr rfl⟩
 ·by_cases hroom:n+s.size<=cap
  ·have hcs':cur.size=cap:=by simpa using hcs
   have hr:=run_append_room_string (P:=P) w t u ty e i ht hu hi hsize g n cap cur hg s hroom (by omega)
   refine⟨_,_,hr,⟨hlen,.inr ⟨g,cap,_,rfl,hbg,setRow_heap w g cur _ e _ hg,hroom,hcm,?_,?_⟩⟩,⟨rfl,rfl,rfl,by simp,fun k _ hk=>setRow_other w g k _ (fun e=>hk (by simp[Value.ownBlock,e]))⟩,.inl rfl⟩
   ·simp only[List.size_toArray,lA,lT,lD,Array.length_toList,strCells_length]
    omega
   ·have ht':cur.toList.take n=xs:=by simpa using htake
    rw[ht',<-hlen]
    exact List.take_left
  ·have holds:∀j u,xs[j]?=some u->w.cell? ((⟨g,0,none⟩:Addr).add j)=some u:=hown.cells (g:=g) rfl
   have hr:=run_append_grow_string (P:=P) w t u ty e i z ht hu hi hz ⟨g,0,none⟩ n cap xs (by rw[hsize];simpa using hxl) holds s (by omega) (by omega) (growslice_fits (by omega) hbytes)
   have hgr:=grown cap (by omega) (Value.ownBlock (.slice (some ⟨g,0,none⟩) n cap))
   exact⟨_,_,hr,hgr.1,hgr.2,.inr rfl⟩
def q7m (τ:TypeId->Option TI)(own:List (Nat×Blk N))(t t2:TypeId)(e:Ty)(x:RV N):Option (List (e.den N.ρ)×List Nat):=
 bif t==t2 then toDen own (.sl e) x else match τ t2 with
  |some ⟨.str,_⟩=>match x with
   |.str l=>(q0u N (.sl (.int .u8)) (.sl e) l).map fun y=>(y,[])
   |_=>none
  |_=>none
theorem qb3 (F:Fits P N τ){io:Io}{w0 w:World}{σ:St N}{E:Env}{a:Act}(hr:RelE io w0 σ E a w){t t2 ty el:TypeId}{e:Ty}(hτ:τ t=some ⟨.sl e,el⟩)
  {v:Value} {n:Nat} {cells:List Value} (hown:w.ownsRow 0 el (N.sz e) v n cells) {ys:List (e.den N.ρ)} {bs:List Nat} {x:Operand} (hx:q7m τ σ.own t t2 e (ev σ x)=some (ys,bs)) (hlim:n+ys.length<=lim):
  ∃v' w' news,(Builtin.append_ #[t,t2] ty #[v,a.eval x]).run P w=.ok v' w'/\w'.ownsRow 0 el (N.sz e) v' (n+ys.length) (cells++news)/\w.grownBy w' (q0j v)/\(∀g,q0j v'=some g->(q0j v=some g\/w.heap.size<=g)/\g<w'.heap.size)/\
   q6v (Rep w (okb w.heap.size σ.own E bs) e) ys news:=by
 unfold q7m at hx
 cases htt:(t==t2)with
 |true=>
  rw[htt]at hx
  have:t=t2:=by simpa using htt
  subst this
  obtain⟨cs,h1,h2⟩:=hr.toDen hx (hr.ev x)
  exact qj4 F hr hτ hown h1 h2 hlim
 | false=>
  rw[htt]at hx
  simp only[cF]at hx
  split at hx
  ·rename_i e2 hτ2
   split at hx
   ·rename_i l hl
    obtain⟨y,hy,hp⟩:=Option.map_eq_some_iff.1 hx
    cases hp
    obtain⟨et,rfl⟩:=q0b hy
    cases et
    have hx':=hr.ev x
    rw[hl]at hx'
    obtain⟨s,k1,k2⟩:=hx'
    subst k2
    obtain⟨u1,⟨e',u2⟩,_⟩:=F.sl t _ el hτ
    obtain⟨i,z,zc,i1,i2,i3,i4,i5,i6,i7⟩:=F.info u2
    have hz:z.cells.size=1:=by
     have:=q05 (i7 w (fun _=>True))
     rw[i5]
     simpa[Names.sz]using this
    have hlim':n+s.size<=lim:=by
     have:(q0o s).length=s.size:=q0r s
     have h':n+(q0o s).length<=lim:=hlim
     omega
    have hb:(n+s.size)*i.bytes<=140737488355328:=by
     calc(n+s.size)*i.bytes<=4294967296*32768:=Nat.mul_le_mul hlim' i4
      _<=140737488355328:=by decide
    obtain⟨v',w',r1,r2,r3,r5⟩:=qcf (P:=P) w t t2 ty el i z u1 (F.str t2 e2 hτ2).1 i1 i2 hz i3 v n cells hown s (by unfold lim at hlim';simp only[maxLen];omega) hb
    have hblk:v.ownBlock=q0j v:=by
     rcases hown.2 with⟨rfl,_⟩|⟨g,cap,cur,rfl,_⟩<;>rfl
    have hblk':v'.ownBlock=q0j v':=by
     rcases r2.2 with⟨rfl,_⟩|⟨g,cap,cur,rfl,_⟩<;>rfl
    have hrow:q6v (Rep (N:=N) w (okb w.heap.size σ.own E []) (.int .u8)) (q0o s) (Lib.strCells s):=by
     unfold q0o Lib.strCells
     generalize s.data.toList=l
     induction l with
     |nil=>rfl
     |cons b l ih=>exact⟨[.int .u8 b.toNat],_,rfl,rfl,ih⟩
    refine⟨v',w',Lib.strCells s,by rw[k1];exact r1,?_,by rw[<-hblk];exact r3,fun g hg=>⟨?_,?_⟩,hrow⟩
    ·show w'.ownsRow 0 el 1 v' (n+(q0o s).length) _
     rw[q0r]
     exact r2
    ·rw[hblk',hblk]at r5
     rcases r5 with r5|r5
     ·exact .inl (by rw[<-r5];exact hg)
     ·rw[hg]at r5
      cases r5
      exact .inr (nR _)
    ·rcases r2.2 with⟨rfl,_⟩|⟨g',cap,cur,rfl,_,hg',_⟩
     ·cases hg
     ·cases hg
      exact(Array.getElem?_eq_some_iff.1 hg').1
   ·cases hx
  ·cases hx
def qs7 (P:Program)(σ:St N)(run:Act->Sem Value)(s:Slot N)(σ':St N):Prop:=
 ∀io w0 E a w,RelE io w0 σ E a w->∃v w' E',(run a).run P w=.ok v w'/\RelE io w0 σ' E' a w'/\q43 w' σ'.own E' s v
def noBs (own:List (Nat×Blk N))(id:Nat):Bool:=
 own.all fun p=>p.1==id||match p.2 with
  |.cells _=>true
  |.vals _ _=>true
  |b=>!b.bs.contains id
def qdg (own:List (Nat×Blk N))(id:Nat):Bool:=
 own.all fun p=>p.1==id||!p.2.bs.contains id
theorem qum {own:List (Nat×Blk N)}{id:Nat}(h:noBs own id=true):∀j bj,look own j=some bj->j≠id->bj.loc\/id∉bj.bs:=by
 intro j bj hj hne
 have:=List.all_eq_true.1 h _ (q3t hj)
 simp only[Bool.or_eq_true,beq_iff_eq,hne,false_or]at this
 cases bj with
 |cells l=>exact .inl (.inl ⟨l,rfl⟩)
 |vals n l=>exact .inl (.inr ⟨n,l,rfl⟩)
 |mapB kt vt es=>exact .inr (fun hm=>by cases hm)
 |row e t xs bs p=>exact .inr (fun hm=>by simp[Blk.bs]at this;exact this hm)
 |whole t x bs=>exact .inr (fun hm=>by simp[Blk.bs]at this;exact this hm)
theorem q2v {own:List (Nat×Blk N)}{id:Nat}(h:qdg own id=true):∀j bj,look own j=some bj->j≠id->id∉bj.bs:=by
 intro j bj hj hne hm
 have:=List.all_eq_true.1 h _ (q3t hj)
 simp only[Bool.or_eq_true,beq_iff_eq,hne,false_or]at this
 rw[List.contains_iff_mem.2 hm]at this
 cases this
def q4l (bs:List Nat):List Nat->List Nat
 |[]=>bs
 |j::r=>bif bs.contains j then q4l bs r else q4l (bs++[j]) r
theorem q15 {i:Nat}:∀{bs b:List Nat},i∈q4l bs b<->i∈bs\/i∈b
 |bs,[]=>by simp[q4l]
 | bs,j::r=>by
  unfold q4l
  cases h:bs.contains j with
  | true=>
   have hj:j∈bs:=List.contains_iff_mem.1 h
   rw[cT,q15,List.mem_cons]
   constructor
   ·rintro(h1|h1)
    ·exact .inl h1
    ·exact .inr (.inr h1)
   ·rintro(h1|h1|h1)
    ·exact .inl h1
    ·exact .inl (h1▸hj)
    ·exact .inr h1
  | false=>
   rw[cF,q15,mA,List.mem_singleton,List.mem_cons]
   constructor
   ·rintro((h1|h1)|h1)
    ·exact .inl h1
    ·exact .inr (.inl h1)
    ·exact .inr (.inr h1)
   ·rintro(h1|h1|h1)
    ·exact .inl (.inl h1)
    ·exact .inl (.inr h1)
    ·exact .inr h1
def qdq (τ:TypeId->Option TI)(σ:St N)(t t2:TypeId)(dst:Option Nat)(s x:RV N)(k:Slot N->St N->Option β):Option β:=
 match dst with
 |none=>none
 | some d=>match τ t with
  | some ⟨.sl e,el⟩=>match q7m τ σ.own t t2 e x with
   |none=>none
   | some (ys,b)=>match s with
    |.nil=>match look σ.own (1000+d)with
     |some _=>none
     |none=>if ys.length<=lim then k (.one (.own (1000+d))) {σ with own:=ins (1000+d) (.row el e ys b false) σ.own}else none
    | .own id=>match look σ.own id with
     | some (.row el' e' xs bs false)=>bif eqB el' el&&!(q4l bs b).contains id&&noBs σ.own id then match q0u N (.sl e') (.sl e) xs,look (del id σ.own) (1000+d)with
      | some xs,none=>if xs.length+ys.length<=lim then
        k (.one (.own (1000+d))) {regs:=σ.regs.map (Slot.map (qkt id)),own:=ins (1000+d) (.row el e (xs++ys) (q4l bs b) false) (del id (q59 (q6b id) σ.own))}
       else none
      |_,_=>none
      else none
     |_=>none
    |_=>none
  |_=>none
theorem qrb {H H':Nat}{own:List (Nat×Blk N)}{E:Env}{id nid:Nat}{b b':Blk N}{V:Value}(hH:H<=H')(hb:look own id=some b)(hV1:∀g,q0j V=some g->q0j (E id)=some g\/H<=g){bs:List Nat}(hbs:id∉bs){g:Nat}
  (hg:okb H own E bs g):okb H' (ins nid b' (del id (q59 (q6b id) own))) (qa7 E nid V) bs g:=by
 refine⟨⟨Nat.lt_of_lt_of_le hg.1.1 hH,hg.1.2⟩,fun j hj hjb=>?_⟩
 rw[q08,q1h,q4q]at hj
 by_cases hjn:nid=j
 ·subst hjn
  rw[q06]
  intro hgv
  rcases hV1 g hgv with h3|h3
  ·exact hg.2 id (by rw[hb];rfl) hbs h3
  ·have:=hg.1.1
   omega
 ·rw[q13 _ _ (Ne.symm hjn)]
  rw[if_neg hjn]at hj
  by_cases hji:id=j
  ·rw[if_pos hji]at hj;cases hj
  ·rw[if_neg hji]at hj
   refine hg.2 j ?_ hjb
   cases hl:look own j with
   |none=>rw[hl]at hj;cases hj
   |some _=>rfl
theorem qgf (F:Fits P N τ){σ:St N}{t t2 ty:TypeId}{dst:Option Nat}{s x:Operand}{k:Slot N->St N->Option β}{r:β}(h:qdq τ σ t t2 dst (ev σ s) (ev σ x) k=some r):
  ∃sl σ',k sl σ'=some r/\qs7 P σ (fun a=>Builtin.append_ #[t,t2] ty #[a.eval s,a.eval x]) sl σ':=by
 unfold qdq at h
 split at h
 ·cases h
 ·rename_i d
  split at h
  ·rename_i e el hτ
   split at h
   ·cases h
   ·rename_i ys b hx
    split at h
    ·rename_i hs
     split at h
     ·cases h
     ·rename_i hl
      split at h
      ·rename_i hlim
       refine⟨_,_,h,fun io w0 E a w hr=>?_⟩
       have hs':=hr.ev s
       rw[hs]at hs'
       have hv:a.eval s=.slice none 0 0:=hs'
       obtain⟨v',w',news,r1,r2,r3,r4,r5⟩:=qb3 F (ty:=ty) hr hτ (v:=.slice none 0 0) (n:=0) (cells:=[]) ⟨by simp,.inl ⟨rfl,rfl⟩⟩ hx (by omega)
       have he:Ext w w':=Ext.grown r3
       rw[Nat.zero_add,List.nil_append]at r2
       have hV:∀g,q0j v'=some g->w.heap.size<=g/\g<w'.heap.size:=fun g hg=>by
        obtain⟨q1,q2⟩:=r4 g hg
        rcases q1 with q1|q1
        ·cases q1
        ·exact⟨q1,q2⟩
       have hadd:=hr.add he (V:=v') (b:=.row el e ys b false) hl hV ⟨news,by rw[q06];exact .of (F.small2 hτ) r2,q0p (fun x cs hx=>qhk he (fun g hg=>(hV g hg).1) hx) r5⟩
       exact⟨v',w',_,by show(Builtin.append_ #[t,t2] ty #[a.eval s,a.eval x]).run P w=_;rw[hv];exact r1,hadd,(q06 _ _ _).symm,ys.length,e,el,ys,b,false,by rw[q08,if_pos rfl],rfl⟩
      ·cases h
    ·rename_i id hs
     split at h
     ·rename_i el' e' xs bs hl
      obtain⟨hc,h2⟩:=q02 h
      clear h
      simp only[Bool.and_eq_true,beq_iff_eq,Bool.not_eq_true']at hc
      obtain⟨⟨hel,hcon⟩,hno⟩:=hc
      obtain⟨hel,hlt⟩:=q5y hel
      subst hel
      split at h2
      ·rename_i xs' hxs hfresh
       obtain⟨et,rfl⟩:=q0b hxs
       cases et
       split at h2
       ·rename_i hlim
        refine⟨_,_,h2,fun io w0 E a w hr=>?_⟩
        have hs':=hr.ev s
        rw[hs]at hs'
        have hv:a.eval s=E id:=hs'.1
        obtain⟨cells,c1,c2⟩:=hr.own id _ hl
        obtain⟨v',w',news,r1,r2,r3,r4,r5⟩:=qb3 F (ty:=ty) hr hτ (c1.strict hlt) hx hlim
        have hnot:=q07 hcon
        have hn1:id∉bs:=fun hm=>hnot (q15.2 (.inl hm))
        have hn2:id∉b:=fun hm=>hnot (q15.2 (.inr hm))
        have hV1:∀g,q0j v'=some g->q0j (E id)=some g\/w.heap.size<=g:=fun g hg=>(r4 g hg).1
        have tr:∀bs0,id∉bs0->(∀i∈bs0,i∈q4l bs b)->∀(x:e.den N.ρ) cs,Rep w (okb w.heap.size σ.own E bs0) e x cs->
          Rep w' (okb w'.heap.size (ins (1000+d) (.row el' e (xs++ys) (q4l bs b) false) (del id (q59 (q6b id) σ.own))) (qa7 E (1000+d) v') (q4l bs b)) e x cs:=by
         intro bs0 h0 hsub x cs hx
         exact q09 (fun a u hb hc=>q2c r3 (hb.2 id (by rw[hl];rfl) h0) hc)
          (fun g hg=>q54 hsub (qrb r3.size hl hV1 h0 hg)) hx
        have hrep:=hr.replace hl r3 r4 hfresh rfl (b':=.row el' e (xs++ys) (q4l bs b) false) (qum hno) ⟨cells++news,by rw[q06,lA];exact .of (F.small2 hτ) r2,
         q5b (q0p (tr bs hn1 (fun i hi=>q15.2 (.inl hi))) c2) (q0p (tr b hn2 (fun i hi=>q15.2 (.inr hi))) r5)⟩
        exact⟨v',w',_,by show(Builtin.append_ #[t,t2] ty #[a.eval s,a.eval x]).run P w=_;rw[hv];exact r1,hrep,(q06 _ _ _).symm,_,e,el',xs++ys,q4l bs b,false,by rw[q08,if_pos rfl],rfl⟩
       ·cases h2
      ·cases h2
     ·cases h
    ·cases h
  ·cases h
def qdo (τ:TypeId->Option TI)(t:TypeId):Option TypeId:=match τ t with
 |some ⟨.sl (.int .u8),el⟩=>some el
 |_=>none
def q9e (τ:TypeId->Option TI)(σ:St N)(src t:TypeId)(dst:Option Nat)(x:RV N)(k:KK N β):Option β:=
 match dst with
 |none=>q1y τ σ.own src t x k
 | some d=>match qdo τ t with
  |none=>q1y τ σ.own src t x k
  | some el=>match x with
   |.str l=>match look σ.own (1000+d)with
    |some _=>none
    |none=>bif qub (τ src)then if l.length<=lim then k (.one (.own (1000+d))) [(1000+d,.row (el+qgb) (.int .u8) l [] false)]else none else none
   |x=>q1y τ σ.own src t x k
theorem qac {t:TypeId}{el:TypeId}(h:qdo τ t=some el):τ t=some ⟨.sl (.int .u8),el⟩:=by
 unfold qdo at h
 split at h
 ·rename_i e hτ
  cases h
  exact hτ
 ·cases h
theorem qk9 (F:Fits P N τ){σ:St N}{src t:TypeId}{dst:Option Nat}{x:Operand}{k:KK N β}{r:β}(h:q9e τ σ src t dst (ev σ x) k=some r):
  ∃s ad,k s ad=some r/\q2n P σ (fun a=>convert src t (a.eval x)) s ad:=by
 unfold q9e at h
 split at h
 ·exact q5f F h
 ·rename_i d
  split at h
  ·exact q5f F h
  ·rename_i el hel
   have hτ:=qac hel
   split at h
   ·rename_i l hx
    split at h
    ·cases h
    ·rename_i hl
     obtain⟨hsrc,h⟩:=q02 h
     split at h
     ·rename_i hlim
      refine⟨_,_,h,q2n.row hl fun io w0 E a w hr=>?_⟩
      obtain⟨ti,hti⟩:∃ti,τ src=some ti:=by
       cases hs:τ src with
       |none=>rw[hs]at hsrc;cases hsrc
       |some ti=>exact⟨ti,rfl⟩
      obtain⟨dsc,hd⟩:=F.under hti
      have hx':=hr.ev x
      rw[hx]at hx'
      obtain⟨s,k1,k2⟩:=hx'
      obtain⟨u1,⟨e2,u2⟩,_⟩:=F.sl t _ el hτ
      have he:=(F.int el .u8 e2 u2).1
      have hrun:=Lib.run_convert_string_bytes (P:=P) w src t el s hd u1 he
      have hext:Ext w (Lib.bytesWorld w el s):=⟨rfl,rfl,rfl,by simp[Lib.bytesWorld,World.freeze,World.alloc,World.drew,-World.alloc_eq,-World.drew_eq],fun g hg=>Lib.bytesWorld_at_old w el s g hg⟩
      have hsz:s.size=l.length:=by rw[<-k2,q0r]
      have hge:=grownCap_ge w s.size 0 el
      have hm:s.size<=maxLen:=by rw[hsz];unfold lim at hlim;simp only[maxLen];omega
      have hcm:=grownCap_le_maxLen w s.size 0 el hm
      have hcs:(Lib.bytesCells w el s).size=grownCap w s.size 0 el:=by
       have:s.data.size=s.size:=rfl
       simp only[Lib.bytesCells,Array.size_append,Array.size_map,Array.size_replicate]
       omega
      have h1:N.sz (.int .u8)=1:=rfl
      refine⟨_,Lib.bytesWorld w el s,Lib.strCells s,by rw[k1];exact hrun,hext,(fun g hg=>by cases hg;exact nR _),⟨?_,.inr ⟨w.heap.size,grownCap w s.size 0 el,Lib.bytesCells w el s,el,((Lib.bytesCells w el s).size,(Lib.bytesCells w el s).size+1),by rw[hsz],Lib.bytesWorld_at_new w el s,.inr ⟨Nat.le_add_left _ _,nR _⟩,⟨fun hlt=>absurd hlt (Nat.not_lt.2 (Nat.le_add_left _ _)),fun h2=>absurd (F.small _ _ _ (qac hel)) (Nat.not_lt.2 (Nat.le_of_add_le_add_right (by rw[Nat.two_mul]at h2;exact h2)))⟩,by omega,hcm,by rw[hcs,h1,Nat.mul_one],?_⟩⟩,?_⟩
      ·rw[Lib.strCells_length,h1,hsz,Nat.mul_one]
      ·rw[h1,Nat.mul_one,<-hsz]
       unfold Lib.bytesCells Lib.strCells
       rw[Array.toList_append,Array.toList_map]
       rw[List.take_append_of_le_length (by rw[List.length_map,Array.length_toList];exact nR _)]
       exact tL (by rw[List.length_map,Array.length_toList];exact nR _)
      ·rw[<-k2]
       unfold q0o Lib.strCells
       generalize s.data.toList=l
       induction l with
       |nil=>rfl
       |cons b l ih=>exact⟨[.int .u8 b.toNat],_,rfl,rfl,ih⟩
     ·cases h
   ·exact q5f F h
end Go.Eng

set_option linter.unusedVariables false
set_option linter.unusedSimpArgs false
namespace Go.Eng
variable {N:Names} {P:Program} {τ:TypeId->Option TI} {β:Type}
def z10f (P:Program)(σ:St N)(run:Act->Sem Unit)(σ':St N):Prop:=
 ∀io w0 E a w,RelE io w0 σ E a w->∃w' E',(run a).run P w=.ok () w'/\RelE io w0 σ' E' a w'
def qc0 (τ:TypeId->Option TI)(σ:St N)(t:TypeId)(addr v:RV N)(k:St N->Option β):Option β:=
 match τ t with
 |none=>none
 | some ⟨tv,_⟩=>match addr with
  | .optr id i off=>match look σ.own id with
   | some (.row e ty xs bs p)=>match toDen σ.own tv v with
    | some (y,b)=>bif qdg σ.own id&&!(q4l bs b).contains id then match qlx ⟨tv,y⟩ 8 ty (xs.getD i (N.dflt ty)) off with
     |some x'=>k {regs:=σ.regs.map (Slot.map (q7q id)),own:=ins id (.row e ty (xs.set i x') (q4l bs b) p) σ.own}
     |none=>match qj5 tv y e ty i off with
      |some l=>k {regs:=σ.regs.map (Slot.map (q7q id)),own:=ins id (.row e ty l (q4l bs b) p) σ.own}
      |none=>none
     else none
    |none=>none
   |_=>none
  | .bptr id off=>match look σ.own id with
   | some (.whole tb x bs)=>bif qc5 v||qcy v||isMp v then match expl bs 8 tb x,q1d σ.own tv v with
     | some l,some vs=>bif qdg σ.own id&&!(Blk.cells (l.take off++vs++l.drop (off+vs.length))).bs.contains id&&Nat.ble (off+vs.length) l.length then
       k {regs:=σ.regs.map (Slot.map (q7q id)),own:=ins id (.cells (l.take off++vs++l.drop (off+vs.length))) σ.own}
      else none
     |_,_=>none
    else match toDen σ.own tv v with
     |some (y,b)=>bif qdg σ.own id&&!(q4l bs b).contains id then match qlx ⟨tv,y⟩ 8 tb x off with
      |some x'=>k {regs:=σ.regs.map (Slot.map (q7q id)),own:=ins id (.whole tb x' (q4l bs b)) σ.own}
      |none=>none
      else none
     |none=>none
   | some (.cells l)=>match q1d σ.own tv v with
    | some vs=>bif qdg σ.own id&&!(Blk.cells (l.take off++vs++l.drop (off+vs.length))).bs.contains id&&Nat.ble (off+vs.length) l.length then
      k {regs:=σ.regs.map (Slot.map (q7q id)),own:=ins id (.cells (l.take off++vs++l.drop (off+vs.length))) σ.own}
     else none
    |none=>none
   |_=>none
  |_=>none
theorem q90 {H H':Nat}{own:List (Nat×Blk N)}{E:Env}{id:Nat}{b b':Blk N}(hH:H<=H')(hb:look own id=some b){bs:List Nat}{g:Nat}(hg:okb H own E bs g):okb H' (ins id b' own) E bs g:=by
 refine⟨⟨Nat.lt_of_lt_of_le hg.1.1 hH,hg.1.2⟩,fun j hj hjb=>hg.2 j ?_ hjb⟩
 rw[q08]at hj
 by_cases h:id=j
 ·subst h;rw[hb];rfl
 ·rw[if_neg h]at hj;exact hj
theorem qg2 {cs vs:List Value}{o m:Nat}(h:o+vs.length<=m):(q0g cs o vs).take m=q0g (cs.take m) o vs:=by
 unfold q0g
 by_cases hm:m<=cs.length
 ·rw[List.take_append,List.take_append,List.take_take,lT,lA,lT]
  rw[List.drop_take]
  have h1:vs.take (m-min o cs.length)=vs:=tL (by omega)
  rw[h1,show m-(min o cs.length+vs.length)=m-(o+vs.length)from by omega]
  congr 2
  rw[List.take_take,Nat.min_comm]
 ·have h1:cs.take m=cs:=tL (by omega)
  rw[h1]
  apply tL
  simp only[lA,lT,lD]
  omega
theorem q1v {arr:Array Value}{o:Nat}{vs:List Value}(h:o+vs.length<=arr.size):(q0g arr.toList o vs).toArray.size=arr.size:=by
 have:=q7g (cs:=arr.toList) (vs:=vs) (off:=o) (by simpa using h)
 simpa using this
theorem qrs {arr:Array Value}{o:Nat}{vs:List Value}(h:o+vs.length<=arr.size)(i:Nat):(q0g arr.toList o vs).toArray[i]?=if i<o then arr[i]? else if i<o+vs.length then vs[i-o]? else arr[i]?:=by
 have ho:(arr.toList.take o).length=o:=by simp;omega
 rw[List.getElem?_toArray]
 unfold q0g
 by_cases h1:i<o
 ·rw[if_pos h1,aA,List.getElem?_append_left (by omega),List.getElem?_take,if_pos h1]
  simp
 ·rw[if_neg h1,aA,List.getElem?_append_right (by omega),ho]
  by_cases h2:i<o+vs.length
  ·rw[if_pos h2,List.getElem?_append_left (by omega)]
  ·rw[if_neg h2,List.getElem?_append_right (by omega),List.getElem?_drop]
   rw[show o+vs.length+(i-o-vs.length)=i from by omega]
   simp
theorem qgn {β:Type}{l vs:List β}{o:Nat}(h:o+vs.length<=l.length)(i:Nat):(l.take o++vs++l.drop (o+vs.length))[i]?=if i<o then l[i]? else if i<o+vs.length then vs[i-o]? else l[i]?:=by
 have ho:(l.take o).length=o:=by simp;omega
 by_cases h1:i<o
 ·rw[if_pos h1,aA,List.getElem?_append_left (by omega),List.getElem?_take,if_pos h1]
 ·rw[if_neg h1,aA,List.getElem?_append_right (by omega),ho]
  by_cases h2:i<o+vs.length
  ·rw[if_pos h2,List.getElem?_append_left (by omega)]
  ·rw[if_neg h2,List.getElem?_append_right (by omega),List.getElem?_drop]
   rw[show o+vs.length+(i-o-vs.length)=i from by omega]
theorem qg5 (F:Fits P N τ){σ:St N}{t:TypeId}{tv:Ty}{e:TypeId}(hτ:τ t=some ⟨tv,e⟩){ad x:Operand}{id off:Nat}(had:ev σ ad=.bptr id off){b0:Blk N}(hb0:look σ.own id=some b0)
  {l vs:List (RV N)} (hl:∀{io w0 E a w},RelE io w0 σ E a w->q4j w σ.own E id (.cells l)) (hbox:q5r b0 (.cells l)) (hvs:q1d σ.own tv (ev σ x)=some vs)
  (hno:qdg σ.own id=true) (hcon:(Blk.cells (l.take off++vs++l.drop (off+vs.length))).bs.contains id=false) (hlen:off+vs.length<=l.length):
  z10f P σ (fun a=>Instr.storeAt t (a.eval ad) (a.eval x)) {regs:=σ.regs.map (Slot.map (q7q id)),own:=ins id (.cells (l.take off++vs++l.drop (off+vs.length))) σ.own}:=by
 intro io w0 E a w hr
 have had':=hr.ev ad
 rw[had]at had'
 obtain⟨_,g,h2,h3⟩:=had'
 obtain⟨g',T,arr,c1,c2,c3,c4⟩:=hl hr
 rw[h2]at c1
 cases c1
 obtain⟨cs,s1,s2,s3,s4,s5⟩:=q8p hr (hr.ev x) hvs
 have hs:=F.sizeOf hτ w
 have hst:=run_storeCells_at P g off T cs 0 arr w c2 (by omega) s4
 simp only[Nat.add_zero]at hst
 have hrun:(Instr.storeAt t (a.eval ad) (a.eval x)).run P w=.ok () (w.setRow g (q0g arr.toList off cs).toArray):=by
  have hsz:(a.eval x).cells.size=N.sz tv:=by rw[<-s3,<-s1];simp
  rw[h3]
  simp only[Instr.storeAt,Instr.sureAddr,storeVar,Sem.run_bind,Sem.run_pure,Result.andThen_ok,hs,s1]
  rw[if_neg (by rw[hsz];simp)]
  exact hst
 have hw:w.grownBy (w.setRow g (q0g arr.toList off cs).toArray) (q0j (E id)):=by rw[h2];exact q3j w g _
 have hlook:look (ins id (Blk.cells (l.take off++vs++l.drop (off+vs.length))) σ.own) id=some (Blk.cells (l.take off++vs++l.drop (off+vs.length))):=by rw[q08,if_pos rfl]
 have hsh:q5r b0 (Blk.cells (l.take off++vs++l.drop (off+vs.length))):=by
  cases b0 with
  |row e t xs bs p=>exact hbox.elim
  |_=>trivial
 have hrv:∀r v,id∉r.bs->q0a w σ.own E r v->q0a (w.setRow g (q0g arr.toList off cs).toArray) (ins id (Blk.cells (l.take off++vs++l.drop (off+vs.length))) σ.own) E r v:=by
  intro r v hbs h
  refine q3c ?_ ?_ (fun j n t _ hj=>⟨qfh hb0 hsh hj,rfl⟩) (fun j _ hj=>⟨qfe hb0 hsh hj,rfl⟩) h
  ·intro bs hbs' a u hb hc
   refine q2c hw (hb.2 id (by rw[hb0];rfl) ?_) hc
   cases r<;>first|exact hbs'.elim|(subst hbs';exact hbs)
  ·intro bs _ g hg
   exact q90 hw.size hb0 hg
 have hst:=hr.store hb0 hsh (fun _=>rfl) hw (q2v hno) ⟨g,T,_,h2,setRow_heap w g arr _ T (0,0) c2,by
  rw[q1v (by omega)]
  simp only[lA,lT,lD]
  omega,fun i r u hi hu=>by
  have hmem:id∉r.bs:=fun hm=>q07 hcon (List.mem_flatMap.2 ⟨r,List.mem_of_getElem? hi,hm⟩)
  rw[qgn hlen]at hi
  rw[qrs (by omega)]at hu
  split at hi
  ·rename_i h5
   rw[if_pos h5]at hu
   exact hrv r u hmem (c4 i r u hi hu)
  ·rename_i h5
   rw[if_neg h5]at hu
   split at hi
   ·rename_i h6
    rw[if_pos (by omega)]at hu
    exact hrv r u hmem (s5 _ r u hi hu)
   ·rename_i h6
    rw[if_neg (by omega)]at hu
    exact hrv r u hmem (c4 i r u hi hu)⟩
 exact⟨_,E,hrun,hst⟩
theorem qi8 (F:Fits P N τ){σ:St N}{t:TypeId}{ad x:Operand}{k:St N->Option β}{r:β}(h:qc0 τ σ t (ev σ ad) (ev σ x) k=some r):
  ∃σ',k σ'=some r/\z10f P σ (fun a=>Instr.storeAt t (a.eval ad) (a.eval x)) σ':=by
 unfold qc0 at h
 split at h
 ·cases h
 ·rename_i tv e hτ
  split at h
  ·rename_i id i off had
   split at h
   ·rename_i e' ty xs bs p hl
    split at h
    ·rename_i y b hy
     obtain⟨hc,h2⟩:=q02 h
     clear h
     simp only[Bool.and_eq_true,Bool.not_eq_true']at hc
     obtain⟨hno,hcon⟩:=hc
     have hnot:=q07 hcon
     have hn1:id∉bs:=fun hm=>hnot (q15.2 (.inl hm))
     have hn2:id∉b:=fun hm=>hnot (q15.2 (.inr hm))
     split at h2
     ·rename_i x' hx'
      refine⟨_,h2,fun io w0 E a w hr=>?_⟩
      have had':=hr.ev ad
      rw[had]at had'
      obtain⟨g,cap,n,t',⟨e2,xs2,bs2,p2,q1,q2⟩,k2,k3,k4⟩:=had'
      rw[hl]at q1
      cases q1
      subst q2
      obtain⟨cells,c1,c2⟩:=hr.own id _ hl
      obtain⟨vs,v1,v2⟩:=hr.toDen hy (hr.ev x)
      rcases c1.2 with⟨hv,hn⟩|⟨g',cap',cur,T0,fz,hv,hg,hfz,hT0,hnc,hcm,hcs,ht⟩
      ·rw[k3]at hv;cases hv
      ·rw[k3]at hv
       simp only[Value.slice.injEq,Option.some.injEq,Addr.mk.injEq]at hv
       obtain⟨⟨rfl,_⟩,_,rfl⟩:=hv
       rw[gQ,gE k2]at hx'
       have hrowlen:=q17 (fun x cs hx=>q05 hx) c2
       -- fits
       obtain⟨ccs,d1,d2,d3⟩:=qdl (fun x cs hx=>q05 hx) c2 i xs[i] (gE k2)
       have hany:∀ccs,Rep w (fun _=>True) ty xs[i] ccs->off+vs.length<=ccs.length:=fun ccs hccs=>
        (qbg (v:=⟨tv,y⟩) (q09 (fun _ _ _ h=>h) (fun _ _=>trivial) v1) 8 ty _ off x' ccs hx' hccs).2
       have hfit1:=hany ccs (q09 (fun _ _ _ h=>h) (fun _ _=>trivial) d1)
       have hccl:=q05 d1
       have hm1:(i+1)*N.sz ty=i*N.sz ty+N.sz ty:=by rw[Nat.add_mul,Nat.one_mul]
       have hfit:i*N.sz ty+off+vs.length<=cur.size:=by
        have h5:cells.length<=cur.size:=by rw[<-ht,lT];simp;omega
        omega
       have hrun:=F.store hτ (w:=w) v1 v2 (g:=g) (off:=i*N.sz ty+off) hg (hfz.imp (fun h=>h) (fun h=>h.2)) hfit
       have hw:w.grownBy (w.setRow g (q0g cur.toList (i*N.sz ty+off) vs).toArray) (q0j (E id)):=by rw[k3];exact q3j w g _
       have tr:∀bs0,id∉bs0->(∀i∈bs0,i∈q4l bs b)->∀(t:Ty) (x:t.den N.ρ) cs,Rep w (okb w.heap.size σ.own E bs0) t x cs->
         Rep (w.setRow g (q0g cur.toList (i*N.sz ty+off) vs).toArray) (okb (w.setRow g (q0g cur.toList (i*N.sz ty+off) vs).toArray).heap.size (ins id (.row e' ty (xs.set i x') (q4l bs b) p) σ.own) E (q4l bs b)) t x cs:=by
        intro bs0 h0 hsub t x cs hx
        exact q09 (fun a u hb hc=>q2c hw (hb.2 id (by rw[hl];rfl) h0) hc) (fun g hg=>q54 hsub (q90 hw.size hl hg)) hx
       have hrow:=q0p (fun x cs hx=>tr bs hn1 (fun i hi=>q15.2 (.inl hi)) ty x cs hx) c2
       have hval:=tr b hn2 (fun i hi=>q15.2 (.inr hi)) tv y vs v1
       obtain⟨u1,u2⟩:=qhl (x':=x') (off:=off) (vs:=vs) (fun x cs hx=>q05 hx) hrow i xs[i] (gE k2) (fun ccs hccs=>qbg (v:=⟨tv,y⟩) hval 8 ty _ off x' ccs hx' hccs)
       have hst:=hr.store hl (b':=.row e' ty (xs.set i x') (q4l bs b) p) ⟨rfl,by simp⟩ (fun h=>h) hw (q2v hno) ⟨q0g cells (i*N.sz ty+off) vs,⟨by rw[q7g u2,List.length_set];exact hrowlen,.inr ⟨g,cap,_,T0,fz,by rw[List.length_set];exact k3,setRow_heap w g cur _ T0 fz hg,hfz.imp (fun h=>h) (fun h=>⟨h.1,by rw[q1v hfit];exact h.2⟩),by rw[List.length_set];exact hT0,by rw[List.length_set];exact hnc,hcm,by rw[q1v hfit];exact hcs,by
        rw[List.length_set]
        show(q0g cur.toList (i*N.sz ty+off) vs).take (xs.length*N.sz ty)=_
        rw[qg2 (by omega),ht]⟩⟩,u1⟩
       exact⟨_,E,by show(Instr.storeAt t (a.eval ad) (a.eval x)).run P w=_;rw[k4];exact hrun,hst⟩
     ·split at h2
      ·rename_i l hsa
       obtain⟨rfl,rfl,len,hlen,rfl,hll,hrowl⟩:=qj6 hsa
       refine⟨_,h2,fun io w0 E a w hr=>?_⟩
       have had':=hr.ev ad
       rw[had]at had'
       obtain⟨g,cap,n,t',⟨e2,xs2,bs2,p2,q1,q2⟩,k2,k3,k4⟩:=had'
       rw[hl]at q1
       cases q1
       subst q2
       obtain⟨cells,c1,c2⟩:=hr.own id _ hl
       obtain⟨vs,v1,v2⟩:=hr.toDen hy (hr.ev x)
       rcases c1.2 with⟨hv,hn⟩|⟨g',cap',cur,T0,fz,hv,hg,hfz,hT0,hnc,hcm,hcs,ht⟩
       ·rw[k3]at hv;cases hv
       ·rw[k3]at hv
        simp only[Value.slice.injEq,Option.some.injEq,Addr.mk.injEq]at hv
        obtain⟨⟨rfl,_⟩,_,rfl⟩:=hv
        obtain⟨t1,t2⟩:=hT0.2 (qbe len)
        have hxl:xs.length=len:=(qj9 t2).symm
        have hvs:=q17 (fun x cs hx=>q05 hx) (hrowl v1)
        have hfit:0+vs.length<=cur.size:=by rw[hvs,hll,hcs,t1,hxl];omega
        have hrun:=F.store hτ (w:=w) v1 v2 (g:=g) (off:=0) hg (hfz.imp (fun h=>h) (fun h=>h.2)) hfit
        have hw:w.grownBy (w.setRow g (q0g cur.toList 0 vs).toArray) (q0j (E id)):=by rw[k3];exact q3j w g _
        have tr:∀bs0,id∉bs0->(∀i∈bs0,i∈q4l bs b)->∀(t:Ty) (x:t.den N.ρ) cs,Rep w (okb w.heap.size σ.own E bs0) t x cs->
          Rep (w.setRow g (q0g cur.toList 0 vs).toArray) (okb (w.setRow g (q0g cur.toList 0 vs).toArray).heap.size (ins id (.row (qhd len) ty l (q4l bs b) p) σ.own) E (q4l bs b)) t x cs:=by
         intro bs0 h0 hsub t x cs hx
         exact q09 (fun a u hb hc=>q2c hw (hb.2 id (by rw[hl];rfl) h0) hc) (fun g hg=>q54 hsub (q90 hw.size hl hg)) hx
        have hval:=tr b hn2 (fun i hi=>q15.2 (.inr hi)) tv y vs v1
        have hsp:q0g cur.toList 0 vs=vs++cur.toList.drop vs.length:=by simp[q0g]
        have hst:=hr.store hl (b':=.row (qhd len) ty l (q4l bs b) p) ⟨rfl,by omega⟩ (fun h=>h) hw (q2v hno) ⟨vs,⟨by rw[hvs],.inr ⟨g,cap,_,T0,fz,by rw[hll,<-hxl];exact k3,setRow_heap w g cur _ T0 fz hg,hfz.imp (fun h=>h) (fun h=>⟨h.1,by rw[q1v hfit];exact h.2⟩),by have h9:=hT0;rw[hxl]at h9;rw[hll];exact h9,by rw[hll,<-hxl];exact hnc,hcm,by rw[q1v hfit];exact hcs,by
         show(q0g cur.toList 0 vs).take (l.length*N.sz ty)=_
         rw[hsp,List.take_append_of_le_length (by omega),tL (by omega)]⟩⟩,hrowl hval⟩
        refine⟨_,E,?_,hst⟩
        show(Instr.storeAt t (a.eval ad) (a.eval x)).run P w=_
        rw[k4,Nat.zero_mul]
        exact hrun
      ·cases h2
    ·cases h
   ·cases h
  ·rename_i id off had
   split at h
   ·rename_i tb xv bs hl
    cases hlo:(qc5 (ev σ x)||qcy (ev σ x)||isMp (ev σ x))with
    | true=>
     rw[hlo]at h
     simp only[cT]at h
     split at h
     ·rename_i l vs hx hvs
      obtain⟨hc,h2⟩:=q02 h
      clear h
      simp only[Bool.and_eq_true,Bool.not_eq_true']at hc
      obtain⟨⟨hno,hcon⟩,hlen⟩:=hc
      exact⟨_,h2,qg5 F hτ had hl (fun hr=>by
       obtain⟨g,T,arr,c1,c2,c3⟩:=hr.own id _ hl
       obtain⟨k1,k2⟩:=qon 8 tb xv l _ hx c3
       exact⟨g,T,arr,c1,c2,by simpa using k1.symm,fun i r u hi hu=>k2 i r u hi (by simpa using hu)⟩) trivial hvs hno hcon (Nat.le_of_ble_eq_true hlen)⟩
     ·cases h
    | false=>
     rw[hlo]at h
     simp only[cF]at h
     split at h
     ·rename_i y b hy
      obtain⟨hc,h2⟩:=q02 h
      clear h
      simp only[Bool.and_eq_true,Bool.not_eq_true']at hc
      obtain⟨hno,hcon⟩:=hc
      have hnot:=q07 hcon
      have hn1:id∉bs:=fun hm=>hnot (q15.2 (.inl hm))
      have hn2:id∉b:=fun hm=>hnot (q15.2 (.inr hm))
      split at h2
      ·rename_i x' hx'
       refine⟨_,h2,fun io w0 E a w hr=>?_⟩
       have had':=hr.ev ad
       rw[had]at had'
       obtain⟨_,g,k2,k3⟩:=had'
       obtain⟨g',T,arr,c1,c2,c3⟩:=hr.own id _ hl
       rw[k2]at c1
       cases c1
       obtain⟨vs,v1,v2⟩:=hr.toDen hy (hr.ev x)
       have hfit1:=(qbg (v:=⟨tv,y⟩) (q09 (fun _ _ _ h=>h) (fun _ _=>trivial) v1) 8 tb _ off x' _ hx' (q09 (ok':=fun _=>True) (fun _ _ _ h=>h) (fun _ _=>trivial) c3)).2
       have hfit:off+vs.length<=arr.size:=by simpa using hfit1
       have hrun:=F.store hτ (w:=w) v1 v2 (g:=g) (off:=off) c2 (.inl rfl) hfit
       have hw:w.grownBy (w.setRow g (q0g arr.toList off vs).toArray) (q0j (E id)):=by rw[k2];exact q3j w g _
       have tr:∀bs0,id∉bs0->(∀i∈bs0,i∈q4l bs b)->∀(t:Ty) (x:t.den N.ρ) cs,Rep w (okb w.heap.size σ.own E bs0) t x cs->
         Rep (w.setRow g (q0g arr.toList off vs).toArray) (okb (w.setRow g (q0g arr.toList off vs).toArray).heap.size (ins id (.whole tb x' (q4l bs b)) σ.own) E (q4l bs b)) t x cs:=by
        intro bs0 h0 hsub t x cs hx
        exact q09 (fun a u hb hc=>q2c hw (hb.2 id (by rw[hl];rfl) h0) hc) (fun g hg=>q54 hsub (q90 hw.size hl hg)) hx
       have hbase:=tr bs hn1 (fun i hi=>q15.2 (.inl hi)) tb xv _ c3
       have hval:=tr b hn2 (fun i hi=>q15.2 (.inr hi)) tv y vs v1
       have hst:=hr.store hl (b':=.whole tb x' (q4l bs b)) trivial (fun h=>h) hw (q2v hno) ⟨g,T,_,k2,setRow_heap w g arr _ T (0,0) c2,(qbg (v:=⟨tv,y⟩) hval 8 tb _ off x' _ hx' hbase).1⟩
       exact⟨_,E,by show(Instr.storeAt t (a.eval ad) (a.eval x)).run P w=_;rw[k3];exact hrun,hst⟩
      ·cases h2
     ·cases h
   ·rename_i l hl
    split at h
    ·rename_i vs hvs
     obtain⟨hc,h2⟩:=q02 h
     clear h
     simp only[Bool.and_eq_true,Bool.not_eq_true']at hc
     obtain⟨⟨hno,hcon⟩,hlen⟩:=hc
     exact⟨_,h2,qg5 F hτ had hl (fun hr=>hr.own id _ hl) trivial hvs hno hcon (Nat.le_of_ble_eq_true hlen)⟩
    ·cases h
   ·cases h
  ·cases h
end Go.Eng

set_option linter.unusedVariables false
set_option linter.unusedSimpArgs false
namespace Go.Eng
variable {N:Names} {P:Program} {τ:TypeId->Option TI} {β:Type}
def qdp {α:Type}(xs ys:List α):List α:=ys.take xs.length++xs.drop ys.length
theorem q25 {α:Type}(xs ys:List α):(qdp xs ys).length=xs.length:=by
 simp only[qdp,lA,lT,lD]
 omega
theorem qx1 {α:Type}(xs ys:List α):qdp xs ys=ys.take (min ys.length xs.length)++xs.drop (min ys.length xs.length):=by
 unfold qdp
 by_cases h:ys.length<=xs.length
 ·rw[Nat.min_eq_left h,tL h,tL (nR _)]
 ·rw[Nat.min_eq_right (by omega),List.drop_eq_nil_of_le (by omega),List.drop_eq_nil_of_le (nR _)]
def qt5 (τ:TypeId->Option TI)(σ:St N)(t t2:TypeId)(x y:RV N)(k:Slot N->St N->Option β):Option β:=
 match τ t with
 | some ⟨.sl e,_⟩=>match x with
  | .own id=>match look σ.own id with
   | some (.row e' ty xs bs p)=>match q0u N (.sl ty) (.sl e) xs,q7m τ σ.own t t2 e y with
    | some xs,some (ys,b)=>bif qdg σ.own id&&!(q4l bs b).contains id then
      k (.one (.int .i64 ((min ys.length xs.length:Nat):Int))) {regs:=σ.regs.map (Slot.map (q7q id)),own:=ins id (.row e' e (qdp xs ys) (q4l bs b) p) σ.own}
     else none
    |_,_=>none
   |_=>none
  |_=>none
 |_=>none
def qm4 {α:Type}(xs:List α)(lo n:Nat)(ys:List α):List α:=xs.take lo++ys.take (min ys.length n)++xs.drop (lo+min ys.length n)
theorem qnh {α:Type}{xs:List α}{lo n:Nat}{ys:List α}(h:lo+n<=xs.length):(qm4 xs lo n ys).length=xs.length:=by
 simp only[qm4,lA,lT,lD]
 omega
def qml (τ:TypeId->Option TI)(σ:St N)(t t2:TypeId)(x y:RV N)(k:Slot N->St N->Option β):Option β:=
 match τ t with
 | some ⟨.sl e,_⟩=>match x with
  | .osl id lo n=>match look σ.own id with
   | some (.row e' ty xs bs p)=>match q0u N (.sl ty) (.sl e) xs,q7m τ σ.own t t2 e y with
    | some xs,some (ys,b)=>bif qdg σ.own id&&!(q4l bs b).contains id then
      k (.one (.int .i64 ((min ys.length n:Nat):Int))) {regs:=σ.regs.map (Slot.map (q7q id)),own:=ins id (.row e' e (qm4 xs lo n ys) (q4l bs b) p) σ.own}
     else none
    |_,_=>none
   |_=>none
  |x=>qt5 τ σ t t2 x y k
 |_=>none
theorem qjp {α:Type}{R:α->List Value->Prop}{sz:Nat}(hl:∀x cs,R x cs->cs.length=sz):∀(m:Nat) {xs:List α} {cs:List Value},q6v R xs cs->q6v R (xs.take m) (cs.take (m*sz))
 |0,xs,cs,h=>by
  rw[Nat.zero_mul,List.take_zero,List.take_zero]
  rfl
 |m+1,[],cs,h=>by
  rw[show cs=[]from h]
  simp only[List.take_nil]
  rfl
 |m+1,x::xs,cs,⟨c1,c2,e,h1,h2⟩=>by
  subst e
  have h3:=hl x c1 h1
  refine⟨c1,c2.take (m*sz),?_,h1,qjp hl m h2⟩
  rw[Nat.add_mul,Nat.one_mul,Nat.add_comm (m*sz) sz,<-h3,List.take_length_add_append]
theorem qea {α:Type}{R:α->List Value->Prop}{sz:Nat}(hl:∀x cs,R x cs->cs.length=sz):∀(m:Nat) {xs:List α} {cs:List Value},q6v R xs cs->q6v R (xs.drop m) (cs.drop (m*sz))
 |0,xs,cs,h=>by rw[Nat.zero_mul];exact h
 |m+1,[],cs,h=>by
  rw[show cs=[]from h]
  simp only[List.drop_nil]
  rfl
 |m+1,x::xs,cs,⟨c1,c2,e,h1,h2⟩=>by
  subst e
  have h3:=hl x c1 h1
  rw[List.drop_succ_cons,Nat.add_mul,Nat.one_mul,Nat.add_comm (m*sz) sz,<-h3,<-List.drop_drop,List.drop_left]
  rw[h3]
  exact qea hl m h2
theorem qfx (F:Fits P N τ){io:Io}{w0 w:World}{σ:St N}{E:Env}{a:Act}(hr:RelE io w0 σ E a w){t t2 el:TypeId}{e:Ty}(hτ:τ t=some ⟨.sl e,el⟩){y:Operand}{ys:List (e.den N.ρ)}{b:List Nat}
  (hy:q7m τ σ.own t t2 e (ev σ y)=some (ys,b)):(Builtin.lenOf (a.eval y)).run P w=.ok ys.length w/\∀m,m<=ys.length->
   ∃news,q6v (Rep w (okb w.heap.size σ.own E b) e) (ys.take m) news/\news.length=m*N.sz e/\(Builtin.firstCells (N.sz e) m (a.eval y)).run P w=.ok news.toArray w:=by
 unfold q7m at hy
 cases htt:(t==t2)with
 | true=>
  rw[htt]at hy
  have hy:toDen σ.own (.sl e) (ev σ y)=some (ys,b):=hy
  obtain⟨cs,v1,v2⟩:=hr.toDen hy (hr.ev y)
  obtain⟨A,scap,s1,s2,s2',s3⟩:=v1
  have s4:cs=[a.eval y]:=v2
  rw[s1]at s4
  have s5:a.eval y=.slice A ys.length scap:=(List.cons.inj s4).1.symm
  refine⟨by rw[s5];rfl,fun m hm=>?_⟩
  rw[s5]
  cases A with
  |none=>
   have hy0:ys=[]:=List.eq_nil_of_length_eq_zero (by have:=s2' rfl;omega)
   subst hy0
   have hm0:m=0:=by simpa using hm
   subst hm0
   exact⟨[],rfl,by simp,by simp[Builtin.firstCells]⟩
  | some ad=>
   obtain⟨news,n1,n2⟩:=qmw (A:=ad) (ys.take m) 0 (fun i y hy=>by
    rw[List.getElem?_take]at hy
    split at hy
    ·obtain⟨ad',ccs,d1,d2,d3,d4⟩:=s3 i y hy
     cases d1
     exact⟨ccs,d3,fun j u hu=>by rw[Nat.zero_add];exact d4 j u hu⟩
    ·cases hy)
   have hnl:=q17 (fun x cs hx=>q05 hx) n1
   rw[lT,Nat.min_eq_left hm]at hnl
   exact⟨news,n1,hnl,run_firstCells_some w (N.sz e) _ ad ys.length scap news hnl (fun j u hu=>by have:=n2 j u hu;simpa using this)⟩
 | false=>
  rw[htt]at hy
  simp only[cF]at hy
  split at hy
  ·rename_i e2 hτ2
   split at hy
   ·rename_i l hl
    obtain⟨y',hy',hp⟩:=Option.map_eq_some_iff.1 hy
    cases hp
    obtain⟨et,rfl⟩:=q0b hy'
    cases et
    have hx':=hr.ev y
    rw[hl]at hx'
    obtain⟨s,k1,k2⟩:=hx'
    subst k2
    refine⟨by rw[k1];show _=Result.ok (q0o s).length w;rw[q0r];rfl,fun m hm=>?_⟩
    have hm:m<=(q0o s).length:=hm
    rw[q0r]at hm
    refine⟨((s.data.toList.take m).map fun b=>Value.int .u8 b.toNat),?_,?_,?_⟩
    ·show q6v _ ((q0o s).take m) _
     unfold q0o
     rw[<-List.map_take]
     generalize s.data.toList.take m=l
     induction l with
     |nil=>rfl
     |cons b l ih=>exact⟨[.int .u8 b.toNat],_,rfl,rfl,ih⟩
    ·have:s.data.toList.length=s.size:=rfl
     simp only[List.length_map,lT,Names.sz]
     omega
    ·rw[k1]
     simp only[Builtin.firstCells,Sem.run_pure]
     congr 1
     apply Array.ext'
     simp[ByteArray.data_extract,Array.toList_extract,List.extract_eq_take_drop]
   ·cases hy
  ·cases hy
theorem qka (F:Fits P N τ){σ:St N}{t t2 ty:TypeId}{x y:Operand}{k:Slot N->St N->Option β}{r:β}(h:qt5 τ σ t t2 (ev σ x) (ev σ y) k=some r):
  ∃sl σ',k sl σ'=some r/\qs7 P σ (fun a=>Builtin.copy_ #[t,t2] ty #[a.eval x,a.eval y]) sl σ':=by
 unfold qt5 at h
 split at h
 ·rename_i e el hτ
  obtain⟨u1,⟨e1,u2⟩,_⟩:=F.sl t e el hτ
  split at h
  ·rename_i id hx
   split at h
   ·rename_i e' ty' xs0 bs p hl
    split at h
    ·rename_i xs ys b hxs hy
     obtain⟨hc,h2⟩:=q02 h
     clear h
     obtain⟨et,rfl⟩:=q0b hxs
     cases et
     simp only[Bool.and_eq_true,Bool.not_eq_true']at hc
     obtain⟨hno,hcon⟩:=hc
     have hnot:=q07 hcon
     have hn1:id∉bs:=fun hm=>hnot (q15.2 (.inl hm))
     have hn2:id∉b:=fun hm=>hnot (q15.2 (.inr hm))
     refine⟨_,_,h2,fun io w0 E a w hr=>?_⟩
     have hx':=hr.ev x
     rw[hx]at hx'
     obtain⟨k1,_⟩:=hx'
     obtain⟨cells,c1,c2⟩:=hr.own id _ hl
     obtain⟨hlen,hsrc⟩:=qfx F hr hτ hy
     have hs:=F.sizeOf u2 w
     have hrowlen:=q17 (fun x cs hx=>q05 hx) c2
     rcases c1.2 with⟨hv,hn⟩|⟨g,cap,cur,T0,fz,hv,hg,hfz,hT0,hnc,hcm,hcs,ht⟩
     ·have hst:=hr.store hl (w':=w) (b':=.row e' e (qdp xs0 ys) (q4l bs b) p) ⟨rfl,by simp[q25]⟩ (fun h=>h) ⟨rfl,rfl,rfl,nR _,fun _ _ _=>rfl⟩ (q2v hno)
       ⟨[],by
        have h0:(qdp xs0 ys).length=0:=by rw[q25];exact hn
        rw[h0]
        exact⟨by simp,.inl ⟨hv,rfl⟩⟩,by
        have h0:qdp xs0 ys=[]:=List.eq_nil_of_length_eq_zero (by rw[q25];exact hn)
        rw[h0]
        rfl⟩
      refine⟨.int .i64 ((min ys.length xs0.length:Nat):Int),w,E,?_,hst,rfl⟩
      show(Builtin.copy_ #[t,t2] ty #[a.eval x,a.eval y]).run P w=_
      have hm:Nat.min ys.length 0=0:=Nat.min_eq_right (Nat.zero_le _)
      have hm':min ys.length xs0.length=0:=by rw[hn];exact hm
      obtain⟨news,n1,n2,n3⟩:=hsrc 0 (Nat.zero_le _)
      have hnews:news=[]:=List.eq_nil_of_length_eq_zero (by rw[n2,Nat.zero_mul])
      subst hnews
      rw[k1,hv,hm']
      simp only[Builtin.copy_,List.getElem?_toArray,List.getElem?_cons_zero,List.getElem?_cons_succ,Sem.run_bind,run_underlying u1,Result.andThen_ok,hlen,hs,hm,n3,Sem.run_pure,goInt]
     ·obtain⟨news,n1,n2,n3⟩:=hsrc (min ys.length xs0.length) (Nat.min_le_left _ _)
      have hfit:news.length<=cur.size:=by
       rw[n2,hcs]
       exact Nat.mul_le_mul_right _ (Nat.le_trans (Nat.min_le_right _ _) hnc)
      have hsc:=q35 P g 0 T0 fz news 0 cur w hg (hfz.imp (fun h=>h) (fun h=>h.2)) (by simpa using hfit) (qdm n1)
      simp only[Nat.add_zero,List.take_zero,List.nil_append,Nat.zero_add]at hsc
      have hw:w.grownBy (w.setRow g (news++cur.toList.drop news.length).toArray) (q0j (E id)):=by rw[hv];exact q3j w g _
      have tr:∀bs0,id∉bs0->(∀i∈bs0,i∈q4l bs b)->∀(t:Ty) (x:t.den N.ρ) cs,Rep w (okb w.heap.size σ.own E bs0) t x cs->
        Rep (w.setRow g (news++cur.toList.drop news.length).toArray) (okb (w.setRow g (news++cur.toList.drop news.length).toArray).heap.size (ins id (.row e' e (qdp xs0 ys) (q4l bs b) p) σ.own) E (q4l bs b)) t x cs:=by
       intro bs0 h0 hsub t x cs hx
       exact q09 (fun a u hb hc=>q2c hw (hb.2 id (by rw[hl];rfl) h0) hc) (fun g hg=>q54 hsub (q90 hw.size hl hg)) hx
      have hrow:=qea (fun x cs hx=>q05 hx) (min ys.length xs0.length) (q0p (fun x cs hx=>tr bs hn1 (fun i hi=>q15.2 (.inl hi)) e x cs hx) c2)
      have hval:=q0p (fun x cs hx=>tr b hn2 (fun i hi=>q15.2 (.inr hi)) e x cs hx) n1
      have hall:=q5b hval hrow
      rw[<-qx1]at hall
      have hsize:(news++cur.toList.drop news.length).toArray.size=cur.size:=by
       simp only[List.size_toArray,lA,lD,Array.length_toList]
       omega
      have hst:=hr.store hl (b':=.row e' e (qdp xs0 ys) (q4l bs b) p) ⟨rfl,by simp[q25]⟩ (fun h=>h) hw (q2v hno)
       ⟨news++cells.drop (min ys.length xs0.length*N.sz e),⟨q17 (fun x cs hx=>q05 hx) hall,.inr ⟨g,cap,_,T0,fz,by rw[q25];exact hv,setRow_heap w g cur _ T0 fz hg,hfz.imp (fun h=>h) (fun h=>⟨h.1,by rw[hsize];exact h.2⟩),by rw[q25];exact hT0,by rw[q25];exact hnc,hcm,by rw[hsize];exact hcs,by
        rw[q25]
        have hle:news.length<=xs0.length*N.sz e:=by rw[n2];exact Nat.mul_le_mul_right _ (Nat.min_le_right _ _)
        show(news++cur.toList.drop news.length).take (xs0.length*N.sz e)=_
        rw[List.take_append,tL hle,<-n2,<-ht,List.drop_take]⟩⟩,hall⟩
      refine⟨.int .i64 ((min ys.length xs0.length:Nat):Int),_,E,?_,hst,rfl⟩
      show(Builtin.copy_ #[t,t2] ty #[a.eval x,a.eval y]).run P w=_
      have n3:(Builtin.firstCells (N.sz e) (Nat.min ys.length xs0.length) (a.eval y)).run P w=.ok news.toArray w:=n3
      have hsc':(storeCells ⟨g,0,none⟩ news.toArray.toList 0).run P w=.ok () (w.setRow g (news++cur.toList.drop news.length).toArray):=hsc
      rw[k1,hv]
      simp only[Builtin.copy_,List.getElem?_toArray,List.getElem?_cons_zero,List.getElem?_cons_succ,Sem.run_bind,run_underlying u1,Result.andThen_ok,hlen,hs,n3,hsc',Sem.run_pure,goInt]
    ·cases h
   ·cases h
  ·cases h
 ·cases h
theorem qi0 (F:Fits P N τ){σ:St N}{t t2 ty:TypeId}{x y:Operand}{k:Slot N->St N->Option β}{r:β}(h:qml τ σ t t2 (ev σ x) (ev σ y) k=some r):
  ∃sl σ',k sl σ'=some r/\qs7 P σ (fun a=>Builtin.copy_ #[t,t2] ty #[a.eval x,a.eval y]) sl σ':=by
 unfold qml at h
 split at h
 ·rename_i e el hτ
  obtain⟨u1,⟨e1,u2⟩,_⟩:=F.sl t e el hτ
  split at h
  ·rename_i id lo n hx
   split at h
   ·rename_i e' ty' xs0 bs p hl
    split at h
    ·rename_i xs ys b hxs hy
     obtain⟨hc,h2⟩:=q02 h
     clear h
     obtain⟨et,rfl⟩:=q0b hxs
     cases et
     simp only[Bool.and_eq_true,Bool.not_eq_true']at hc
     obtain⟨hno,hcon⟩:=hc
     have hnot:=q07 hcon
     have hn1:id∉bs:=fun hm=>hnot (q15.2 (.inl hm))
     have hn2:id∉b:=fun hm=>hnot (q15.2 (.inr hm))
     refine⟨_,_,h2,fun io w0 E a w hr=>?_⟩
     have hx':=hr.ev x
     rw[hx]at hx'
     obtain⟨A,cap,m,t',⟨e2,xs2,bs2,p2,q1,q2⟩,k1,k2,k3⟩:=hx'
     rw[hl]at q1
     cases q1
     subst q2
     obtain⟨cells,c1,c2⟩:=hr.own id _ hl
     obtain⟨hlen,hsrc⟩:=qfx F hr hτ hy
     have hs:=F.sizeOf u2 w
     have hpl:(qm4 xs0 lo n ys).length=xs0.length:=qnh k1
     have hrowlen:=q17 (fun x cs hx=>q05 hx) c2
     obtain⟨news,n1,n2,n3⟩:=hsrc (min ys.length n) (Nat.min_le_left _ _)
     have n3:(Builtin.firstCells (N.sz e) (Nat.min ys.length n) (a.eval y)).run P w=.ok news.toArray w:=n3
     rcases c1.2 with⟨hv,hn⟩|⟨g,cap',cur,T0,fz,hv,hg,hfz,hT0,hnc,hcm,hcs,ht⟩
     ·rw[k2]at hv
      simp only[Value.slice.injEq]at hv
      obtain⟨rfl,_,rfl⟩:=hv
      have hn0:n=0:=by omega
      have hlo:lo=0:=by omega
      subst hn0 hlo
      have hnil:qm4 xs0 0 0 ys=xs0:=by simp[qm4]
      have hst:=hr.store hl (w':=w) (b':=.row e' e (qm4 xs0 0 0 ys) (q4l bs b) p) ⟨rfl,by rw[hpl]⟩ (fun h=>h) ⟨rfl,rfl,rfl,nR _,fun _ _ _=>rfl⟩ (q2v hno)
       ⟨[],by
        rw[hpl,hn]
        exact⟨by simp,.inl ⟨by rw[k2,hn],rfl⟩⟩,by
        have h0:qm4 xs0 0 0 ys=[]:=List.eq_nil_of_length_eq_zero (by rw[hpl];exact hn)
        rw[h0]
        rfl⟩
      refine⟨.int .i64 ((min ys.length 0:Nat):Int),w,E,?_,hst,rfl⟩
      show(Builtin.copy_ #[t,t2] ty #[a.eval x,a.eval y]).run P w=_
      rw[k3]
      simp only[Builtin.copy_,List.getElem?_toArray,List.getElem?_cons_zero,List.getElem?_cons_succ,Sem.run_bind,run_underlying u1,Result.andThen_ok,hlen,hs,n3,Sem.run_pure,goInt,if_true]
     ·rw[k2]at hv
      simp only[Value.slice.injEq]at hv
      obtain⟨rfl,_,rfl⟩:=hv
      have hmn:min ys.length n<=n:=Nat.min_le_right _ _
      have e3:(lo+min ys.length n)*N.sz e=lo*N.sz e+news.length:=by rw[Nat.add_mul,n2]
      have hle:lo*N.sz e+news.length<=xs0.length*N.sz e:=by rw[<-e3];exact Nat.mul_le_mul_right _ (by omega)
      have hcap:xs0.length*N.sz e<=cur.size:=by rw[hcs];exact Nat.mul_le_mul_right _ hnc
      have hfit:lo*N.sz e+news.length<=cur.size:=by omega
      have hsc:(storeCells (if cap=lo then(⟨g,0,none⟩:Addr)else⟨g,lo*N.sz e,none⟩) news 0).run P w=.ok () (w.setRow g (q0g cur.toList (lo*N.sz e) news).toArray):=by
       by_cases hcl:cap=lo
       ·have hz:min ys.length n=0:=by omega
        have hnews:news=[]:=List.eq_nil_of_length_eq_zero (by rw[n2,hz,Nat.zero_mul])
        subst hnews
        simp only[storeCells,q0g,List.append_nil,List.length_nil,Nat.add_zero,List.take_append_drop,Array.toArray_toList]
        rw[setRow_self w g cur T0 fz hg]
        rfl
       ·rw[if_neg hcl]
        have:=q35 P g (lo*N.sz e) T0 fz news 0 cur w hg (hfz.imp (fun h=>h) (fun h=>h.2)) (by simpa using hfit) (qdm n1)
        simpa[q0g]using this
      have hw:w.grownBy (w.setRow g (q0g cur.toList (lo*N.sz e) news).toArray) (q0j (E id)):=by rw[k2];exact q3j w g _
      have tr:∀bs0,id∉bs0->(∀i∈bs0,i∈q4l bs b)->∀(t:Ty) (x:t.den N.ρ) cs,Rep w (okb w.heap.size σ.own E bs0) t x cs->
        Rep (w.setRow g (q0g cur.toList (lo*N.sz e) news).toArray) (okb (w.setRow g (q0g cur.toList (lo*N.sz e) news).toArray).heap.size (ins id (.row e' e (qm4 xs0 lo n ys) (q4l bs b) p) σ.own) E (q4l bs b)) t x cs:=by
       intro bs0 h0 hsub t x cs hx
       exact q09 (fun a u hb hc=>q2c hw (hb.2 id (by rw[hl];rfl) h0) hc) (fun g hg=>q54 hsub (q90 hw.size hl hg)) hx
      have hrow:=q0p (fun x cs hx=>tr bs hn1 (fun i hi=>q15.2 (.inl hi)) e x cs hx) c2
      have hval:=q0p (fun x cs hx=>tr b hn2 (fun i hi=>q15.2 (.inr hi)) e x cs hx) n1
      have hall:=q5b (q5b (qjp (fun x cs hx=>q05 hx) lo hrow) hval) (qea (fun x cs hx=>q05 hx) (lo+min ys.length n) hrow)
      have hcells:cells.take (lo*N.sz e)++news++cells.drop ((lo+min ys.length n)*N.sz e)=q0g cells (lo*N.sz e) news:=by rw[e3];rfl
      rw[hcells]at hall
      have hst:=hr.store hl (b':=.row e' e (qm4 xs0 lo n ys) (q4l bs b) p) ⟨rfl,by rw[hpl]⟩ (fun h=>h) hw (q2v hno)
       ⟨q0g cells (lo*N.sz e) news,⟨q17 (fun x cs hx=>q05 hx) hall,.inr ⟨g,cap,_,T0,fz,by rw[hpl];exact k2,setRow_heap w g cur _ T0 fz hg,hfz.imp (fun h=>h) (fun h=>⟨h.1,by rw[q1v hfit];exact h.2⟩),by rw[hpl];exact hT0,by rw[hpl];exact hnc,hcm,by rw[q1v hfit];exact hcs,by
        rw[hpl]
        show(q0g cur.toList (lo*N.sz e) news).take (xs0.length*N.sz e)=_
        rw[qg2 hle,ht]⟩⟩,hall⟩
      refine⟨.int .i64 ((min ys.length n:Nat):Int),_,E,?_,hst,rfl⟩
      show(Builtin.copy_ #[t,t2] ty #[a.eval x,a.eval y]).run P w=_
      have hbase:(if cap=lo then some (⟨g,0,none⟩:Addr)else(some (⟨g,0,none⟩:Addr)).map (·.add (lo*N.sz e)))=some (if cap=lo then(⟨g,0,none⟩:Addr)else⟨g,lo*N.sz e,none⟩):=by
       split
       ·rfl
       ·rw[Option.map_some,q3m,Nat.zero_add]
      have hsc':(storeCells (if cap=lo then(⟨g,0,none⟩:Addr)else⟨g,lo*N.sz e,none⟩) news.toArray.toList 0).run P w=.ok () (w.setRow g (q0g cur.toList (lo*N.sz e) news).toArray):=hsc
      rw[k3,hbase]
      simp only[Builtin.copy_,List.getElem?_toArray,List.getElem?_cons_zero,List.getElem?_cons_succ,Sem.run_bind,run_underlying u1,Result.andThen_ok,hlen,hs,n3,hsc',Sem.run_pure,goInt]
    ·cases h
   ·cases h
  ·exact qka F h
 ·cases h
end Go.Eng

set_option linter.unusedVariables false
set_option linter.unusedSimpArgs false
namespace Go.Eng
variable {N:Names} {io:Io} {w0 w w':World} {σ:St N} {E:Env} {a:Act}
def qbn {β:Type}:List Nat->List (Nat×β)->List (Nat×β)
 |[],l=>l
 |i::r,l=>del i (qbn r l)
theorem q5j {β:Type}(D:List Nat)(l:List (Nat×β))(j:Nat):look (qbn D l) j=if j∈D then none else look l j:=by
 induction D with
 |nil=>simp[qbn]
 |cons i r ih=>
  simp only[qbn,q1h,ih,List.mem_cons]
  by_cases h:i=j
  ·simp[h]
  ·simp[h,Ne.symm h]
def q1j (D l:List Nat):Bool:=l.any fun i=>D.contains i
theorem q1t {D l:List Nat}(h:q1j D l=false):∀i∈l,i∉D:=by
 intro i hi hd
 have:=List.any_eq_false.1 h i hi
 exact this (List.contains_iff_mem.2 hd)
def qde (D U:List Nat)(r:RV N):RV N:=bif q1j D r.bs||q1j U r.refs then .undef else r
def q1n (D U:List Nat)(b:Blk N):Blk N:=b.map (qde D U) (fun l=>l)
def qxw (own:List (Nat×Blk N))(D:List Nat):Bool:=
 own.all fun p=>D.contains p.1||match p.2 with
  |.cells _=>true
  |.vals _ _=>true
  |b=>!q1j D b.bs
theorem qr9 {own:List (Nat×Blk N)}{D:List Nat}(h:qxw own D=true):∀j bj,look own j=some bj->j∉D->bj.loc\/∀i∈bj.bs,i∉D:=by
 intro j bj hj hne
 have:=List.all_eq_true.1 h _ (q3t hj)
 have hc:D.contains j=false:=by
  cases hh:D.contains j with
  |false=>rfl
  |true=>exact absurd (List.contains_iff_mem.1 hh) hne
 simp only[Bool.or_eq_true,hc,Bool.false_eq_true,false_or]at this
 cases bj with
 |cells l=>exact .inl (.inl ⟨l,rfl⟩)
 |vals n l=>exact .inl (.inr ⟨n,l,rfl⟩)
 |mapB kt vt es=>exact .inr (fun i hi=>by cases hi)
 |row e t xs bs p=>exact .inr (q1t (by simpa[Blk.bs]using this))
 |whole t x bs=>exact .inr (q1t (by simpa[Blk.bs]using this))
structure HavocW (own:List (Nat×Blk N)) (E:Env) (D:List Nat) (w w':World):Prop where
 os:w'.os=w.os
 tape:w'.tape=w.tape
 output:w'.output=w.output
 size:w.heap.size<=w'.heap.size
 block:∀g,g<w.heap.size->(∀id∈D,(look own id).isSome=true->q0j (E id)≠some g)->w'.heap[g]?=w.heap[g]?
def qag (E:Env)(new:List (Nat×Blk N))(V:Nat->Value):Env:={E with val:=fun i=>if(look new i).isSome then V i else E i}
theorem q2r {new:List (Nat×Blk N)}{V:Nat->Value}{i:Nat}{b:Blk N}(h:look new i=some b):qag E new V i=V i:=by simp[qag,h]
theorem q2s {new:List (Nat×Blk N)}{V:Nat->Value}{i:Nat}(h:look new i=none):qag E new V i=E i:=by simp[qag,h]
structure NewOk (own:List (Nat×Blk N)) (E:Env) (D U:List Nat) (new:List (Nat×Blk N)) (V:Nat->Value) (w w':World):Prop where
 blk:∀id b,look new id=some b->∀g,q0j (V id)=some g->g<w'.heap.size/\((∃d∈D,(look own d).isSome=true/\q0j (E d)=some g)\/w.heap.size<=g)
 sep:∀id id' b b',look new id=some b->look new id'=some b'->id≠id'->∀g,q0j (V id)=some g->q0j (V id')≠some g
 fresh:∀id b,look new id=some b->id∈D\/look own id=none
 stay:∀id∈D,id∉U->∀b,look own id=some b->∃b',look new id=some b'/\q5r b b'/\V id=E id/\(b.pinned=true->b'.pinned=true)
 moved:∀id∈U,∀b,look own id=some b->b.pinned=false
theorem RelE.havoc (h:RelE io w0 σ E a w){D U:List Nat}{new:List (Nat×Blk N)}{V:Nat->Value}(hw:HavocW σ.own E D w w')(hn:NewOk σ.own E D U new V w w')
  (hno:∀j bj,look σ.own j=some bj->j∉D->bj.loc\/∀i∈bj.bs,i∉D)
  (hb':∀id b,look new id=some b->q4j w' (q0d new (qbn D (q59 (q1n D U) σ.own))) (qag E new V) id b):
  RelE io w0 {regs:=σ.regs.map (Slot.map (qde D U)),own:=q0d new (qbn D (q59 (q1n D U) σ.own))} (qag E new V) a w':=by
 have hlook:∀j,look (q0d new (qbn D (q59 (q1n D U) σ.own))) j=match look new j with
   |some b=>some b
   |none=>if j∈D then none else(look σ.own j).map (q1n D U):=by
  intro j
  rw[q7a,q5j,q4q]
  cases look new j<;>rfl
 have hold:∀j b,look new j=none->look (q0d new (qbn D (q59 (q1n D U) σ.own))) j=some b->j∉D/\∃b0,look σ.own j=some b0/\b=q1n D U b0:=by
  intro j b hnj hj
  rw[hlook,hnj]at hj
  simp only at hj
  by_cases hd:j∈D
  ·rw[if_pos hd]at hj;cases hj
  ·rw[if_neg hd]at hj
   obtain⟨b0,hb0,rfl⟩:=Option.map_eq_some_iff.1 hj
   exact⟨hd,b0,hb0,rfl⟩
 -- blocks of D
 have hDblk:∀d∈D,(look σ.own d).isSome=true->∀g,q0j (E d)=some g->g<w.heap.size/\(w0.heap.size<=g\/io.p g):=by
  intro d _ hs g hg
  obtain⟨b,hb⟩:=Option.isSome_iff_exists.1 hs
  exact h.blk d b hb g hg
 have hok:∀bs,(∀i∈bs,i∉D)->∀g,okb w.heap.size σ.own E bs g->okb w'.heap.size (q0d new (qbn D (q59 (q1n D U) σ.own))) (qag E new V) bs g:=by
  intro bs hbs g hg
  refine⟨⟨Nat.lt_of_lt_of_le hg.1.1 hw.size,hg.1.2⟩,fun j hj hjb=>?_⟩
  cases hnj:look new j with
  | some b=>
   rw[q2r hnj]
   intro hgv
   rcases(hn.blk j b hnj g hgv).2 with⟨d,hd,hs,hg2⟩|h3
   ·exact hg.2 d hs (fun hm=>hbs d hm hd) hg2
   ·have:=hg.1.1
    omega
  |none=>
   rw[q2s hnj]
   obtain⟨b,hb⟩:=Option.isSome_iff_exists.1 hj
   obtain⟨_,b0,hb0,_⟩:=hold j b hnj hb
   exact hg.2 j (by rw[hb0];rfl) hjb
 have hcell:∀bs,(∀i∈bs,i∉D)->∀(a:Addr) u,okb w.heap.size σ.own E bs a.block->w.cell? a=some u->w'.cell? a=some u:=by
  intro bs hbs a u hg hc
  refine(World.cell?_of_block (w:=w) (hw.block _ hg.1.1 (fun d hd hs=>?_))).trans hc
  exact hg.2 d hs (fun hm=>hbs d hm hd)
 have hrow:∀j n t,j∉U->q5u σ.own j n t->q5u (q0d new (qbn D (q59 (q1n D U) σ.own))) j n t/\qag E new V j=E j:=by
  intro j n t hju hj
  obtain⟨b,hb⟩:=qc4 hj
  by_cases hd:j∈D
  ·obtain⟨b',h1,h2,h3,_⟩:=hn.stay j hd hju b hb
   refine⟨?_,by rw[q2r h1,h3]⟩
   obtain⟨e,xs,bs,p,k1,k2⟩:=hj
   rw[k1]at hb
   cases hb
   cases b' with
   |row e' t' xs' bs' p'=>
    obtain⟨rfl,hl⟩:=h2
    exact⟨e',xs',bs',p',by rw[hlook,h1],by omega⟩
   |whole t x bs=>exact h2.elim
   |cells l=>exact h2.elim
   |mapB kt vt es=>exact h2.elim
   |vals n l=>exact h2.elim
  ·have hnj:look new j=none:=by
    cases hl:look new j with
    |none=>rfl
    |some b'=>
     rcases hn.fresh j b' hl with h1|h1
     ·exact absurd h1 hd
     ·rw[hb]at h1;cases h1
   obtain⟨e,xs,bs,p,k1,k2⟩:=hj
   exact⟨⟨e,xs,bs,p,by rw[hlook,hnj];simp[hd,k1,q1n,Blk.map],k2⟩,q2s hnj⟩
 have hbox:∀j,j∉U->q53 σ.own j->q53 (q0d new (qbn D (q59 (q1n D U) σ.own))) j/\qag E new V j=E j:=by
  intro j hju hj
  obtain⟨b,hb⟩:=q6o hj
  by_cases hd:j∈D
  ·obtain⟨b',h1,h2,h3,_⟩:=hn.stay j hd hju b hb
   refine⟨?_,by rw[q2r h1,h3]⟩
   cases b' with
   |row e' t' xs' bs' p'=>
    rcases hj with⟨t,x,bs,k1⟩|⟨l,k1⟩|⟨kt,vt,es,k1⟩|⟨n,l,k1⟩<;>(rw[k1]at hb;cases hb;exact h2.elim)
   |whole t x bs=>exact .inl ⟨t,x,bs,by rw[hlook,h1]⟩
   |cells l=>exact .inr (.inl ⟨l,by rw[hlook,h1]⟩)
   |mapB kt vt es=>exact .inr (.inr (.inl ⟨kt,vt,es,by rw[hlook,h1]⟩))
   |vals n l=>exact .inr (.inr (.inr ⟨n,l,by rw[hlook,h1]⟩))
  ·have hnj:look new j=none:=by
    cases hl:look new j with
    |none=>rfl
    |some b'=>
     rcases hn.fresh j b' hl with h1|h1
     ·exact absurd h1 hd
     ·rw[hb]at h1;cases h1
   refine⟨?_,q2s hnj⟩
   rcases hj with⟨t,x,bs,k1⟩|⟨l,k1⟩|⟨kt,vt,es,k1⟩|⟨n,l,k1⟩
   ·exact .inl ⟨t,x,bs,by rw[hlook,hnj];simp[hd,k1,q1n,Blk.map]⟩
   ·exact .inr (.inl ⟨l.map (qde D U),by rw[hlook,hnj];simp[hd,k1,q1n,Blk.map]⟩)
   ·exact .inr (.inr (.inl ⟨kt,vt,es,by rw[hlook,hnj];simp[hd,k1,q1n,Blk.map]⟩))
   ·exact .inr (.inr (.inr ⟨n,l.map (qde D U),by rw[hlook,hnj];simp[hd,k1,q1n,Blk.map]⟩))
 have hkill:∀r v,q0a w σ.own E r v->q0a w' (q0d new (qbn D (q59 (q1n D U) σ.own))) (qag E new V) (qde D U r) v:=by
  intro r v h
  unfold qde
  cases hc:(q1j D r.bs||q1j U r.refs)with
  |true=>trivial
  | false=>
   rw[Bool.or_eq_false_iff]at hc
   have h1:=q1t hc.1
   have h2:=q1t hc.2
   refine q3c ?_ ?_ ?_ ?_ h
   ·intro bs hbs a u
    cases r<;>first|exact hbs.elim|(subst hbs;exact hcell _ h1 a u)
   ·intro bs hbs g
    cases r<;>first|exact hbs.elim|(subst hbs;exact hok _ h1 g)
   ·intro j n t hj hr
    cases r<;>first|exact hj.elim|(subst hj;exact hrow _ n t (h2 _ (by simp[RV.refs])) hr)
   ·intro j hj hr
    cases r<;>first|exact hj.elim|(subst hj;exact hbox _ (h2 _ (by simp[RV.refs])) hr)|exact hbox j (h2 j hj) hr
 have hblock:∀j bj,look σ.own j=some bj->j∉D->∀g,q0j (E j)=some g->w'.heap[g]?=w.heap[g]?:=by
  intro j bj hj hjd g hg
  refine hw.block g (h.blk j bj hj g hg).1 (fun d hd hs hg2=>?_)
  obtain⟨bd,hbd⟩:=Option.isSome_iff_exists.1 hs
  exact h.sep j d bj bd hj hbd (fun e=>hjd (e▸hd)) g hg hg2
 refine⟨?_,by simpa using h.size,h.defers,?_,?_,?_,?_,h.sc,h.nw,fun i hi=>by
  obtain⟨b0,h1,h2,h3⟩:=h.fx i hi
  have hiu:i∉U:=fun hu=>by rw[hn.moved i hu b0 h1]at h3;cases h3
  by_cases hd:i∈D
  ·obtain⟨b',k1,k2,k3,k4⟩:=hn.stay i hd hiu b0 h1
   exact⟨b',by rw[hlook,k1],by rw[q2r k1,k3];exact h2,k4 h3⟩
  ·have hni:look new i=none:=by
    cases hl:look new i with
    |none=>rfl
    |some b'=>
     rcases hn.fresh i b' hl with h4|h4
     ·exact absurd h4 hd
     ·rw[h1]at h4;cases h4
   refine⟨q1n D U b0,by rw[hlook,hni];simp[hd,h1],by rw[q2s hni];exact h2,?_⟩
   cases b0<;>exact h3⟩
 ·refine⟨hw.os.trans h.kept.os,hw.tape.trans h.kept.tape,hw.output.trans h.kept.output,Nat.le_trans h.kept.size hw.size,fun g hg hi=>?_⟩
  rw[hw.block g (Nat.lt_of_lt_of_le hg h.kept.size) (fun d hd hs hg2=>?_)]
  ·exact h.kept.block g hg hi
  ·rcases(hDblk d hd hs g hg2).2 with h3|h3
   ·omega
   ·exact hi h3
 ·intro t s hs
  simp only[List.getElem?_map]at hs
  obtain⟨s0,hs0,rfl⟩:=Option.map_eq_some_iff.1 hs
  exact q9m hkill (h.regs t s0 hs0)
 ·intro j bj hj
  simp only at hj ⊢
  cases hnj:look new j with
  |some b=>
   rw[hlook,hnj]at hj
   cases hj
   exact hb' j _ hnj
  | none=>
   obtain⟨hjd,b0,hb0,rfl⟩:=hold j bj hnj hj
   have hE:=q2s (E:=E) (V:=V) hnj
   have hbk:=hblock j b0 hb0 hjd
   have hol:=h.own j b0 hb0
   have hno':=hno j b0 hb0 hjd
   cases b0 with
   | row e t xs bs p=>
    have hbs:∀i∈bs,i∉D:=by
     rcases hno' with(⟨l,hl⟩|⟨n,l,hl⟩)|hl
     ·cases hl
     ·cases hl
     ·exact hl
    obtain⟨cells,k1,k2⟩:=hol
    refine⟨cells,?_,q0p (fun x cs hx=>q09 (hcell bs hbs) (hok bs hbs) hx) k2⟩
    rw[hE]
    refine⟨k1.1,?_⟩
    rcases k1.2 with hn|⟨g,cap,cur,T0,fz,hv,hg,rest⟩
    ·exact .inl hn
    ·refine .inr ⟨g,cap,cur,T0,fz,hv,?_,rest⟩
     rw[hbk g (by rw[hv];rfl)]
     exact hg
   | whole t x bs=>
    have hbs:∀i∈bs,i∉D:=by
     rcases hno' with(⟨l,hl⟩|⟨n,l,hl⟩)|hl
     ·cases hl
     ·cases hl
     ·exact hl
    obtain⟨g,T,arr,k1,k2,k3⟩:=hol
    refine⟨g,T,arr,hE.trans k1,?_,q09 (hcell bs hbs) (hok bs hbs) k3⟩
    rw[hbk g (by rw[k1];rfl)]
    exact k2
   | cells l=>
    obtain⟨g,T,arr,k1,k2,k3,k4⟩:=hol
    refine⟨g,T,arr,hE.trans k1,?_,by simpa using k3,fun i r u hr hu=>?_⟩
    ·rw[hbk g (by rw[k1];rfl)]
     exact k2
    ·simp only[List.getElem?_map]at hr
     obtain⟨r0,hr0,rfl⟩:=Option.map_eq_some_iff.1 hr
     exact hkill _ _ (k4 i r0 u hr0 hu)
   |mapB kt vt es=>
    obtain⟨g,arr,clock,k1,k2,k3⟩:=hol
    refine⟨g,arr,clock,hE.trans k1,?_,k3⟩
    rw[hbk g (by rw[k1];rfl)]
    exact k2
   |vals n l=>
    obtain⟨arr,k1,k2,k3,k4⟩:=hol
    refine⟨arr,hE.trans k1,by simpa using k2,k3,fun i r u hr hu=>?_⟩
    simp only[List.getElem?_map]at hr
    obtain⟨r0,hr0,rfl⟩:=Option.map_eq_some_iff.1 hr
    exact hkill _ _ (k4 i r0 u hr0 hu)
 ·intro j bj hj g hg
  simp only at hj
  cases hnj:look new j with
  |some b=>
   rw[q2r hnj]at hg
   obtain⟨h4,h3⟩:=hn.blk j b hnj g hg
   refine⟨h4,?_⟩
   rcases h3 with⟨d,hd,hs,hg2⟩|h3
   ·exact(hDblk d hd hs g hg2).2
   ·exact .inl (Nat.le_trans h.kept.size h3)
  |none=>
   rw[q2s hnj]at hg
   obtain⟨hjd,b0,hb0,_⟩:=hold j bj hnj hj
   exact⟨Nat.lt_of_lt_of_le (h.blk j b0 hb0 g hg).1 hw.size,(h.blk j b0 hb0 g hg).2⟩
 ·intro i j b1 b2 h1 h2 hij g hg hg2
  simp only at h1 h2
  have cross:∀i j bi bj,look new i=some bi->look new j=none->look (q0d new (qbn D (q59 (q1n D U) σ.own))) j=some bj->∀g,q0j (V i)=some g->q0j (E j)=some g->False:=by
   intro i j bi bj hi hj hjl g hg hg2
   obtain⟨hjd,b0,hb0,_⟩:=hold j bj hj hjl
   rcases(hn.blk i bi hi g hg).2 with⟨d,hd,hs,hg3⟩|h3
   ·obtain⟨bd,hbd⟩:=Option.isSome_iff_exists.1 hs
    exact h.sep d j bd b0 hbd hb0 (fun e=>hjd (e▸hd)) g hg3 hg2
   ·have:=(h.blk j b0 hb0 g hg2).1
    omega
  cases hni:look new i with
  | some bi=>
   rw[q2r hni]at hg
   cases hnj:look new j with
   |some bj=>
    rw[q2r hnj]at hg2
    exact hn.sep i j bi bj hni hnj hij g hg hg2
   |none=>
    rw[q2s hnj]at hg2
    exact cross i j bi b2 hni hnj h2 g hg hg2
  | none=>
   rw[q2s hni]at hg
   cases hnj:look new j with
   |some bj=>
    rw[q2r hnj]at hg2
    exact cross j i bj b1 hnj hni h1 g hg2 hg
   |none=>
    rw[q2s hnj]at hg2
    obtain⟨_,b3,hb3,_⟩:=hold i b1 hni h1
    obtain⟨_,b4,hb4,_⟩:=hold j b2 hnj h2
    exact h.sep i j b3 b4 hb3 hb4 hij g hg hg2
end Go.Eng

set_option linter.unusedVariables false
set_option linter.unusedSimpArgs false
namespace Go.Eng
inductive CK where
 |c (t:Ty)
 |o (el:TypeId) (e:Ty)
 |f (f:FuncId) (js:List Nat)
inductive PK where
 |v (t:Ty)
 |io (el:TypeId) (e:Ty)
 |bw (t:Ty)
 |bc (l:List CK)
 |fv (f:FuncId)
 |fb (f:FuncId)
 |ag (n:Nat) (l:List CK)
 |go (el:TypeId) (e:Ty)
 |fn (f:FuncId) (js:List Nat)
 |rp (t:Ty)
inductive RK where
 |v (t:Ty)
 |own (el:TypeId) (e:Ty)
 |ag (n:Nat) (l:List CK)
@[reducible] def CK.den (ρ:Nat->Type):CK->Type
 |.c t=>t.den ρ
 |.o _ e=>List (e.den ρ)
 |.f _ _=>Unit
@[reducible] def HC (ρ:Nat->Type):List CK->Type
 |[]=>Unit
 |c::l=>c.den ρ×HC ρ l
@[reducible] def PK.den (ρ:Nat->Type):PK->Type
 |.v t=>t.den ρ
 |.io _ e=>List (e.den ρ)
 |.bw t=>t.den ρ
 |.bc l=>HC ρ l
 |.fv _=>Unit
 |.fb _=>Unit
 |.ag _ l=>HC ρ l
 |.go _ e=>List (e.den ρ)
 |.fn _ _=>Unit
 |.rp t=>t.den ρ
@[reducible] def HIn (ρ:Nat->Type):List PK->Type
 |[]=>Unit
 |p::ps=>p.den ρ×HIn ρ ps
@[reducible] def HOut (ρ:Nat->Type):List PK->Type
 |[]=>Unit
 |.v _::ps=>HOut ρ ps
 |.io _ e::ps=>List (e.den ρ)×HOut ρ ps
 |.bw t::ps=>t.den ρ×HOut ρ ps
 |.bc l::ps=>HC ρ l×HOut ρ ps
 |.fv _::ps=>HOut ρ ps
 |.fb _::ps=>Unit×HOut ρ ps
 |.ag _ _::ps=>HOut ρ ps
 |.go _ _::ps=>HOut ρ ps
 |.fn _ _::ps=>HOut ρ ps
 |.rp _::ps=>HOut ρ ps
@[reducible] def RK.den (ρ:Nat->Type):RK->Type
 |.v t=>t.den ρ
 |.own _ e=>List (e.den ρ)
 |.ag _ l=>HC ρ l
@[reducible] def HRes (ρ:Nat->Type):List RK->Type
 |[]=>Unit
 |r::rs=>r.den ρ×HRes ρ rs
structure Spec (N:Names)where
 ps:List PK
 rs:List RK
 R:Type
 f:HIn N.ρ ps->Option R
 out:R->HRes N.ρ rs×HOut N.ρ ps
 gh:Nat
variable {N:Names}
def q0t (v:Value):List Nat:=(q0j v).toList
def qjm (w:World)(ok:Nat->Prop)(el:TypeId)(e:Ty)(xs:List (e.den N.ρ))(v:Value):Prop:=∃cells,((v=.slice none 0 0\/el<qgb)/\w.ownsRow 0 el (N.sz e) v xs.length cells)/\q6v (Rep w ok e) xs cells
def z10e (w:World)(v:Value)(g:Nat)(T:TypeId)(arr:Array Value):Prop:=v=.pointer (some ⟨g,0,none⟩)/\w.heap[g]?=some (.cells arr T (0,0))
def qbu (vs0:List Value)(f:FuncId)(js:List Nat):Value:=.func (.func f) #[] (js.map fun j=>vs0.getD j undef).toArray
def z185 (w:World)(ok:Nat->Prop)(vs0:List Value):(c:CK)->c.den N.ρ->Value->Prop
 |.c t,x,u=>Rep w ok t x [u]
 |.o el e,xs,u=>qjm w ok el e xs u
 |.f f js,_,u=>u=qbu vs0 f js
def qbo:CK->Value->List Nat
 |.c _,_=>[]
 |.o _ _,u=>q0t u
 |.f _ _,_=>[]
def qe3 (w:World)(ok:Nat->Prop)(vs0:List Value):(l:List CK)->HC N.ρ l->List Value->Prop
 |[],_,us=>us=[]
 |c::l,x,us=>∃u rest,us=u::rest/\z185 w ok vs0 c x.1 u/\qe3 w ok vs0 l x.2 rest
def q4y:List CK->List Value->List Nat
 |c::l,u::us=>qbo c u++q4y l us
 |_,_=>[]
def qsa (w:World)(ok:Nat->Prop)(vs0:List Value):(p:PK)->p.den N.ρ->Value->List Nat->Prop
 |.v t,x,v,bl=>(∃cs,Rep w ok t x cs/\AsV t v cs)/\bl=[]
 |.io el e,xs,v,bl=>qjm w ok el e xs v/\bl=q0t v
 |.bw t,x,v,bl=>∃g T arr,z10e w v g T arr/\Rep w ok t x arr.toList/\bl=[g]
 |.bc l,x,v,bl=>∃g T arr,z10e w v g T arr/\qe3 w ok vs0 l x arr.toList/\bl=g::q4y l arr.toList
 |.fv f,x,v,bl=>v=.func (.func f) #[] #[]/\bl=[]
 |.fb f,x,v,bl=>∃g T arr,z10e w v g T arr/\arr=#[.func (.func f) #[] #[v]]/\bl=[g]
 |.ag _ l,x,v,bl=>∃us:List Value,v=.agg us.toArray/\qe3 w ok vs0 l x us/\bl=q4y l us
 |.go el e,xs,v,bl=>qjm w ok el e xs v/\bl=q0t v
 |.fn f js,x,v,bl=>v=qbu vs0 f js/\bl=[]
 |.rp t,x,v,bl=>(∃ad cs,v=.pointer (some ad)/\ok ad.block/\Rep w ok t x cs/\∀j u,cs[j]?=some u->w.cell? (ad.add j)=some u)/\bl=[]
def qm5 (w:World)(ok:Nat->Prop)(vs0:List Value):(ps:List PK)->HIn N.ρ ps->List Value->List Nat->Prop
 |[],_,vs,bl=>vs=[]/\bl=[]
 |p::ps,x,vs,bl=>∃v rest b1 b2,vs=v::rest/\bl=b1++b2/\qsa w ok vs0 p x.1 v b1/\qm5 w ok vs0 ps x.2 rest b2
def q6i (w:World)(ok:Nat->Prop)(vs0:List Value):(ps:List PK)->HOut N.ρ ps->List Value->List Nat->Prop
 |[],_,_,bl=>bl=[]
 |.v _::ps,x,vs,bl=>q6i w ok vs0 ps x vs.tail bl
 |.io el e::ps,x,vs,bl=>∃v rest b1 b2,vs=v::rest/\bl=b1++b2/\qsa w ok vs0 (.io el e) x.1 v b1/\q6i w ok vs0 ps x.2 rest b2
 |.bw t::ps,x,vs,bl=>∃v rest b1 b2,vs=v::rest/\bl=b1++b2/\qsa w ok vs0 (.bw t) x.1 v b1/\q6i w ok vs0 ps x.2 rest b2
 |.bc l::ps,x,vs,bl=>∃v rest b1 b2,vs=v::rest/\bl=b1++b2/\qsa w ok vs0 (.bc l) x.1 v b1/\q6i w ok vs0 ps x.2 rest b2
 |.fv _::ps,x,vs,bl=>q6i w ok vs0 ps x vs.tail bl
 |.fb f::ps,x,vs,bl=>∃v rest b1 b2,vs=v::rest/\bl=b1++b2/\qsa (N:=N) w ok vs0 (.fb f) x.1 v b1/\q6i w ok vs0 ps x.2 rest b2
 |.ag _ _::ps,x,vs,bl=>q6i w ok vs0 ps x vs.tail bl
 |.go _ _::ps,x,vs,bl=>q6i w ok vs0 ps x vs.tail bl
 |.fn _ _::ps,x,vs,bl=>q6i w ok vs0 ps x vs.tail bl
 |.rp _::ps,x,vs,bl=>q6i w ok vs0 ps x vs.tail bl
def z18f (w:World)(ok:Nat->Prop):(r:RK)->r.den N.ρ->Value->List Nat->Prop
 |.v t,x,v,bl=>(∃cs,Rep w ok t x cs/\AsV t v cs)/\bl=[]
 |.own el e,xs,v,bl=>qjm w ok el e xs v/\bl=q0t v
 |.ag _ l,x,v,bl=>∃us:List Value,v=.agg us.toArray/\qe3 w ok [] l x us/\bl=q4y l us
def qo1 (w:World)(ok:Nat->Prop):(rs:List RK)->HRes N.ρ rs->List Value->List Nat->Prop
 |[],_,vs,bl=>vs=[]/\bl=[]
 |r::rs,x,vs,bl=>∃v rest b1 b2,vs=v::rest/\bl=b1++b2/\z18f w ok r x.1 v b1/\qo1 w ok rs x.2 rest b2
def qb1:List Value->Value
 |[v]=>v
 |vs=>.tuple vs.toArray
structure KeptB (bl:List Nat) (w w':World):Prop where
 os:w'.os=w.os
 tape:w'.tape=w.tape
 output:w'.output=w.output
 size:w.heap.size<=w'.heap.size
 block:∀g,g<w.heap.size->g∉bl->w'.heap[g]?=w.heap[g]?
def qis (ok:Nat->Prop)(w w':World)(bl bl2:List Nat)(b:Nat):Prop:=b<w'.heap.size/\(ok b\/b∈bl\/w.heap.size<=b)/\b∉bl2
structure AfterCall (S:Spec N) (ok:Nat->Prop) (vs:List Value) (bl:List Nat) (w w':World) (r:S.R) (us:List Value) (bl' rl:List Nat):Prop where
 kept:KeptB bl w w'
 out:q6i w' (qis ok w w' bl (bl'++rl)) vs S.ps (S.out r).2 vs bl'
 res:qo1 w' (qis ok w w' bl (bl'++rl)) S.rs (S.out r).1 us rl
 nodup:(bl'++rl).Nodup
 old:∀g∈bl'++rl,(g∈bl\/w.heap.size<=g)/\g<w'.heap.size
structure Good (P:Program) (f:FuncId) (S:Spec N):Prop where
 enter:∀w args,(callFunc f args).run P w=.ok (.enter f args) w
 calls:∀(w:World) (ok:Nat->Prop) (x:HIn N.ρ S.ps) (vs:List Value) (bl:List Nat) (r:S.R),(∀b,ok b->b<w.heap.size)->qm5 w ok vs S.ps x vs bl->bl.Nodup->(∀g∈bl,¬ok g/\g<w.heap.size)->S.f x=some r->
  Calls P f (vs.take (S.ps.length-S.gh)).toArray w fun e w'=>∃us bl' rl,e=.returned (qb1 us)/\AfterCall S ok vs bl w w' r us bl' rl
/-! The caller's side. -/
def qzt:Ty->Bool
 |.nm _=>true
 |_=>false
def q1x (fk:FuncId->List Nat->RV N->Bool)(own:List (Nat×Blk N)):(l:List CK)->List (RV N)->Option (HC N.ρ l×List Nat×List Nat)
 |[],[]=>some ((),[],[])
 |.c t::l,r::rs=>bif qzt t then none else match toDen own t r,q1x fk own l rs with
  |some (x,b),some (y,B,J)=>some ((x,y),b++B,J)
  |_,_=>none
 | .o el e::l,r::rs=>match r with
  | .own j=>match look own j with
   |some (.row el' e' xs bs false)=>bif eqB el' el then match q0u N (.sl e') (.sl e) xs,q1x fk own l rs with
    |some xs,some (y,B,J)=>some ((xs,y),bs++B,j::J)
    |_,_=>none
    else none
   |_=>none
  |_=>none
 |.f f js::l,r::rs=>bif fk f js r then match q1x fk own l rs with
  |some (y,B,J)=>some (((),y),B,J)
  |none=>none
  else none
 |_,_=>none
def q9q {ι:Type}(ρ:ι->RV N)(os0:List ι):List Nat->List Nat->Bool
 |[],[]=>true
 | j::js,c::cs=>(match os0[j]? with
  |some o=>match ρ o with
   |.bptr id 0=>Nat.beq id c
   |_=>false
  |none=>false)&&q9q ρ os0 js cs
 |_,_=>false
def qtf {ι:Type}(ρ:ι->RV N)(os0:List ι)(f:FuncId)(js:List Nat):RV N->Bool
 |.fn f' caps=>Nat.beq f' f&&q9q ρ os0 js caps
 |_=>false
def qpx (f:FuncId)(id:Nat):List (RV N)->Bool
 |[.fn f' [id']]=>Nat.beq f' f&&Nat.beq id' id
 |_=>false
theorem qg1 {f:FuncId}{id:Nat}{rs:List (RV N)}(h:qpx f id rs=true):rs=[.fn f [id]]:=by
 unfold qpx at h
 split at h
 ·simp only[Bool.and_eq_true]at h
  rw[Nat.eq_of_beq_eq_true h.1,Nat.eq_of_beq_eq_true h.2]
 ·cases h
def qnf (f:FuncId):RV N->Bool
 |.fn f' []=>Nat.beq f' f
 |_=>false
theorem ql2 {f:FuncId}{r:RV N}(h:qnf f r=true):r=.fn f []:=by
 unfold qnf at h
 split at h
 ·rw[Nat.eq_of_beq_eq_true h]
 ·cases h
def z18u (t:Ty)(id:Nat):Slot N->Option (t.den N.ρ×List Nat)
 |.one (.data t' y bs)=>(q0u N t' t y).map fun y=>(y,id::bs)
 |_=>none
def readP (own:List (Nat×Blk N))(t:Ty)(r:RV N):Option (t.den N.ρ×List Nat):=
 match r with
 | .bptr id 0=>match look own id with
  |some (.whole t' x bs)=>(q0u N t' t x).map fun y=>(y,id::bs)
  |some (.cells l)=>match impl own 8 t l with
   |some (y,bs)=>some (y,id::bs)
   |none=>none
  |_=>none
 |.optr id 0 0=>match look own id with
  |some (.row e' T' xs bs _)=>q5g t e' T' xs bs 0 0 fun s _=>z18u t id s
  |_=>none
 |.sptr t' x bs=>(q0u N t' t x).map fun y=>(y,bs)
 |_=>none
def q0i {ι:Type}(own:List (Nat×Blk N))(ρ:ι->RV N)(os0:List ι):(ps:List PK)->List ι->Option (HIn N.ρ ps×List Nat×List Nat×List Nat)
 |[],[]=>some ((),[],[],[])
 |.v t::ps,o::os=>match toDen own t (ρ o),q0i own ρ os0 ps os with
  |some (x,b),some (y,B,D,U)=>some ((x,y),b++B,D,U)
  |_,_=>none
 | .io el e::ps,o::os=>match ρ o with
  | .own id=>match look own id with
   |some (.row el' e' xs bs _)=>bif eqB el' el then match q0u N (.sl e') (.sl e) xs,q0i own ρ os0 ps os with
    |some xs,some (y,B,D,U)=>some ((xs,y),bs++B,id::D,U)
    |_,_=>none
    else none
   |_=>none
  |_=>none
 | .bw t::ps,o::os=>match ρ o with
  | .bptr id 0=>match look own id with
   |some (.whole t' x bs)=>match q0u N t' t x,q0i own ρ os0 ps os with
    |some x,some (y,B,D,U)=>some ((x,y),bs++B,id::D,U)
    |_,_=>none
   |_=>none
  |_=>none
 | .bc l::ps,o::os=>match ρ o with
  | .bptr id 0=>match look own id with
   |some (.cells rs)=>match q1x (qtf ρ os0) own l rs,q0i own ρ os0 ps os with
    |some (x,b,J),some (y,B,D,U)=>some ((x,y),b++B,id::(J++D),J++U)
    |_,_=>none
   |_=>none
  |_=>none
 |.fv f::ps,o::os=>bif qnf f (ρ o)then match q0i own ρ os0 ps os with
  |some (y,B,D,U)=>some (((),y),B,D,U)
  |none=>none
  else none
 | .fb f::ps,o::os=>match ρ o with
  | .bptr id 0=>match look own id with
   |some (.cells rs)=>bif qpx f id rs then match q0i own ρ os0 ps os with
    |some (y,B,D,U)=>some (((),y),B,id::D,U)
    |none=>none
    else none
   |_=>none
  |_=>none
 | .ag n l::ps,o::os=>match ρ o with
  | .mp id=>match look own id with
   |some (.vals m rs)=>bif Nat.beq m n then match q1x (qtf ρ os0) own l rs,q0i own ρ os0 ps os with
    |some (x,b,J),some (y,B,D,U)=>some ((x,y),b++B,J++D,J++U)
    |_,_=>none
    else none
   |_=>none
  |_=>none
 | .go el e::ps,o::os=>match ρ o with
  | .own id=>match look own id with
   |some (.row el' e' xs bs false)=>bif eqB el' el then match q0u N (.sl e') (.sl e) xs,q0i own ρ os0 ps os with
    |some xs,some (y,B,D,U)=>some ((xs,y),bs++B,id::D,id::U)
    |_,_=>none
    else none
   |_=>none
  |.nil=>match q0i own ρ os0 ps os with
   |some (y,B,D,U)=>some (([],y),B,D,U)
   |none=>none
  |_=>none
 |.fn f js::ps,o::os=>bif qtf ρ os0 f js (ρ o)then match q0i own ρ os0 ps os with
  |some (y,B,D,U)=>some (((),y),B,D,U)
  |none=>none
  else none
 |.rp t::ps,o::os=>match readP own t (ρ o),q0i own ρ os0 ps os with
  |some (x,b),some (y,B,D,U)=>some ((x,y),b++B,D,U)
  |_,_=>none
 |_,_=>none
def q1m (B:List Nat):(l:List CK)->List (RV N)->HC N.ρ l->List (RV N)
 |.c t::l,_::rs,x=>q6d t x.1 (q8c N t B)::q1m B l rs x.2
 |.o _ _::l,r::rs,x=>r::q1m B l rs x.2
 |.f _ _::l,r::rs,x=>r::q1m B l rs x.2
 |_,_,_=>[]
def q8t (B:List Nat):(l:List CK)->List (RV N)->HC N.ρ l->List (Nat×Blk N)
 |.c _::l,_::rs,x=>q8t B l rs x.2
 |.o el e::l,r::rs,x=>match r with
  |.own j=>(j,.row el e x.1 (q8c N e B) false)::q8t B l rs x.2
  |_=>[]
 |.f _ _::l,_::rs,x=>q8t B l rs x.2
 |_,_,_=>[]
def q2h {ι:Type}(own:List (Nat×Blk N))(ρ:ι->RV N)(B:List Nat):(ps:List PK)->List ι->HOut N.ρ ps->List (Nat×Blk N)
 |.v _::ps,_::os,x=>q2h own ρ B ps os x
 | .io el e::ps,o::os,x=>match ρ o with
  |.own id=>match look own id with
   |some (.row _ _ _ _ p)=>(id,.row el e x.1 (q8c N e B) p)::q2h own ρ B ps os x.2
   |_=>[]
  |_=>[]
 |.bw t::ps,o::os,x=>match ρ o with
  |.bptr id _=>(id,.whole t x.1 B)::q2h own ρ B ps os x.2
  |_=>[]
 | .bc l::ps,o::os,x=>match ρ o with
  |.bptr id _=>match look own id with
   |some (.cells rs)=>(id,.cells (q1m B l rs x.1))::(q8t B l rs x.1++q2h own ρ B ps os x.2)
   |_=>[]
  |_=>[]
 |.fv _::ps,_::os,x=>q2h own ρ B ps os x
 |.fb f::ps,o::os,x=>match ρ o with
  |.bptr id _=>(id,.cells [.fn f [id]])::q2h own ρ B ps os x.2
  |_=>[]
 |.ag _ _::ps,_::os,x=>q2h own ρ B ps os x
 |.go _ _::ps,_::os,x=>q2h own ρ B ps os x
 |.fn _ _::ps,_::os,x=>q2h own ρ B ps os x
 |.rp _::ps,_::os,x=>q2h own ρ B ps os x
 |_,_,_=>[]
def rid (d j i:Nat):Nat:=1000+d+10000*j+1000000*(i+1)
def q1i (B:List Nat)(d j:Nat):Nat->(l:List CK)->HC N.ρ l->List (RV N)
 |_,[],_=>[]
 |i,.c t::l,x=>(bif qzt t then .undef else q6d t x.1 (q8c N t B))::q1i B d j (i+1) l x.2
 |i,.o _ _::l,x=>.own (rid d j i)::q1i B d j (i+1) l x.2
 |i,.f f js::l,x=>(match js with
  |[]=>.fn f []
  |_=>.undef)::q1i B d j (i+1) l x.2
def q3i (B:List Nat)(d j:Nat):Nat->(l:List CK)->HC N.ρ l->List (Nat×Blk N)
 |_,[],_=>[]
 |i,.c _::l,x=>q3i B d j (i+1) l x.2
 |i,.o el e::l,x=>(rid d j i,.row el e x.1 (q8c N e B) false)::q3i B d j (i+1) l x.2
 |i,.f _ _::l,x=>q3i B d j (i+1) l x.2
def q3h (d j:Nat):Nat->List CK->List Nat
 |_,[]=>[]
 |i,.c _::l=>q3h d j (i+1) l
 |i,.o _ _::l=>rid d j i::q3h d j (i+1) l
 |i,.f _ _::l=>q3h d j (i+1) l
def q1o (B:List Nat)(d:Nat):(rs:List RK)->Nat->HRes N.ρ rs->List (RV N)
 |[],_,_=>[]
 |.v t::rs,j,x=>q6d t x.1 (q8c N t B)::q1o B d rs (j+1) x.2
 |.own _ _::rs,j,x=>.own (1000+d+10000*j)::q1o B d rs (j+1) x.2
 |.ag _ _::rs,j,x=>.mp (1000+d+10000*j)::q1o B d rs (j+1) x.2
def q7n (B:List Nat)(d:Nat):(rs:List RK)->Nat->HRes N.ρ rs->List (Nat×Blk N)
 |[],_,_=>[]
 |.v _::rs,j,x=>q7n B d rs (j+1) x.2
 |.own el e::rs,j,x=>(1000+d+10000*j,.row el e x.1 (q8c N e B) false)::q7n B d rs (j+1) x.2
 |.ag n l::rs,j,x=>(1000+d+10000*j,.vals n (q1i B d j 0 l x.1))::(q3i B d j 0 l x.1++q7n B d rs (j+1) x.2)
def q5o (d:Nat):List RK->Nat->List Nat
 |[],_=>[]
 |.v _::rs,j=>q5o d rs (j+1)
 |.own _ _::rs,j=>(1000+d+10000*j)::q5o d rs (j+1)
 |.ag _ l::rs,j=>(1000+d+10000*j)::(q3h d j 0 l++q5o d rs (j+1))
def q3g:List Nat->Bool
 |[]=>true
 |i::r=>!r.contains i&&q3g r
theorem q1u:∀{l:List Nat},q3g l=true->l.Nodup
 |[],_=>List.nodup_nil
 |i::r,h=>by
  simp only[q3g,Bool.and_eq_true,Bool.not_eq_true']at h
  exact List.nodup_cons.2 ⟨q07 h.1,q1u h.2⟩
def qy2:List (RV N)->Slot N
 |[r]=>.one r
 |l=>.tup l
def havR (D U:List Nat)(σ:St N)(new:List (Nat×Blk N)):St N:=
 match D with
 |[]=>{σ with own:=q0d new σ.own}
 |D=>{regs:=σ.regs.map (Slot.map (qde D U)),own:=q0d new (qbn D (q59 (q1n D U) σ.own))}
def qk7 {β ι:Type}(S:Spec N)(σ:St N)(ρ:ι->RV N)(os:List ι)(dst:Option Nat)(k:Slot N->St N->Option β):Option β:=
 match q0i σ.own ρ os S.ps os with
 |none=>none
 | some (x,B,D,U)=>
  bif q3g D&&!q1j D B&&qxw σ.own D&&q26 σ.own (q5o (dst.getD 0) S.rs 0)&&q3g (q5o (dst.getD 0) S.rs 0)then
   (S.f x).bind fun r=>
    k (qy2 (q1o B (dst.getD 0) S.rs 0 (S.out r).1)) (havR D U σ (q2h σ.own ρ B S.ps os (S.out r).2++q7n B (dst.getD 0) S.rs 0 (S.out r).1))
  else none
end Go.Eng

set_option linter.unusedVariables false
set_option linter.unusedSimpArgs false
namespace Go.Eng
variable {N:Names} {io:Io} {w0 w w':World} {σ:St N} {E:Env} {a:Act} {P:Program}
theorem q6q {own:List (Nat×Blk N)}{bs bs':List Nat}(hs:∀i∈bs,i∈bs'){el:TypeId}{e:Ty}{xs:List (e.den N.ρ)}{v:Value}(h:qjm w (okb w.heap.size own E bs) el e xs v):qjm w (okb w.heap.size own E bs') el e xs v:=by
 obtain⟨cells,h1,h2⟩:=h
 exact⟨cells,h1,q0p (fun x cs hx=>q2k hs hx) h2⟩
theorem RelE.ownAt (h:RelE io w0 σ E a w){id:Nat}{el:TypeId}{e:Ty}{xs:List (e.den N.ρ)}{bs:List Nat}{p:Bool}(hl:look σ.own id=some (.row el e xs bs p))(hlt:el<qgb):qjm w (okb w.heap.size σ.own E bs) el e xs (E id):=by
 obtain⟨cells,h1,h2⟩:=h.own id _ hl
 exact⟨cells,⟨.inr hlt,h1.strict hlt⟩,h2⟩
theorem q37 (h:RelE io w0 σ E a w){B0:List Nat}{fk:FuncId->List Nat->RV N->Bool}{vs0:List Value}(hfk:∀f js r u,fk f js r=true->q0a w σ.own E r u->u=qbu vs0 f js):∀(l:List CK) (rs:List (RV N)) (us:List Value) (x:HC N.ρ l) (B J:List Nat),q1x fk σ.own l rs=some (x,B,J)->us.length=rs.length->
  (∀(i:Nat) r u,rs[i]?=some r->us[i]?=some u->q0a w σ.own E r u)->(∀i∈B,i∈B0)->
  qe3 w (okb w.heap.size σ.own E B0) vs0 l x us/\q4y l us=J.flatMap (fun j=>q0t (E j))/\∀j∈J,∃b,look σ.own j=some b/\b.pinned=false
 |[],[],us,x,B,J,hc,hl,hr,hB=>by
  cases hc
  have:us=[]:=List.eq_nil_of_length_eq_zero hl
  subst this
  exact⟨rfl,rfl,(fun j hj=>by cases hj)⟩
 |[],_::_,us,x,B,J,hc,hl,hr,hB=>by cases hc
 |.c t::l,[],us,x,B,J,hc,hl,hr,hB=>by cases hc
 |.o el e::l,[],us,x,B,J,hc,hl,hr,hB=>by cases hc
 |.f f js::l,[],us,x,B,J,hc,hl,hr,hB=>by cases hc
 | .f f js::l,r::rs,us,x,B,J,hc,hl,hr,hB=>by
  simp only[q1x]at hc
  obtain⟨hf,hc⟩:=q02 hc
  split at hc
  ·rename_i y B1 J1 h2
   cases hc
   match us,hl with
   |u::us,hl=>
    have hru:=hr 0 r u rfl rfl
    obtain⟨q1,q2,q3⟩:=q37 h hfk l rs us y B J h2 (by simpa using hl) (fun i r u hi hu=>hr (i+1) r u (by simpa using hi) (by simpa using hu)) hB
    exact⟨⟨u,us,rfl,hfk f js r u hf hru,q1⟩,by simpa[q4y,qbo]using q2,q3⟩
  ·cases hc
 | .c t::l,r::rs,us,x,B,J,hc,hl,hr,hB=>by
  simp only[q1x]at hc
  cases hn:qzt t with
  |true=>rw[hn]at hc;cases hc
  | false=>
   rw[hn]at hc
   simp only[cF]at hc
   split at hc
   ·rename_i x1 b1 y B1 J1 h1 h2
    cases hc
    match us,hl with
    |u::us,hl=>
     have hru:=hr 0 r u rfl rfl
     obtain⟨cs,k1,k2⟩:=h.toDen h1 hru
     have hcs:=qgo k1 (fun n hn'=>by subst hn';cases hn) k2
     subst hcs
     obtain⟨q1,q2,q3⟩:=q37 h hfk l rs us y B1 J h2 (by simpa using hl) (fun i r u hi hu=>hr (i+1) r u (by simpa using hi) (by simpa using hu)) (fun i hi=>hB i (mA.2 (.inr hi)))
     exact⟨⟨u,us,rfl,q2k (fun i hi=>hB i (mA.2 (.inl hi))) k1,q1⟩,by simpa[q4y,qbo]using q2,q3⟩
   ·cases hc
 | .o el e::l,r::rs,us,x,B,J,hc,hl,hr,hB=>by
  simp only[q1x]at hc
  split at hc
  ·rename_i j
   split at hc
   ·rename_i el' e' xs bs hlk
    obtain⟨hel,hc⟩:=q02 hc
    obtain⟨hel,hlt⟩:=q5y hel
    subst hel
    split at hc
    ·rename_i xs' y B1 J1 h1 h2
     cases hc
     obtain⟨et,rfl⟩:=q0b h1
     cases et
     match us,hl with
     | u::us,hl=>
      have hru:=hr 0 _ u rfl rfl
      obtain⟨q1,q2,q3⟩:=q37 h hfk l rs us y B1 J1 h2 (by simpa using hl) (fun i r u hi hu=>hr (i+1) r u (by simpa using hi) (by simpa using hu)) (fun i hi=>hB i (mA.2 (.inr hi)))
      have hu:u=E j:=hru.1
      refine⟨⟨u,us,rfl,?_,q1⟩,?_,fun k hk=>?_⟩
      ·rw[hu]
       exact q6q (fun i hi=>hB i (mA.2 (.inl hi))) (h.ownAt hlk hlt)
      ·simp only[q4y,qbo,List.flatMap_cons,hu,q2]
      ·rcases List.mem_cons.1 hk with rfl|hk
       ·exact⟨_,hlk,rfl⟩
       ·exact q3 k hk
    ·cases hc
   ·cases hc
  ·cases hc
theorem qpy {id:Nat}{f:FuncId}{own:List (Nat×Blk N)}{v u:Value}(hl:∃l,look own id=some (.cells l))(hE:E id=v){g:Nat}(hv:v=.pointer (some ⟨g,0,none⟩))(hu:u=.func (.func f) #[] #[v]):q0a w own E (.fn f [id]) u:=by
 subst hE
 exact⟨by rw[hu];rfl,fun k hk=>by
  rw[List.mem_singleton]at hk
  subst hk
  exact⟨.inr (.inl hl),g,hv⟩⟩
theorem RelE.okOwn (h:RelE io w0 σ E a w){id g:Nat}{b:Blk N}(hl:look σ.own id=some b)(hg:q0j (E id)=some g)(bs:List Nat):okb w.heap.size σ.own E (id::bs) g:=by
 refine⟨⟨(h.blk id b hl g hg).1,by rw[h.sc];exact h.nw g (h.blk id b hl g hg).2⟩,fun j hj hjb hg2=>?_⟩
 obtain⟨bj,hbj⟩:=Option.isSome_iff_exists.1 hj
 exact h.sep id j b bj hl hbj (fun e=>hjb (by rw[e];exact mS)) g hg hg2
theorem RelE.readP (h:RelE io w0 σ E a w){t:Ty}{r:RV N}{v:Value}{x:t.den N.ρ}{bs:List Nat}(hd:readP σ.own t r=some (x,bs))(hr:q0a w σ.own E r v):
  ∃ad cs,v=.pointer (some ad)/\okb w.heap.size σ.own E bs ad.block/\Rep w (okb w.heap.size σ.own E bs) t x cs/\∀(j:Nat) u,cs[j]?=some u->w.cell? (ad.add j)=some u:=by
 unfold Eng.readP at hd
 split at hd
 ·rename_i id
  obtain⟨_,g,e1,e2⟩:=hr
  split at hd
  ·rename_i t' x' bs' hl
   obtain⟨y,hy,hq⟩:=Option.map_eq_some_iff.1 hd
   cases hq
   obtain⟨e,rfl⟩:=q0b hy
   subst e
   obtain⟨g',T,arr,c1,c2,c3⟩:=h.own id _ hl
   rw[e1]at c1
   cases c1
   exact⟨⟨g,0,none⟩,arr.toList,e2,h.okOwn hl (by rw[e1];rfl) bs',q2k (fun i hi=>mC _ hi) c3,fun j u hu=>h.box (id:=id) c2 0 j u (by simpa using hu)⟩
  ·rename_i l hl
   split at hd
   ·rename_i y bs' hy
    cases hd
    obtain⟨g',T,arr,c1,c2,c3,c4⟩:=h.own id _ hl
    rw[e1]at c1
    cases c1
    have k1:=h.impl 8 t l x bs' arr.toList hy (by simpa using c3) (fun i r u hi hu=>c4 i r u hi (by simpa using hu))
    exact⟨⟨g,0,none⟩,arr.toList,e2,h.okOwn hl (by rw[e1];rfl) bs',q2k (fun i hi=>mC _ hi) k1,fun j u hu=>h.box (id:=id) c2 0 j u (by simpa using hu)⟩
   ·cases hd
  ·cases hd
 ·rename_i id
  split at hd
  ·rename_i e' T' xs bs' p hl
   obtain⟨n,y,rfl,_,_,h1,_,h3⟩:=q4f hd
   obtain⟨y',hy,hq⟩:=Option.map_eq_some_iff.1 h1
   cases hq
   obtain⟨e,rfl⟩:=q0b hy
   cases e
   obtain⟨g,cap,n',t',⟨e2,xs2,bs2,p2,q1,q2⟩,g2,g3,g4⟩:=hr
   rw[hl]at q1
   cases q1
   obtain⟨cells,c1,c2⟩:=h.own id _ hl
   have hrep:=h3 c1 (by rw[g3];exact fun e=>by cases e) c2
   rcases c1.2 with⟨hv,hn⟩|⟨g',cap',cur,T0,fz,hv,hg,_,_,_,_,_,ht⟩
   ·rw[g3]at hv;cases hv
   ·rw[g3]at hv
    simp only[Value.slice.injEq,Option.some.injEq,Addr.mk.injEq]at hv
    obtain⟨⟨rfl,_⟩,_,rfl⟩:=hv
    refine⟨⟨g,0,none⟩,cells,by rw[g4];simp,h.okOwn hl (by rw[g3];rfl) bs',q2k (fun i hi=>mC _ hi) hrep,fun j u hu=>?_⟩
    rw[<-ht,List.getElem?_take]at hu
    split at hu
    ·rw[q3m,cell_of_row w g _ cur _ _ hg,Nat.zero_add]
     simpa using hu
    ·cases hu
  ·cases hd
 ·rename_i t' x' bs'
  obtain⟨y,hy,hq⟩:=Option.map_eq_some_iff.1 hd
  cases hq
  obtain⟨e,rfl⟩:=q0b hy
  subst e
  exact hr
 ·cases hd
theorem q7y {ι:Type}{own:List (Nat×Blk N)}{ρ:ι->RV N}{val:ι->Value}{os0:List ι}(hρ:∀o∈os0,q0a w own E (ρ o) (val o)):∀(js caps:List Nat),q9q ρ os0 js caps=true->
  caps.map E.val=js.map (fun j=>(os0.map val).getD j undef)/\∀c∈caps,∃o∈os0,ρ o=.bptr c 0
 |[],[],_=>⟨rfl,fun c hc=>by cases hc⟩
 |[],_::_,h=>by cases h
 |_::_,[],h=>by cases h
 | j ::js,c::cs,h=>by
  simp only[q9q,Bool.and_eq_true]at h
  obtain⟨h1,h2⟩:=h
  obtain⟨k1,k2⟩:=q7y hρ js cs h2
  split at h1
  ·rename_i o ho
   split at h1
   ·rename_i id hid
    obtain rfl:=Nat.eq_of_beq_eq_true h1
    have hmem:=List.mem_of_getElem? ho
    have hr:=hρ o hmem
    rw[hid]at hr
    obtain⟨_,g,e1,e2⟩:=hr
    refine⟨?_,fun c hc=>?_⟩
    ·rw[List.map_cons,List.map_cons,k1]
     congr 1
     rw[gQ,List.getElem?_map,ho]
     show E.val id=val o
     rw[e2]
     exact e1
    ·rcases List.mem_cons.1 hc with rfl|hc
     ·exact⟨o,hmem,hid⟩
     ·exact k2 c hc
   ·cases h1
  ·cases h1
theorem qih {ι:Type}{own:List (Nat×Blk N)}{ρ:ι->RV N}{val:ι->Value}{os0:List ι}(hρ:∀o∈os0,q0a w own E (ρ o) (val o))(f:FuncId)(js:List Nat)(r:RV N)(u:Value)(h:qtf ρ os0 f js r=true)(hr:q0a w own E r u):
  u=qbu (os0.map val) f js:=by
 unfold qtf at h
 split at h
 ·simp only[Bool.and_eq_true]at h
  obtain⟨h1,h2⟩:=h
  obtain rfl:=Nat.eq_of_beq_eq_true h1
  rw[hr.1]
  unfold qbu
  rw[(q7y hρ js _ h2).1]
 ·cases h
theorem q1k {ι:Type}{ρ:ι->RV N}{val:ι->Value}(h:RelE io w0 σ E a w){B0:List Nat}{os0:List ι}(hρ0:∀o∈os0,q0a w σ.own E (ρ o) (val o)):∀(ps:List PK) (os:List ι) (hρ:∀o∈os,q0a w σ.own E (ρ o) (val o)) (x:HIn N.ρ ps) (B D U:List Nat),q0i σ.own ρ os0 ps os=some (x,B,D,U)->(∀i∈B,i∈B0)->
  qm5 w (okb w.heap.size σ.own E B0) (os0.map val) ps x (os.map val) (D.flatMap fun id=>q0t (E id))/\(∀id∈D,∃b,look σ.own id=some b)/\(∀id∈U,id∈D/\∀b,look σ.own id=some b->b.pinned=false)
 |[],[],hρ,x,B,D,U,hc,hB=>by
  cases hc
  exact⟨⟨rfl,rfl⟩,(fun id hi=>by cases hi),(fun id hi=>by cases hi)⟩
 |[],_::_,hρ,x,B,D,U,hc,hB=>by cases hc
 |.v t::ps,[],hρ,x,B,D,U,hc,hB=>by cases hc
 |.io el e::ps,[],hρ,x,B,D,U,hc,hB=>by cases hc
 |.bw t::ps,[],hρ,x,B,D,U,hc,hB=>by cases hc
 |.bc l::ps,[],hρ,x,B,D,U,hc,hB=>by cases hc
 |.fv f::ps,[],hρ,x,B,D,U,hc,hB=>by cases hc
 |.fb f::ps,[],hρ,x,B,D,U,hc,hB=>by cases hc
 |.ag n l::ps,[],hρ,x,B,D,U,hc,hB=>by cases hc
 |.go el e::ps,[],hρ,x,B,D,U,hc,hB=>by cases hc
 |.fn f js::ps,[],hρ,x,B,D,U,hc,hB=>by cases hc
 |.rp t::ps,[],hρ,x,B,D,U,hc,hB=>by cases hc
 | .rp t::ps,o::os,hρ,x,B,D,U,hc,hB=>by
  simp only[q0i]at hc
  split at hc
  ·rename_i x1 b1 y B1 D1 U1 h1 h2
   cases hc
   obtain⟨ad,cs,k1,k2,k3,k4⟩:=h.readP h1 (hρ o mS)
   obtain⟨q1,q2,q3⟩:=q1k h hρ0 ps os (fun o ho=>hρ o (mC _ ho)) y B1 D U h2 (fun i hi=>hB i (mA.2 (.inr hi)))
   have hsub:∀i∈b1,i∈B0:=fun i hi=>hB i (mA.2 (.inl hi))
   exact⟨⟨val o,os.map val,[],_,rfl,rfl,⟨⟨ad,cs,k1,q54 hsub k2,q2k hsub k3,k4⟩,rfl⟩,q1⟩,q2,q3⟩
  ·cases hc
 | .fn f js::ps,o::os,hρ,x,B,D,U,hc,hB=>by
  simp only[q0i]at hc
  obtain⟨hf,hc⟩:=q02 hc
  split at hc
  ·rename_i y B1 D1 U1 h2
   cases hc
   have hev:=hρ o mS
   obtain⟨q1,q2,q3⟩:=q1k h hρ0 ps os (fun o ho=>hρ o (mC _ ho)) y B D U h2 hB
   exact⟨⟨val o,os.map val,[],_,rfl,rfl,⟨qih hρ0 f js _ _ hf hev,rfl⟩,q1⟩,q2,q3⟩
  ·cases hc
 | .go el e::ps,o::os,hρ,x,B,D,U,hc,hB=>by
  simp only[q0i]at hc
  split at hc
  ·rename_i id hid
   split at hc
   ·rename_i el' e' xs bs hlk
    obtain⟨hel,hc⟩:=q02 hc
    obtain⟨hel,hlt⟩:=q5y hel
    subst hel
    split at hc
    ·rename_i xs' y B1 D1 U1 h1 h2
     cases hc
     obtain⟨et,rfl⟩:=q0b h1
     cases et
     have hev:=hρ o mS
     rw[hid]at hev
     obtain⟨q1,q2,q3⟩:=q1k h hρ0 ps os (fun o ho=>hρ o (mC _ ho)) y B1 D1 U1 h2 (fun i hi=>hB i (mA.2 (.inr hi)))
     refine⟨⟨val o,os.map val,q0t (E id),_,rfl,rfl,⟨?_,by rw[hev.1]⟩,q1⟩,fun k hk=>?_,fun k hk=>?_⟩
     ·rw[hev.1]
      exact q6q (fun i hi=>hB i (mA.2 (.inl hi))) (h.ownAt hlk hlt)
     ·rcases List.mem_cons.1 hk with rfl|hk
      ·exact⟨_,hlk⟩
      ·exact q2 k hk
     ·rcases List.mem_cons.1 hk with rfl|hk
      ·exact⟨mS,fun b hb=>by rw[hlk]at hb;cases hb;rfl⟩
      ·exact⟨mC _ (q3 k hk).1,(q3 k hk).2⟩
    ·cases hc
   ·cases hc
  ·rename_i hid
   split at hc
   ·rename_i y B1 D1 U1 h2
    cases hc
    have hev:=hρ o mS
    rw[hid]at hev
    have hev:val o=.slice none 0 0:=hev
    obtain⟨q1,q2,q3⟩:=q1k h hρ0 ps os (fun o ho=>hρ o (mC _ ho)) y B D U h2 hB
    refine⟨⟨val o,os.map val,[],_,rfl,rfl,⟨⟨[],?_,rfl⟩,by rw[hev];rfl⟩,q1⟩,q2,q3⟩
    show _/\w.ownsRow 0 el (N.sz e) (val o) 0 []
    rw[hev]
    exact⟨.inl rfl,by simp,.inl ⟨rfl,rfl⟩⟩
   ·cases hc
  ·cases hc
 | .ag n l::ps,o::os,hρ,x,B,D,U,hc,hB=>by
  simp only[q0i]at hc
  split at hc
  ·rename_i id hid
   split at hc
   ·rename_i m rs hlk
    obtain⟨hm,hc⟩:=q02 hc
    split at hc
    ·rename_i x1 b1 J1 y B1 D1 U1 h1 h2
     cases hc
     have hev:=hρ o mS
     rw[hid]at hev
     obtain⟨arr,c1,c2,c3,c4⟩:=h.own id _ hlk
     obtain⟨p1,p2,p3⟩:=q37 h (B0:=B0) (qih hρ0) l rs arr.toList x1 b1 J1 h1 (by simpa using c2) (fun i r u hi hu=>c4 i r u hi (by simpa using hu)) (fun i hi=>hB i (mA.2 (.inl hi)))
     obtain⟨q1,q2,q3⟩:=q1k h hρ0 ps os (fun o ho=>hρ o (mC _ ho)) y B1 D1 U1 h2 (fun i hi=>hB i (mA.2 (.inr hi)))
     refine⟨⟨val o,os.map val,q4y l arr.toList,_,rfl,?_,⟨arr.toList,?_,p1,rfl⟩,q1⟩,fun k hk=>?_,fun k hk=>?_⟩
     ·rw[List.flatMap_append,p2]
     ·rw[hev.2,c1]
     ·rcases mA.1 hk with hk|hk
      ·obtain⟨b,hb,_⟩:=p3 k hk
       exact⟨b,hb⟩
      ·exact q2 k hk
     ·rcases mA.1 hk with hk|hk
      ·refine⟨mA.2 (.inl hk),fun b hb=>?_⟩
       obtain⟨b',hb',hp⟩:=p3 k hk
       rw[hb]at hb'
       cases hb'
       exact hp
      ·exact⟨mA.2 (.inr (q3 k hk).1),(q3 k hk).2⟩
    ·cases hc
   ·cases hc
  ·cases hc
 | .fv f::ps,o::os,hρ,x,B,D,U,hc,hB=>by
  simp only[q0i]at hc
  obtain⟨hf,hc⟩:=q02 hc
  split at hc
  ·rename_i y B1 D1 U1 h2
   cases hc
   have hev:=hρ o mS
   rw[ql2 hf]at hev
   obtain⟨q1,q2,q3⟩:=q1k h hρ0 ps os (fun o ho=>hρ o (mC _ ho)) y B D U h2 hB
   exact⟨⟨val o,os.map val,[],_,rfl,rfl,⟨hev.1,rfl⟩,q1⟩,q2,q3⟩
  ·cases hc
 | .fb f::ps,o::os,hρ,x,B,D,U,hc,hB=>by
  simp only[q0i]at hc
  split at hc
  ·rename_i id hid
   split at hc
   ·rename_i rs hlk
    obtain⟨hf,hc⟩:=q02 hc
    rw[qg1 hf]at hlk
    split at hc
    ·rename_i y B1 D1 U1 h2
     cases hc
     have hev:=hρ o mS
     rw[hid]at hev
     obtain⟨_,g,e1,e2⟩:=hev
     obtain⟨g',T,arr,c1,c2,c3,c4⟩:=h.own id _ hlk
     rw[e1]at c1
     cases c1
     obtain⟨q1,q2,q3⟩:=q1k h hρ0 ps os (fun o ho=>hρ o (mC _ ho)) y B D1 U h2 hB
     refine⟨⟨val o,os.map val,[g],_,rfl,?_,⟨g,T,arr,⟨e2,c2⟩,?_,rfl⟩,q1⟩,fun k hk=>?_,fun k hk=>⟨mC _ (q3 k hk).1,(q3 k hk).2⟩⟩
     ·rw[List.flatMap_cons,e1];rfl
     ·obtain⟨l⟩:=arr
      match l,c3 with
      |[u],_=>
       have:=(c4 0 _ u rfl (by simp)).1
       rw[this,e2,<-e1]
       rfl
     ·rcases List.mem_cons.1 hk with rfl|hk
      ·exact⟨_,hlk⟩
      ·exact q2 k hk
    ·cases hc
   ·cases hc
  ·cases hc
 | .v t::ps,o::os,hρ,x,B,D,U,hc,hB=>by
  simp only[q0i]at hc
  split at hc
  ·rename_i x1 b1 y B1 D1 U1 h1 h2
   cases hc
   obtain⟨cs,k1,k2⟩:=h.toDen h1 (hρ o mS)
   obtain⟨q1,q2,q3⟩:=q1k h hρ0 ps os (fun o ho=>hρ o (mC _ ho)) y B1 D U h2 (fun i hi=>hB i (mA.2 (.inr hi)))
   exact⟨⟨val o,os.map val,[],_,rfl,rfl,⟨⟨cs,q2k (fun i hi=>hB i (mA.2 (.inl hi))) k1,k2⟩,rfl⟩,q1⟩,q2,q3⟩
  ·cases hc
 | .io el e::ps,o::os,hρ,x,B,D,U,hc,hB=>by
  simp only[q0i]at hc
  split at hc
  ·rename_i id hid
   split at hc
   ·rename_i el' e' xs bs p hlk
    obtain⟨hel,hc⟩:=q02 hc
    obtain⟨hel,hlt⟩:=q5y hel
    subst hel
    split at hc
    ·rename_i xs' y B1 D1 U1 h1 h2
     cases hc
     obtain⟨et,rfl⟩:=q0b h1
     cases et
     have hev:=hρ o mS
     rw[hid]at hev
     obtain⟨q1,q2,q3⟩:=q1k h hρ0 ps os (fun o ho=>hρ o (mC _ ho)) y B1 D1 U h2 (fun i hi=>hB i (mA.2 (.inr hi)))
     refine⟨⟨val o,os.map val,q0t (E id),_,rfl,rfl,⟨?_,by rw[hev.1]⟩,q1⟩,fun k hk=>?_,fun k hk=>⟨mC _ (q3 k hk).1,(q3 k hk).2⟩⟩
     ·rw[hev.1]
      exact q6q (fun i hi=>hB i (mA.2 (.inl hi))) (h.ownAt hlk hlt)
     ·rcases List.mem_cons.1 hk with rfl|hk
      ·exact⟨_,hlk⟩
      ·exact q2 k hk
    ·cases hc
   ·cases hc
  ·cases hc
 | .bw t::ps,o::os,hρ,x,B,D,U,hc,hB=>by
  simp only[q0i]at hc
  split at hc
  ·rename_i id hid
   split at hc
   ·rename_i t' xv bs hlk
    split at hc
    ·rename_i x1 y B1 D1 U1 h1 h2
     cases hc
     obtain⟨et,rfl⟩:=q0b h1
     subst et
     have hev:=hρ o mS
     rw[hid]at hev
     obtain⟨_,g,e1,e2⟩:=hev
     obtain⟨g',T,arr,c1,c2,c3⟩:=h.own id _ hlk
     rw[e1]at c1
     cases c1
     obtain⟨q1,q2,q3⟩:=q1k h hρ0 ps os (fun o ho=>hρ o (mC _ ho)) y B1 D1 U h2 (fun i hi=>hB i (mA.2 (.inr hi)))
     refine⟨⟨val o,os.map val,[g],_,rfl,?_,⟨g,T,arr,⟨e2,c2⟩,q2k (fun i hi=>hB i (mA.2 (.inl hi))) c3,rfl⟩,q1⟩,fun k hk=>?_,fun k hk=>⟨mC _ (q3 k hk).1,(q3 k hk).2⟩⟩
     ·rw[List.flatMap_cons,e1];rfl
     ·rcases List.mem_cons.1 hk with rfl|hk
      ·exact⟨_,hlk⟩
      ·exact q2 k hk
    ·cases hc
   ·cases hc
  ·cases hc
 | .bc l::ps,o::os,hρ,x,B,D,U,hc,hB=>by
  simp only[q0i]at hc
  split at hc
  ·rename_i id hid
   split at hc
   ·rename_i rs hlk
    split at hc
    ·rename_i x1 b1 J1 y B1 D1 U1 h1 h2
     cases hc
     have hev:=hρ o mS
     rw[hid]at hev
     obtain⟨_,g,e1,e2⟩:=hev
     obtain⟨g',T,arr,c1,c2,c3,c4⟩:=h.own id _ hlk
     rw[e1]at c1
     cases c1
     obtain⟨p1,p2,p3⟩:=q37 h (B0:=B0) (qih hρ0) l rs arr.toList x1 b1 J1 h1 (by simpa using c3) (fun i r u hi hu=>c4 i r u hi (by simpa using hu)) (fun i hi=>hB i (mA.2 (.inl hi)))
     obtain⟨q1,q2,q3⟩:=q1k h hρ0 ps os (fun o ho=>hρ o (mC _ ho)) y B1 D1 U1 h2 (fun i hi=>hB i (mA.2 (.inr hi)))
     refine⟨⟨val o,os.map val,g::q4y l arr.toList,_,rfl,?_,⟨g,T,arr,⟨e2,c2⟩,p1,rfl⟩,q1⟩,fun k hk=>?_,fun k hk=>?_⟩
     ·rw[List.flatMap_cons,List.flatMap_append,e1,p2]
      simp[q0t,q0j]
     ·rcases List.mem_cons.1 hk with rfl|hk
      ·exact⟨_,hlk⟩
      ·rcases mA.1 hk with hk|hk
       ·obtain⟨b,hb,_⟩:=p3 k hk
        exact⟨b,hb⟩
       ·exact q2 k hk
     ·rcases mA.1 hk with hk|hk
      ·refine⟨mC _ (mA.2 (.inl hk)),fun b hb=>?_⟩
       obtain⟨b',hb',hp⟩:=p3 k hk
       rw[hb]at hb'
       cases hb'
       exact hp
      ·exact⟨mC _ (mA.2 (.inr (q3 k hk).1)),(q3 k hk).2⟩
    ·cases hc
   ·cases hc
  ·cases hc
/-! Behind the call. -/
abbrev Ent (N:Names):=Nat×Blk N×Value
def Ent.two (e:Ent N):Nat×Blk N:=(e.1,e.2.1)
def qge (l:List (Ent N))(own':List (Nat×Blk N))(E':Env):Prop:=∀e∈l,look own' e.1=some e.2.1/\E' e.1=e.2.2
def FkOk (w':World)(fk:FuncId->List Nat->RV N->Bool)(vs0:List Value)(own':List (Nat×Blk N))(E':Env):Prop:=∀f js r,fk f js r=true->q0a w' own' E' r (qbu vs0 f js)
def qs8 (w':World)(okA:Nat->Prop)(B:List Nat)(Hf:List (Nat×Blk N)->Env->Prop)(l:List (Ent N)):Prop:=
 ∀own' E',qge l own' E'->Hf own' E'->(∀g,okA g->okb w'.heap.size own' E' B g)->∀e∈l,q4j w' own' E' e.1 e.2.1
theorem q5m {okA:Nat->Prop}{B:List Nat}{own':List (Nat×Blk N)}{E':Env}{id:Nat}{el:TypeId}{e:Ty}{xs:List (e.den N.ρ)}{v:Value}{p:Bool}(h:qjm w' okA el e xs v)(hE:E' id=v)(hok:∀g,okA g->okb w'.heap.size own' E' B g):
  q4j w' own' E' id (.row el e xs B p):=by
 obtain⟨cells,h1,h2⟩:=h
 exact⟨cells,by rw[hE];exact .of' h1,q0p (fun x cs hx=>q09 (fun _ _ _ h=>h) hok hx) h2⟩
theorem qa9 {w:World}{H:Nat}{own:List (Nat×Blk N)}{E:Env}{B:List Nat}{t:Ty}{x:t.den N.ρ}{cs:List Value}(h:Rep w (okb H own E B) t x cs):Rep w (okb H own E (q8c N t B)) t x cs:=by
 unfold q8c
 cases hf:qkh N 4 t with
 |true=>exact qo0 4 t x cs hf h
 |false=>exact h
theorem qam {w:World}{own:List (Nat×Blk N)}{E:Env}{id:Nat}{el:TypeId}{e:Ty}{xs:List (e.den N.ρ)}{B:List Nat}{p:Bool}(h:q4j w own E id (.row el e xs B p)):q4j w own E id (.row el e xs (q8c N e B) p):=by
 obtain⟨cells,c1,c2⟩:=h
 exact⟨cells,c1,q0p (fun x cs hx=>qa9 hx) c2⟩
theorem q5w {okA:Nat->Prop}{B:List Nat}{own:List (Nat×Blk N)}{fk:FuncId->List Nat->RV N->Bool}{vs0:List Value}{Hf:List (Nat×Blk N)->Env->Prop}(hHf:∀own' E',Hf own' E'->FkOk w' fk vs0 own' E'):∀(l:List CK) (rs:List (RV N)) (x0:HC N.ρ l) (B0 J:List Nat) (y:HC N.ρ l) (us:List Value),q1x fk own l rs=some (x0,B0,J)->qe3 w' okA vs0 l y us->
  ∃L:List (Ent N),L.map Ent.two=q8t B l rs y/\L.map (·.1)=J/\q4y l us=L.flatMap (fun e=>q0t e.2.2)/\qs8 w' okA B Hf L/\us.length=(q1m B l rs y).length/\
   ∀own' E',qge L own' E'->Hf own' E'->(∀g,okA g->okb w'.heap.size own' E' B g)->∀(i:Nat) r u,(q1m B l rs y)[i]?=some r->us[i]?=some u->q0a w' own' E' r u
 |[],[],x0,B0,J,y,us,hc,hr=>by
  cases hc
  rw[show us=[]from hr]
  exact⟨[],rfl,rfl,rfl,(fun _ _ _ _ _ e he=>by cases he),rfl,fun _ _ _ _ _ i r u hi _=>by simp[q1m]at hi⟩
 |[],_::_,x0,B0,J,y,us,hc,hr=>by cases hc
 |.c t::l,[],x0,B0,J,y,us,hc,hr=>by cases hc
 |.o el e::l,[],x0,B0,J,y,us,hc,hr=>by cases hc
 |.f f js::l,[],x0,B0,J,y,us,hc,hr=>by cases hc
 | .f f js::l,r::rs,x0,B0,J,y,us,hc,hr=>by
  simp only[q1x]at hc
  obtain⟨hf,hc⟩:=q02 hc
  split at hc
  ·rename_i y1 B1 J1 h2
   cases hc
   obtain⟨u,rest,rfl,k1,k2⟩:=hr
   obtain⟨L,l1,l2,l3,l4,l5,l6⟩:=q5w (B:=B) hHf l rs y1 B0 J y.2 rest h2 k2
   refine⟨L,l1,l2,by simpa[q4y,qbo]using l3,l4,by simp[q1m,l5],fun own' E' hst hhf hok i r' u' hi hu=>?_⟩
   cases i with
   |zero=>
    simp only[q1m,List.getElem?_cons_zero,Option.some.injEq]at hi hu
    subst hi hu
    rw[show u=_ from k1]
    exact hHf own' E' hhf f js r hf
   |succ i=>exact l6 own' E' hst hhf hok i r' u' (by simpa[q1m]using hi) (by simpa using hu)
  ·cases hc
 | .c t::l,r::rs,x0,B0,J,y,us,hc,hr=>by
  simp only[q1x]at hc
  cases hn:qzt t with
  |true=>rw[hn]at hc;cases hc
  | false=>
   rw[hn]at hc
   simp only[cF]at hc
   split at hc
   ·rename_i x1 b1 y1 B1 J1 h1 h2
    cases hc
    obtain⟨u,rest,rfl,k1,k2⟩:=hr
    obtain⟨L,l1,l2,l3,l4,l5,l6⟩:=q5w (B:=B) hHf l rs y1 B1 J y.2 rest h2 k2
    refine⟨L,l1,l2,by simpa[q4y,qbo]using l3,l4,by simp[q1m,l5],fun own' E' hst hhf hok i r u' hi hu=>?_⟩
    cases i with
    | zero=>
     simp only[q1m,List.getElem?_cons_zero,Option.some.injEq]at hi hu
     subst hi hu
     have hv:AsV t u [u]:=by
      cases t with
      |nm n=>cases hn
      |_=>rfl
     exact q21 (qa9 (q09 (fun _ _ _ h=>h) hok k1)) hv
    |succ i=>exact l6 own' E' hst hhf hok i r u' (by simpa[q1m]using hi) (by simpa using hu)
   ·cases hc
 | .o el e::l,r::rs,x0,B0,J,y,us,hc,hr=>by
  simp only[q1x]at hc
  split at hc
  ·rename_i j
   split at hc
   ·rename_i el' e' xs bs hlk
    obtain⟨hel,hc⟩:=q02 hc
    obtain⟨hel,hlt⟩:=q5y hel
    subst hel
    split at hc
    ·rename_i xs' y1 B1 J1 h1 h2
     cases hc
     obtain⟨u,rest,rfl,k1,k2⟩:=hr
     obtain⟨L,l1,l2,l3,l4,l5,l6⟩:=q5w (B:=B) hHf l rs y1 B1 J1 y.2 rest h2 k2
     refine⟨(j,.row el' e y.1 (q8c N e B) false,u)::L,by simp[q8t,Ent.two,l1],by simp[l2],by simp[q4y,qbo,l3],?_,by simp[q1m,l5],fun own' E' hst hhf hok i r u' hi hu=>?_⟩
     ·intro own' E' hst hhf hok e he
      rcases List.mem_cons.1 he with rfl|he
      ·exact qam (q5m k1 (hst _ mS).2 hok)
      ·exact l4 own' E' (fun e he=>hst e (mC _ he)) hhf hok e he
     ·cases i with
      |zero=>
       simp only[q1m,List.getElem?_cons_zero,Option.some.injEq]at hi hu
       subst hi hu
       obtain⟨s1,s2⟩:=hst _ mS
       exact⟨s2.symm,y.1.length,e,el',y.1,q8c N e B,false,s1,rfl⟩
      |succ i=>exact l6 own' E' (fun e he=>hst e (mC _ he)) hhf hok i r u' (by simpa[q1m]using hi) (by simpa using hu)
    ·cases hc
   ·cases hc
  ·cases hc
theorem qnc {base el size n m:Nat}{A:Option Addr}{cap:Nat}{cells:List Value}(h:w.ownsRow base el size (.slice A n cap) m cells):m=n:=by
 rcases h.2 with⟨hv,hm⟩|⟨g,cap',cur,hv,_⟩
 ·cases hv;exact hm
 ·cases hv;rfl
theorem q1b {ι:Type}{ρ:ι->RV N}{val:ι->Value}(h:RelE io w0 σ E a w){okA:Nat->Prop}{B:List Nat}{os0:List ι}:∀(ps:List PK) (os:List ι) (hρ:∀o∈os,q0a w σ.own E (ρ o) (val o)) (x0:HIn N.ρ ps) (B0 D U:List Nat) (y:HOut N.ρ ps) (bl:List Nat),q0i σ.own ρ os0 ps os=some (x0,B0,D,U)->D.Nodup->q6i w' okA (os0.map val) ps y (os.map val) bl->
  ∃L:List (Ent N),L.map Ent.two=q2h σ.own ρ B ps os y/\((L.map (·.1)).Sublist D/\∀id∈D,id∈U\/id∈L.map (·.1))/\bl=L.flatMap (fun e=>q0t e.2.2)/\qs8 w' okA B (FkOk w' (qtf ρ os0) (os0.map val)) L/\
   ∀e∈L,e.1∈U\/∃b0,look σ.own e.1=some b0/\q5r b0 e.2.1/\e.2.2=E e.1/\(b0.pinned=true->e.2.1.pinned=true)
 |[],[],hρ,x0,B0,D,U,y,bl,hc,hD,hr=>by
  cases hc
  exact⟨[],rfl,⟨.slnil,fun id hid=>by cases hid⟩,hr,(fun _ _ _ _ _ e he=>by cases he),fun e he=>by cases he⟩
 |[],_::_,hρ,x0,B0,D,U,y,bl,hc,hD,hr=>by cases hc
 |.v t::ps,[],hρ,x0,B0,D,U,y,bl,hc,hD,hr=>by cases hc
 |.io el e::ps,[],hρ,x0,B0,D,U,y,bl,hc,hD,hr=>by cases hc
 |.bw t::ps,[],hρ,x0,B0,D,U,y,bl,hc,hD,hr=>by cases hc
 |.bc l::ps,[],hρ,x0,B0,D,U,y,bl,hc,hD,hr=>by cases hc
 |.fv f::ps,[],hρ,x0,B0,D,U,y,bl,hc,hD,hr=>by cases hc
 |.fb f::ps,[],hρ,x0,B0,D,U,y,bl,hc,hD,hr=>by cases hc
 |.ag n l::ps,[],hρ,x0,B0,D,U,y,bl,hc,hD,hr=>by cases hc
 |.go el e::ps,[],hρ,x0,B0,D,U,y,bl,hc,hD,hr=>by cases hc
 |.fn f js::ps,[],hρ,x0,B0,D,U,y,bl,hc,hD,hr=>by cases hc
 |.rp t::ps,[],hρ,x0,B0,D,U,y,bl,hc,hD,hr=>by cases hc
 | .rp t::ps,o::os,hρ,x0,B0,D,U,y,bl,hc,hD,hr=>by
  simp only[q0i]at hc
  split at hc
  ·rename_i x1 b1 y1 B1 D1 U1 h1 h2
   cases hc
   exact q1b (B:=B) h ps os (fun o ho=>hρ o (mC _ ho)) y1 B1 D U y bl h2 hD hr
  ·cases hc
 | .fn f js::ps,o::os,hρ,x0,B0,D,U,y,bl,hc,hD,hr=>by
  simp only[q0i]at hc
  obtain⟨hf,hc⟩:=q02 hc
  split at hc
  ·rename_i y1 B1 D1 U1 h2
   cases hc
   exact q1b (B:=B) h ps os (fun o ho=>hρ o (mC _ ho)) y1 B0 D U y bl h2 hD hr
  ·cases hc
 | .go el e::ps,o::os,hρ,x0,B0,D,U,y,bl,hc,hD,hr=>by
  simp only[q0i]at hc
  split at hc
  ·rename_i id hid
   split at hc
   ·rename_i el' e' xs bs hlk
    obtain⟨hel,hc⟩:=q02 hc
    split at hc
    ·rename_i xs' y1 B1 D1 U1 h1 h2
     cases hc
     obtain⟨L,l1,l2,l3,l4,l5⟩:=q1b (B:=B) h ps os (fun o ho=>hρ o (mC _ ho)) y1 B1 D1 U1 y bl h2 (List.nodup_cons.1 hD).2 hr
     refine⟨L,l1,⟨l2.1.cons _,fun k hk=>?_⟩,l3,l4,fun e he=>(l5 e he).imp (mC _) (fun h=>h)⟩
     rcases List.mem_cons.1 hk with rfl|hk
     ·exact .inl mS
     ·exact(l2.2 k hk).imp (mC _) (fun h=>h)
    ·cases hc
   ·cases hc
  ·rename_i hid
   split at hc
   ·rename_i y1 B1 D1 U1 h2
    cases hc
    exact q1b (B:=B) h ps os (fun o ho=>hρ o (mC _ ho)) y1 B0 D U y bl h2 hD hr
   ·cases hc
  ·cases hc
 | .ag n l::ps,o::os,hρ,x0,B0,D,U,y,bl,hc,hD,hr=>by
  simp only[q0i]at hc
  split at hc
  ·rename_i id hid
   split at hc
   ·rename_i m rs hlk
    obtain⟨hm,hc⟩:=q02 hc
    split at hc
    ·rename_i x1 bb1 J1 y1 B1 D1 U1 h1 h2
     cases hc
     rw[List.nodup_append]at hD
     obtain⟨L,l1,l2,l3,l4,l5⟩:=q1b (B:=B) h ps os (fun o ho=>hρ o (mC _ ho)) y1 B1 D1 U1 y bl h2 hD.2.1 hr
     refine⟨L,l1,⟨l2.1.trans (List.sublist_append_right _ _),fun k hk=>?_⟩,l3,l4,fun e he=>(l5 e he).imp (fun h=>mA.2 (.inr h)) (fun h=>h)⟩
     rcases mA.1 hk with hk|hk
     ·exact .inl (mA.2 (.inl hk))
     ·exact(l2.2 k hk).imp (fun h=>mA.2 (.inr h)) (fun h=>h)
    ·cases hc
   ·cases hc
  ·cases hc
 | .fv f::ps,o::os,hρ,x0,B0,D,U,y,bl,hc,hD,hr=>by
  simp only[q0i]at hc
  obtain⟨hf,hc⟩:=q02 hc
  split at hc
  ·rename_i y1 B1 D1 U1 h2
   cases hc
   exact q1b (B:=B) h ps os (fun o ho=>hρ o (mC _ ho)) y1 B0 D U y bl h2 hD hr
  ·cases hc
 | .fb f::ps,o::os,hρ,x0,B0,D,U,y,bl,hc,hD,hr=>by
  simp only[q0i]at hc
  split at hc
  ·rename_i id hid
   split at hc
   ·rename_i rs hlk
    obtain⟨hf,hc⟩:=q02 hc
    split at hc
    ·rename_i y1 B1 D1 U1 h2
     cases hc
     obtain⟨v,rest,b1,b2,hv,rfl,⟨g,T,arr,⟨kb1,kb2⟩,k1,rfl⟩,k2⟩:=hr
     rw[List.map_cons]at hv
     obtain⟨rfl,rfl⟩:=List.cons.inj hv
     have hev:=hρ o mS
     rw[hid]at hev
     obtain⟨_,g',e1,e2⟩:=hev
     have hg:g'=g:=by rw[e2]at kb1;cases kb1;rfl
     subst hg
     obtain⟨L,l1,l2,l3,l4,l5⟩:=q1b (B:=B) h ps os (fun o ho=>hρ o (mC _ ho)) y1 B0 D1 U y.2 b2 h2 (List.nodup_cons.1 hD).2 k2
     refine⟨(id,.cells [.fn f [id]],val o)::L,by simp[q2h,hid,Ent.two,l1],⟨by simpa using l2.1,fun k hk=>by rcases List.mem_cons.1 hk with rfl|hk;exact .inr mS;exact(l2.2 k hk).imp (fun h=>h) (fun h=>mC _ h)⟩,by simp[l3,kb1,q0t,q0j],?_,fun e' he=>?_⟩
     ·intro own' E' hst hhf hok e' he
      rcases List.mem_cons.1 he with rfl|he
      ·obtain⟨s1,s2⟩:=hst _ mS
       refine⟨g',T,arr,by rw[s2];exact kb1,kb2,by rw[k1];rfl,fun i r u hi hu=>?_⟩
       subst k1
       cases i with
       |zero=>
        simp only[List.getElem?_cons_zero,Option.some.injEq]at hi
        subst hi
        exact qpy ⟨_,s1⟩ s2 kb1 (Option.some.inj hu).symm
       |succ i=>simp at hi
      ·exact l4 own' E' (fun e he=>hst e (mC _ he)) hhf hok e' he
     ·rcases List.mem_cons.1 he with rfl|he
      ·exact .inr ⟨_,hlk,trivial,by rw[e1];exact kb1,fun _=>rfl⟩
      ·exact l5 e' he
    ·cases hc
   ·cases hc
  ·cases hc
 | .v t::ps,o::os,hρ,x0,B0,D,U,y,bl,hc,hD,hr=>by
  simp only[q0i]at hc
  split at hc
  ·rename_i x1 b1 y1 B1 D1 U1 h1 h2
   cases hc
   exact q1b (B:=B) h ps os (fun o ho=>hρ o (mC _ ho)) y1 B1 D U y bl h2 hD hr
  ·cases hc
 | .io el e::ps,o::os,hρ,x0,B0,D,U,y,bl,hc,hD,hr=>by
  simp only[q0i]at hc
  split at hc
  ·rename_i id hid
   split at hc
   ·rename_i el' e' xs bs p hlk
    obtain⟨hel,hc⟩:=q02 hc
    obtain⟨hel,hlt⟩:=q5y hel
    subst hel
    split at hc
    ·rename_i xs' y1 B1 D1 U1 h1 h2
     cases hc
     obtain⟨et,rfl⟩:=q0b h1
     cases et
     obtain⟨v,rest,b1,b2,hv,rfl,⟨k1,rfl⟩,k2⟩:=hr
     rw[List.map_cons]at hv
     obtain⟨rfl,rfl⟩:=List.cons.inj hv
     have hev:=hρ o mS
     rw[hid]at hev
     obtain⟨L,l1,l2,l3,l4,l5⟩:=q1b (B:=B) h ps os (fun o ho=>hρ o (mC _ ho)) y1 B1 D1 U y.2 b2 h2 (List.nodup_cons.1 hD).2 k2
     refine⟨(id,.row el' e y.1 (q8c N e B) p,val o)::L,by simp[q2h,hid,hlk,Ent.two,l1],⟨by simpa using l2.1,fun k hk=>by rcases List.mem_cons.1 hk with rfl|hk;exact .inr mS;exact(l2.2 k hk).imp (fun h=>h) (fun h=>mC _ h)⟩,by simp[l3],?_,fun e' he=>?_⟩
     ·intro own' E' hst hhf hok e' he
      rcases List.mem_cons.1 he with rfl|he
      ·exact qam (q5m k1 (hst _ mS).2 hok)
      ·exact l4 own' E' (fun e he=>hst e (mC _ he)) hhf hok e' he
     ·rcases List.mem_cons.1 he with rfl|he
      ·refine .inr ⟨_,hlk,⟨rfl,?_⟩,hev.1,fun h=>h⟩
       obtain⟨_,A,cap,hE⟩:=h.rowRep hlk
       obtain⟨cells,c1,_⟩:=k1
       rw[hev.1,hE]at c1
       exact(qnc c1.2).symm
      ·exact l5 e' he
    ·cases hc
   ·cases hc
  ·cases hc
 | .bw t::ps,o::os,hρ,x0,B0,D,U,y,bl,hc,hD,hr=>by
  simp only[q0i]at hc
  split at hc
  ·rename_i id hid
   split at hc
   ·rename_i t' xv bs hlk
    split at hc
    ·rename_i x1 y1 B1 D1 U1 h1 h2
     cases hc
     obtain⟨v,rest,b1,b2,hv,rfl,⟨g,T,arr,⟨kb1,kb2⟩,k1,rfl⟩,k2⟩:=hr
     rw[List.map_cons]at hv
     obtain⟨rfl,rfl⟩:=List.cons.inj hv
     have hev:=hρ o mS
     rw[hid]at hev
     obtain⟨_,g',e1,e2⟩:=hev
     have hg:g'=g:=by rw[e2]at kb1;cases kb1;rfl
     subst hg
     obtain⟨L,l1,l2,l3,l4,l5⟩:=q1b (B:=B) h ps os (fun o ho=>hρ o (mC _ ho)) y1 B1 D1 U y.2 b2 h2 (List.nodup_cons.1 hD).2 k2
     refine⟨(id,.whole t y.1 B,val o)::L,by simp[q2h,hid,Ent.two,l1],⟨by simpa using l2.1,fun k hk=>by rcases List.mem_cons.1 hk with rfl|hk;exact .inr mS;exact(l2.2 k hk).imp (fun h=>h) (fun h=>mC _ h)⟩,by simp[l3,kb1,q0t,q0j],?_,fun e' he=>?_⟩
     ·intro own' E' hst hhf hok e' he
      rcases List.mem_cons.1 he with rfl|he
      ·exact⟨g',T,arr,by rw[(hst _ mS).2];exact kb1,kb2,q09 (fun _ _ _ h=>h) hok k1⟩
      ·exact l4 own' E' (fun e he=>hst e (mC _ he)) hhf hok e' he
     ·rcases List.mem_cons.1 he with rfl|he
      ·exact .inr ⟨_,hlk,trivial,by rw[e1];exact kb1,fun _=>rfl⟩
      ·exact l5 e' he
    ·cases hc
   ·cases hc
  ·cases hc
 | .bc l ::ps,o::os,hρ,x0,B0,D,U,y,bl,hc,hD,hr=>by
  simp only[q0i]at hc
  split at hc
  ·rename_i id hid
   split at hc
   ·rename_i rs hlk
    split at hc
    ·rename_i x1 bb1 J1 y1 B1 D1 U1 h1 h2
     cases hc
     obtain⟨v,rest,b1,b2,hv,rfl,⟨g,T,arr,⟨kb1,kb2⟩,k1,rfl⟩,k2⟩:=hr
     rw[List.map_cons]at hv
     obtain⟨rfl,rfl⟩:=List.cons.inj hv
     have hev:=hρ o mS
     rw[hid]at hev
     obtain⟨_,g',e1,e2⟩:=hev
     have hg:g'=g:=by rw[e2]at kb1;cases kb1;rfl
     subst hg
     have hD2:=(List.nodup_cons.1 hD).2
     rw[List.nodup_append]at hD2
     obtain⟨M,m1,m2,m3,m4,m5,m6⟩:=q5w (w':=w') (okA:=okA) (B:=B) (fun _ _ h=>h) l rs x1 bb1 J1 y.1 arr.toList h1 k1
     obtain⟨L,l1,l2,l3,l4,l5⟩:=q1b (B:=B) h ps os (fun o ho=>hρ o (mC _ ho)) y1 B1 D1 U1 y.2 b2 h2 hD2.2.1 k2
     refine⟨(id,.cells (q1m B l rs y.1),val o)::(M++L),by simp[q2h,hid,hlk,Ent.two,l1,m1],⟨by simpa[m2]using l2.1.append_left J1,fun k hk=>by
       rcases List.mem_cons.1 hk with rfl|hk
       ·exact .inr mS
       ·rcases mA.1 hk with hk|hk
        ·exact .inl (mA.2 (.inl hk))
        ·rcases l2.2 k hk with h|h
         ·exact .inl (mA.2 (.inr h))
         ·refine .inr (mC _ ?_)
          rw[List.map_append]
          exact mA.2 (.inr h)⟩,by simp[l3,m3,kb1,q0t,q0j],?_,fun e' he=>?_⟩
     ·intro own' E' hst hhf hok e' he
      have hstM:qge M own' E':=fun e he=>hst e (mC _ (mA.2 (.inl he)))
      rcases List.mem_cons.1 he with rfl|he
      ·exact⟨g',T,arr,by rw[(hst _ mS).2];exact kb1,kb2,by simpa using m5,fun i r u hi hu=>m6 own' E' hstM hhf hok i r u hi (by simpa using hu)⟩
      ·rcases mA.1 he with he|he
       ·exact m4 own' E' hstM hhf hok e' he
       ·exact l4 own' E' (fun e he=>hst e (mC _ (mA.2 (.inr he)))) hhf hok e' he
     ·rcases List.mem_cons.1 he with rfl|he
      ·exact .inr ⟨_,hlk,trivial,by rw[e1];exact kb1,fun _=>rfl⟩
      ·rcases mA.1 he with he|he
       ·left
        refine mA.2 (.inl ?_)
        rw[<-m2]
        exact List.mem_map.2 ⟨e',he,rfl⟩
       ·rcases l5 e' he with h5|h5
        ·exact .inl (mA.2 (.inr h5))
        ·exact .inr h5
    ·cases hc
   ·cases hc
  ·cases hc
theorem q7r {ok:Nat->Prop}{vs0:List Value}:∀(l:List CK) (x:HC N.ρ l) (us:List Value),qe3 w ok vs0 l x us->∀u∈us,u.oneCell'=true
 |[],x,us,h,u,hu=>by rw[show us=[]from h]at hu;cases hu
 |.c t::l,x,us,h,u,hu=>by
  obtain⟨u0,rest,rfl,k1,k2⟩:=h
  rcases List.mem_cons.1 hu with rfl|hu
  ·exact q7t (show Rep w ok t x.1 [u]from k1) u (by simp)
  ·exact q7r l x.2 rest k2 u hu
 | .o el e::l,x,us,h,u,hu=>by
  obtain⟨u0,rest,rfl,k1,k2⟩:=h
  rcases List.mem_cons.1 hu with rfl|hu
  ·obtain⟨cells,c1,_⟩:=k1
   rcases c1.2.2 with⟨hv,_⟩|⟨g,cap,cur,hv,_⟩<;>(rw[hv];rfl)
  ·exact q7r l x.2 rest k2 u hu
 |.f f js::l,x,us,h,u,hu=>by
  obtain⟨u0,rest,rfl,k1,k2⟩:=h
  rcases List.mem_cons.1 hu with rfl|hu
  ·rw[show u=_ from k1];rfl
  ·exact q7r l x.2 rest k2 u hu
theorem q65 {okA:Nat->Prop}{B:List Nat}{d j:Nat}:∀(l:List CK) (i:Nat) (y:HC N.ρ l) (us:List Value),qe3 w' okA [] l y us->
  ∃L:List (Ent N),L.map Ent.two=q3i B d j i l y/\L.map (·.1)=q3h d j i l/\q4y l us=L.flatMap (fun e=>q0t e.2.2)/\us.length=(q1i B d j i l y).length/\
   ∀own' E',qge L own' E'->(∀g,okA g->okb w'.heap.size own' E' B g)->(∀e∈L,q4j w' own' E' e.1 e.2.1)/\∀(k:Nat) r u,(q1i B d j i l y)[k]?=some r->us[k]?=some u->q0a w' own' E' r u
 |[],i,y,us,h=>by
  rw[show us=[]from h]
  exact⟨[],rfl,rfl,rfl,rfl,fun _ _ _ _=>⟨(fun e he=>by cases he),fun k r u hk _=>by simp[q1i]at hk⟩⟩
 | .c t::l,i,y,us,h=>by
  obtain⟨u,rest,rfl,k1,k2⟩:=h
  obtain⟨L,l1,l2,l3,l4,l5⟩:=q65 (B:=B) (d:=d) (j:=j) l (i+1) y.2 rest k2
  refine⟨L,l1,l2,by simpa[q4y,qbo]using l3,by simp[q1i,l4],fun own' E' hst hok=>?_⟩
  obtain⟨m1,m2⟩:=l5 own' E' hst hok
  refine⟨m1,fun k r u' hk hu=>?_⟩
  cases k with
  |zero=>
   simp only[q1i,List.getElem?_cons_zero,Option.some.injEq]at hk hu
   subst hk hu
   have hrep:Rep w' okA t y.1 [u]:=k1
   cases t with
   |nm n=>trivial
   |_=>exact q21 (qa9 (q09 (fun _ _ _ h=>h) hok hrep)) rfl
  |succ k=>exact m2 k r u' (by simpa[q1i]using hk) (by simpa using hu)
 | .o el e::l,i,y,us,h=>by
  obtain⟨u,rest,rfl,k1,k2⟩:=h
  obtain⟨L,l1,l2,l3,l4,l5⟩:=q65 (B:=B) (d:=d) (j:=j) l (i+1) y.2 rest k2
  refine⟨(rid d j i,.row el e y.1 (q8c N e B) false,u)::L,by simp[q3i,Ent.two,l1],by simp[q3h,l2],by simp[q4y,qbo,l3],by simp[q1i,l4],fun own' E' hst hok=>?_⟩
  obtain⟨m1,m2⟩:=l5 own' E' (fun e he=>hst e (mC _ he)) hok
  obtain⟨s1,s2⟩:=hst _ mS
  refine⟨fun e' he=>?_,fun k r u' hk hu=>?_⟩
  ·rcases List.mem_cons.1 he with rfl|he
   ·exact qam (q5m k1 s2 hok)
   ·exact m1 e' he
  ·cases k with
   |zero=>
    simp only[q1i,List.getElem?_cons_zero,Option.some.injEq]at hk hu
    subst hk hu
    exact⟨s2.symm,y.1.length,e,el,y.1,q8c N e B,false,s1,rfl⟩
   |succ k=>exact m2 k r u' (by simpa[q1i]using hk) (by simpa using hu)
 | .f f js::l,i,y,us,h=>by
  obtain⟨u,rest,rfl,k1,k2⟩:=h
  obtain⟨L,l1,l2,l3,l4,l5⟩:=q65 (B:=B) (d:=d) (j:=j) l (i+1) y.2 rest k2
  refine⟨L,l1,l2,by simpa[q4y,qbo]using l3,by simp[q1i,l4],fun own' E' hst hok=>?_⟩
  obtain⟨m1,m2⟩:=l5 own' E' hst hok
  refine⟨m1,fun k r u' hk hu=>?_⟩
  cases k with
  |zero=>
   simp only[q1i,List.getElem?_cons_zero,Option.some.injEq]at hk hu
   subst hk hu
   cases js with
   |nil=>exact⟨k1,fun id hid=>by cases hid⟩
   |cons j js=>trivial
  |succ k=>exact m2 k r u' (by simpa[q1i]using hk) (by simpa using hu)
theorem qj2 {okA:Nat->Prop}{B:List Nat}{d:Nat}:∀(rs:List RK) (j:Nat) (y:HRes N.ρ rs) (us:List Value) (rl:List Nat),qo1 w' okA rs y us rl->
  ∃L:List (Ent N),L.map Ent.two=q7n B d rs j y/\L.map (·.1)=q5o d rs j/\rl=L.flatMap (fun e=>q0t e.2.2)/\qs8 w' okA B (fun _ _=>True) L/\us.length=(q1o B d rs j y).length/\
   ∀own' E',qge L own' E'->(∀g,okA g->okb w'.heap.size own' E' B g)->∀(i:Nat) r u,(q1o B d rs j y)[i]?=some r->us[i]?=some u->q0a w' own' E' r u
 |[],j,y,us,rl,h=>by
  obtain⟨rfl,rfl⟩:=h
  exact⟨[],rfl,rfl,rfl,(fun _ _ _ _ _ e he=>by cases he),rfl,fun _ _ _ _ i r u hi _=>by simp[q1o]at hi⟩
 | .v t::rs,j,y,us,rl,h=>by
  obtain⟨v,rest,b1,b2,rfl,rfl,⟨⟨cs,k1,k2⟩,rfl⟩,k3⟩:=h
  obtain⟨L,l1,l2,l3,l4,l5,l6⟩:=qj2 (B:=B) (d:=d) rs (j+1) y.2 rest b2 k3
  refine⟨L,l1,l2,by simpa using l3,l4,by simp[q1o,l5],fun own' E' hst hok i r u hi hu=>?_⟩
  cases i with
  |zero=>
   simp only[q1o,List.getElem?_cons_zero,Option.some.injEq]at hi hu
   subst hi hu
   exact q21 (qa9 (q09 (fun _ _ _ h=>h) hok k1)) k2
  |succ i=>exact l6 own' E' hst hok i r u (by simpa[q1o]using hi) (by simpa using hu)
 | .own el e::rs,j,y,us,rl,h=>by
  obtain⟨v,rest,b1,b2,rfl,rfl,⟨k1,rfl⟩,k3⟩:=h
  obtain⟨L,l1,l2,l3,l4,l5,l6⟩:=qj2 (B:=B) (d:=d) rs (j+1) y.2 rest b2 k3
  refine⟨(1000+d+10000*j,.row el e y.1 (q8c N e B) false,v)::L,by simp[q7n,Ent.two,l1],by simp[q5o,l2],by simp[l3],?_,by simp[q1o,l5],fun own' E' hst hok i r u hi hu=>?_⟩
  ·intro own' E' hst hhf hok e' he
   rcases List.mem_cons.1 he with rfl|he
   ·exact qam (q5m k1 (hst _ mS).2 hok)
   ·exact l4 own' E' (fun e he=>hst e (mC _ he)) hhf hok e' he
  ·cases i with
   |zero=>
    simp only[q1o,List.getElem?_cons_zero,Option.some.injEq]at hi hu
    subst hi hu
    obtain⟨s1,s2⟩:=hst _ mS
    exact⟨s2.symm,y.1.length,e,el,y.1,q8c N e B,false,s1,rfl⟩
   |succ i=>exact l6 own' E' (fun e he=>hst e (mC _ he)) hok i r u (by simpa[q1o]using hi) (by simpa using hu)
 | .ag n l::rs,j,y,us,rl,h=>by
  obtain⟨v,rest,b1,b2,rfl,rfl,⟨cs,k1,k1',rfl⟩,k3⟩:=h
  obtain⟨L,l1,l2,l3,l4,l5,l6⟩:=qj2 (B:=B) (d:=d) rs (j+1) y.2 rest b2 k3
  obtain⟨M,m1,m2,m3,m4,m5⟩:=q65 (B:=B) (d:=d) (j:=j) l 0 y.1 cs k1'
  have hvals:∀own' E',qge ((1000+d+10000*j,.vals n (q1i B d j 0 l y.1),v)::(M++L)) own' E'->qge M own' E':=fun own' E' hst e he=>hst e (mC _ (mA.2 (.inl he)))
  refine⟨(1000+d+10000*j,.vals n (q1i B d j 0 l y.1),v)::(M++L),by simp[q7n,Ent.two,l1,m1],by simp[q5o,l2,m2],by simp[l3,m3,k1,q0t,q0j],?_,by simp[q1o,l5],fun own' E' hst hok i r u hi hu=>?_⟩
  ·intro own' E' hst hhf hok e' he
   obtain⟨n1,n2⟩:=m5 own' E' (hvals own' E' hst) hok
   rcases List.mem_cons.1 he with rfl|he
   ·exact⟨cs.toArray,(hst _ mS).2.trans k1,by simpa using m4,fun u hu=>q7r l y.1 cs k1' u (by simpa using hu),fun i r u hi hu=>n2 i r u hi (by simpa using hu)⟩
   ·rcases mA.1 he with he|he
    ·exact n1 e' he
    ·exact l4 own' E' (fun e he=>hst e (mC _ (mA.2 (.inr he)))) trivial hok e' he
  ·cases i with
   |zero=>
    simp only[q1o,List.getElem?_cons_zero,Option.some.injEq]at hi hu
    subst hi hu
    obtain⟨s1,s2⟩:=hst _ mS
    exact⟨.inr (.inr (.inr ⟨n,_,s1⟩)),s2.symm⟩
   |succ i=>exact l6 own' E' (fun e he=>hst e (mC _ (mA.2 (.inr he)))) hok i r u (by simpa[q1o]using hi) (by simpa using hu)
end Go.Eng

set_option linter.unusedVariables false
set_option linter.unusedSimpArgs false
namespace Go.Eng
variable {N:Names} {io:Io} {w0 w w':World} {σ:St N} {E:Env} {a:Act} {P:Program}
theorem q11 {v:Value}{g:Nat}:g∈q0t v<->q0j v=some g:=by
 unfold q0t
 cases q0j v with
 |none=>simp
 |some b=>
  simp only[Option.toList,List.mem_singleton,Option.some.injEq]
  exact eq_comm
def q7l:List (Ent N)->Nat->Value
 |[],_=>.tuple #[]
 |e::l,i=>if e.1=i then e.2.2 else q7l l i
theorem q8x:∀{L:List (Ent N)},(L.map (·.1)).Nodup->∀e∈L,look (L.map Ent.two) e.1=some e.2.1/\q7l L e.1=e.2.2
 |[],_,e,he=>by cases he
 | x::L,hn,e,he=>by
  rw[List.map_cons,List.nodup_cons]at hn
  rcases List.mem_cons.1 he with rfl|he
  ·exact⟨by simp[look,Ent.two],by simp[q7l]⟩
  ·have hne:x.1≠e.1:=fun h=>hn.1 (List.mem_map.2 ⟨e,he,h.symm⟩)
   obtain⟨h1,h2⟩:=q8x hn.2 e he
   have:(x.1==e.1)=false:=by simpa using hne
   exact⟨by simp only[List.map_cons,look,Ent.two,this,cF];exact h1,by simp only[q7l,if_neg hne];exact h2⟩
theorem qio:∀{L:List (Ent N)} {i:Nat} {b:Blk N},look (L.map Ent.two) i=some b->∃e∈L,e.1=i/\e.2.1=b
 |[],_,_,h=>by cases h
 | x::L,i,b,h=>by
  simp only[List.map_cons,look,Ent.two]at h
  cases hx:(x.1==i)with
  |true=>
   rw[hx]at h
   cases h
   exact⟨x,mS,by simpa using hx,rfl⟩
  |false=>
   rw[hx]at h
   obtain⟨e,he,h1,h2⟩:=qio (L:=L) h
   exact⟨e,mC _ he,h1,h2⟩
theorem qmf:∀{L:List (Ent N)},(L.flatMap fun e=>q0t e.2.2).Nodup->∀e∈L,∀e'∈L,e.1≠e'.1->∀g,q0j e.2.2=some g->q0j e'.2.2≠some g
 |[],_,e,he,_,_,_,_,_=>by cases he
 | x::L,hn,e,he,e',he',hne,g,hg=>by
  rw[List.flatMap_cons,List.nodup_append]at hn
  rcases List.mem_cons.1 he with rfl|he
  ·rcases List.mem_cons.1 he' with rfl|he'
   ·exact absurd rfl hne
   ·intro hg'
    exact hn.2.2 g (q11.2 hg) g (List.mem_flatMap.2 ⟨e',he',q11.2 hg'⟩) rfl
  ·rcases List.mem_cons.1 he' with rfl|he'
   ·rename_i he2
    intro hg'
    exact hn.2.2 g (q11.2 hg') g (List.mem_flatMap.2 ⟨e,he2,q11.2 hg⟩) rfl
   ·exact qmf hn.2.1 e he e' he' hne g hg
theorem qau (r:RV N):qde [] [] r=r:=by
 have h1:∀l,q1j [] l=false:=fun l=>by
  unfold q1j
  rw[List.any_eq_false]
  intro i _
  simp
 simp[qde,h1]
theorem qr5 (b:Blk N):q1n [] [] b=b:=by
 cases b with
 |cells l=>
  simp only[q1n,Blk.map]
  rw[List.map_congr_left (fun r _=>qau r),List.map_id']
 |vals n l=>
  simp only[q1n,Blk.map]
  rw[List.map_congr_left (fun r _=>qau r),List.map_id']
 |_=>rfl
theorem qlo (s:Slot N):s.map (qde [] [])=s:=by
 cases s with
 |one r=>simp[Slot.map,qau]
 |tup l=>
  simp only[Slot.map]
  rw[List.map_congr_left (fun r _=>qau r),List.map_id']
theorem z11z {D U:List Nat}(hU:D=[]->U=[])(σ:St N)(new:List (Nat×Blk N)):
  havR D U σ new={regs:=σ.regs.map (Slot.map (qde D U)),own:=q0d new (qbn D (q59 (q1n D U) σ.own))}:=by
 cases D with
 | nil=>
  rw[hU rfl]
  have h1:σ.regs.map (Slot.map (qde [] []))=σ.regs:=by rw[List.map_congr_left (fun s _=>qlo s),List.map_id']
  have h2:q59 (q1n [] []) σ.own=σ.own:=by
   unfold q59
   rw[List.map_congr_left (g:=fun p=>p) (fun p _=>by rw[qr5]),List.map_id']
  rw[h1,h2]
  rfl
 |cons i r=>rfl
theorem qc9 (h:RelE io w0 σ E a w):∀{D:List Nat},D.Nodup->(∀id∈D,∃b,look σ.own id=some b)->(D.flatMap fun id=>q0t (E id)).Nodup
 |[],_,_=>List.nodup_nil
 | i::D,hn,hs=>by
  rw[List.nodup_cons]at hn
  rw[List.flatMap_cons,List.nodup_append]
  refine⟨?_,qc9 h hn.2 (fun id hid=>hs id (mC _ hid)),?_⟩
  ·unfold q0t
   cases q0j (E i)<;>simp
  ·intro g hg g' hg' e
   subst e
   obtain⟨j,hj,hg2⟩:=List.mem_flatMap.1 hg'
   obtain⟨bi,hbi⟩:=hs i mS
   obtain⟨bj,hbj⟩:=hs j (mC _ hj)
   exact h.sep i j bi bj hbi hbj (fun e=>hn.1 (e▸hj)) g (q11.1 hg) (q11.1 hg2)
theorem qut {l:List (RV N)}{us:List Value}{own:List (Nat×Blk N)}(hl:us.length=l.length)(h:∀(i:Nat) r u,l[i]?=some r->us[i]?=some u->q0a w own E r u):q43 w own E (qy2 l) (qb1 us):=by
 match l,us,hl with
 |[],[],_=>exact⟨[],rfl,rfl,fun i r u hi _=>by simp at hi⟩
 |[r],[u],_=>exact h 0 r u rfl rfl
 |r::r2::l,u::u2::us,hl=>exact⟨u::u2::us,rfl,hl,h⟩
theorem qk8 {β ι:Type}{S:Spec N}{f:FuncId}(hg:Good P f S){σ:St N}{ρ:ι->RV N}{os:List ι}{dst:Option Nat}{k:Slot N->St N->Option β}{r:β}(h:qk7 S σ ρ os dst k=some r):
  ∃s σ',k s σ'=some r/\σ'.regs.length=σ.regs.length/\∀io w0 E a w (val:ι->Value),RelE io w0 σ E a w->(∀o∈os,q0a w σ.own E (ρ o) (val o))->Calls P f ((os.map val).take (S.ps.length-S.gh)).toArray w fun e w'=>∃v E',e=.returned v/\RelE io w0 σ' E' a w'/\q43 w' σ'.own E' s v:=by
 unfold qk7 at h
 split at h
 ·cases h
 ·rename_i x B D U hc
  obtain⟨hcond,h⟩:=q02 h
  simp only[Bool.and_eq_true,Bool.not_eq_true']at hcond
  obtain⟨⟨⟨⟨hD,hDB⟩,hno⟩,hfr⟩,hrn⟩:=hcond
  have hrn:=q1u hrn
  have hD:=q1u hD
  have hDB:=q1t hDB
  obtain⟨y,hy,hk⟩:=Option.bind_eq_some_iff.1 h
  refine⟨_,_,hk,?_,fun io w0 E a w val hr hρ=>?_⟩
  ·cases D<;>simp[havR]
  obtain⟨c1,c2,c3⟩:=q1k hr (B0:=B) hρ S.ps os hρ x B D U hc (fun _ h=>h)
  have hcall:=hg.calls w (okb w.heap.size σ.own E B) x (os.map val) _ y (fun b hb=>hb.1.1) c1 (qc9 hr hD c2) (fun g hg=>by
   obtain⟨d,hd,hg2⟩:=List.mem_flatMap.1 hg
   obtain⟨bd,hbd⟩:=c2 d hd
   refine⟨fun hok=>hok.2 d (by rw[hbd];rfl) (fun hm=>hDB d hm hd) (q11.1 hg2),(hr.blk d bd hbd g (q11.1 hg2)).1⟩) hy
  refine hcall.mono ?_
  rintro e w' ⟨us,bl',rl,rfl,hA⟩
  obtain⟨L1,a1,a2,a3,a4,a5⟩:=q1b (w':=w') (B:=B) hr S.ps os hρ x B D U _ bl' hc hD hA.out
  obtain⟨L2,b1,b2,b3,b4,b5,b6⟩:=qj2 (w':=w') (B:=B) (d:=dst.getD 0) S.rs 0 _ us rl hA.res
  have hres:=q19 hfr
  have hids:((L1++L2).map (·.1)).Nodup:=by
   rw[List.map_append,b2,List.nodup_append]
   refine⟨hD.sublist a2.1,hrn,fun i hi j hj e=>?_⟩
   subst e
   obtain⟨b,hb⟩:=c2 i (a2.1.subset hi)
   rw[hres i hj]at hb
   cases hb
  have hnew:(L1++L2).map Ent.two=q2h σ.own ρ B S.ps os (S.out y).2++q7n B (dst.getD 0) S.rs 0 (S.out y).1:=by
   rw[List.map_append,a1,b1]
  have hblks:((L1++L2).flatMap fun e=>q0t e.2.2)=bl'++rl:=by
   rw[List.flatMap_append,<-a3,<-b3]
  have hinD:∀e∈L1,e.1∈D:=fun e he=>a2.1.subset (List.mem_map.2 ⟨e,he,rfl⟩)
  have hinR:∀e∈L2,e.1∈q5o (dst.getD 0) S.rs 0:=fun e he=>by rw[<-b2];exact List.mem_map.2 ⟨e,he,rfl⟩
  rw[<-hnew,z11z (D:=D) (U:=U) (fun e=>by
   subst e
   cases U with
   |nil=>rfl
   |cons i U=>exact absurd (c3 i mS).1 (by simp))]
  generalize hnw:(L1++L2).map Ent.two=new at*
  have hin:∀e∈L1++L2,look new e.1=some e.2.1/\q7l (L1++L2) e.1=e.2.2:=by
   intro e he
   have:=q8x hids e he
   rw[hnw]at this
   exact this
  have hof:∀id b,look new id=some b->∃e∈L1++L2,e.1=id/\e.2.1=b/\q7l (L1++L2) id=e.2.2:=by
   intro id b hb
   rw[<-hnw]at hb
   obtain⟨e,he,rfl,rfl⟩:=qio hb
   exact⟨e,he,rfl,rfl,(hin e he).2⟩
  have hsep:=qmf (L:=L1++L2) (by rw[hblks];exact hA.nodup)
  have hold:∀g∈bl'++rl,g<w'.heap.size/\((∃d∈D,(look σ.own d).isSome=true/\q0j (E d)=some g)\/w.heap.size<=g):=by
   intro g hg
   refine⟨(hA.old g hg).2,?_⟩
   rcases(hA.old g hg).1 with h1|h1
   ·obtain⟨d,hd,hg2⟩:=List.mem_flatMap.1 h1
    obtain⟨bd,hbd⟩:=c2 d hd
    exact .inl ⟨d,hd,by rw[hbd];rfl,q11.1 hg2⟩
   ·exact .inr h1
  have hN:NewOk σ.own E D U new (q7l (L1++L2)) w w':=by
   refine⟨?_,?_,?_,?_,fun id hid b hb=>(c3 id hid).2 b hb⟩
   ·intro id b hb g hg
    obtain⟨e,he,rfl,rfl,hv⟩:=hof id b hb
    rw[hv]at hg
    exact hold g (by rw[<-hblks];exact List.mem_flatMap.2 ⟨e,he,q11.2 hg⟩)
   ·intro id id' b b' hb hb' hne g hg
    obtain⟨e,he,rfl,rfl,hv⟩:=hof id b hb
    obtain⟨e',he',rfl,rfl,hv'⟩:=hof id' b' hb'
    rw[hv]at hg
    rw[hv']
    exact hsep e he e' he' hne g hg
   ·intro id b hb
    obtain⟨e,he,rfl,rfl,hv⟩:=hof id b hb
    rcases mA.1 he with he|he
    ·exact .inl (hinD e he)
    ·exact .inr (hres _ (hinR e he))
   ·intro id hid hU b hb
    have hid:=(a2.2 id hid).resolve_left hU
    obtain⟨e,he,rfl⟩:=List.mem_map.1 hid
    obtain⟨h1,h2⟩:=hin e (mA.2 (.inl he))
    rcases a5 e he with h3|⟨b0,h3,h4,h5,h6⟩
    ·exact absurd h3 hU
    ·rw[hb]at h3
     cases h3
     exact⟨_,h1,h4,by rw[h2,h5],h6⟩
  have hH:HavocW σ.own E D w w':=by
   refine⟨hA.kept.os,hA.kept.tape,hA.kept.output,hA.kept.size,fun g hg hd=>hA.kept.block g hg (fun hm=>?_)⟩
   obtain⟨d,hdd,hg2⟩:=List.mem_flatMap.1 hm
   obtain⟨bd,hbd⟩:=c2 d hdd
   exact hd d hdd (by rw[hbd];rfl) (q11.1 hg2)
  have hlook:∀j,look (q0d new (qbn D (q59 (q1n D U) σ.own))) j=match look new j with
    |some b=>some b
    |none=>if j∈D then none else(look σ.own j).map (q1n D U):=by
   intro j
   rw[q7a,q5j,q4q]
   cases look new j<;>rfl
  have hst:∀e∈L1++L2,look (q0d new (qbn D (q59 (q1n D U) σ.own))) e.1=some e.2.1/\qag E new (q7l (L1++L2)) e.1=e.2.2:=by
   intro e he
   obtain⟨h1,h2⟩:=hin e he
   exact⟨by rw[hlook,h1],by rw[q2r h1,h2]⟩
  have hok:∀g,qis (okb w.heap.size σ.own E B) w w' (D.flatMap fun id=>q0t (E id)) (bl'++rl) g->okb w'.heap.size (q0d new (qbn D (q59 (q1n D U) σ.own))) (qag E new (q7l (L1++L2))) B g:=by
   rintro g ⟨g1,g2,g3⟩
   refine⟨⟨g1,?_⟩,fun id hid hB=>?_⟩
   ·show E.A g
    rcases g2 with g2|g2|g2
    ·exact g2.1.2
    ·obtain⟨d,hd,hg2⟩:=List.mem_flatMap.1 g2
     obtain⟨bd,hbd⟩:=c2 d hd
     rw[hr.sc]
     exact hr.nw g (hr.blk d bd hbd g (q11.1 hg2)).2
    ·rw[hr.sc]
     exact hr.nw g (.inl (Nat.le_trans hr.kept.size g2))
   ·cases hl:look new id with
    |some b=>
     obtain⟨e,he,rfl,rfl,hv⟩:=hof id b hl
     rw[q2r hl,hv]
     intro hg
     exact g3 (by rw[<-hblks];exact List.mem_flatMap.2 ⟨e,he,q11.2 hg⟩)
    | none=>
     rw[q2s hl]
     rw[hlook,hl]at hid
     simp only at hid
     by_cases hidD:id∈D
     ·rw[if_pos hidD]at hid;cases hid
     ·rw[if_neg hidD]at hid
      have hs:(look σ.own id).isSome=true:=by
       cases h:look σ.own id with
       |none=>rw[h]at hid;cases hid
       |some b=>rfl
      intro hg
      rcases g2 with g2|g2|g2
      ·exact g2.2 id hs hB hg
      ·obtain⟨d,hd,hg2⟩:=List.mem_flatMap.1 g2
       obtain⟨bd,hbd⟩:=c2 d hd
       obtain⟨b,hb⟩:=Option.isSome_iff_exists.1 hs
       exact hr.sep id d b bd hb hbd (fun e=>hidD (e▸hd)) g hg (q11.1 hg2)
      ·obtain⟨b,hb⟩:=Option.isSome_iff_exists.1 hs
       have:=(hr.blk id b hb g hg).1
       omega
  have hfk:FkOk w' (qtf ρ os) (os.map val) (q0d new (qbn D (q59 (q1n D U) σ.own))) (qag E new (q7l (L1++L2))):=by
   intro f' js r' hf'
   unfold qtf at hf'
   split at hf'
   ·rename_i f'' caps
    simp only[Bool.and_eq_true]at hf'
    obtain⟨hf1,hf2⟩:=hf'
    obtain rfl:=Nat.eq_of_beq_eq_true hf1
    obtain⟨q1,q2⟩:=q7y hρ js caps hf2
    have hbx:∀c∈caps,q53 (q0d new (qbn D (q59 (q1n D U) σ.own))) c/\qag E new (q7l (L1++L2)) c=E c/\∃g,E c=.pointer (some ⟨g,0,none⟩):=by
     intro c hcm
     obtain⟨o,ho,hoc⟩:=q2 c hcm
     have hro:=hρ o ho
     rw[hoc]at hro
     obtain⟨hbox,g,e1,e2⟩:=hro
     obtain⟨b,hb⟩:=q6o hbox
     have hbp:b.pinned=true:=by
      rcases hbox with⟨t,x,bs,k1⟩|⟨l,k1⟩|⟨kt,vt,es,k1⟩|⟨n,l,k1⟩<;>(rw[k1]at hb;cases hb;rfl)
     have hcU:c∉U:=fun hu=>by rw[(c3 c hu).2 b hb]at hbp;cases hbp
     have hl:=hlook c
     by_cases hcD:c∈D
     ·obtain⟨b',n1,n2,n3,_⟩:=hN.stay c hcD hcU b hb
      refine⟨?_,by rw[q2r n1,n3],g,e1⟩
      rw[n1]at hl
      cases b' with
      |row e' t' xs' bs' p'=>
       rcases hbox with⟨t,x,bs,k1⟩|⟨l,k1⟩|⟨kt,vt,es,k1⟩|⟨n,l,k1⟩<;>(rw[k1]at hb;cases hb;exact n2.elim)
      |whole t x bs=>exact .inl ⟨t,x,bs,hl⟩
      |cells l=>exact .inr (.inl ⟨l,hl⟩)
      |mapB kt vt es=>exact .inr (.inr (.inl ⟨kt,vt,es,hl⟩))
      |vals n l=>exact .inr (.inr (.inr ⟨n,l,hl⟩))
     ·have hnn:look new c=none:=by
       cases hn:look new c with
       |none=>rfl
       |some b'=>
        rcases hN.fresh c b' hn with h1|h1
        ·exact absurd h1 hcD
        ·rw[hb]at h1;cases h1
      refine⟨?_,q2s hnn,g,e1⟩
      rw[hnn]at hl
      simp only[if_neg hcD]at hl
      rcases hbox with⟨t,x,bs,k1⟩|⟨l,k1⟩|⟨kt,vt,es,k1⟩|⟨n,l,k1⟩
      ·rw[k1]at hl;exact .inl ⟨t,x,bs,hl⟩
      ·rw[k1]at hl;exact .inr (.inl ⟨_,hl⟩)
      ·rw[k1]at hl;exact .inr (.inr (.inl ⟨kt,vt,es,hl⟩))
      ·rw[k1]at hl;exact .inr (.inr (.inr ⟨_,_,hl⟩))
    refine⟨?_,fun c hcm=>⟨(hbx c hcm).1,(hbx c hcm).2.2.imp fun g hg=>(hbx c hcm).2.1.trans hg⟩⟩
    unfold qbu
    rw[<-q1,List.map_congr_left (fun c hcm=>(hbx c hcm).2.1)]
   ·cases hf'
  have hrel:=hr.havoc hH hN (qr9 hno) (fun id b hb=>by
   obtain⟨e,he,rfl,rfl,hv⟩:=hof id b hb
   rcases mA.1 he with he'|he'
   ·exact a4 _ _ (fun e he=>hst e (mA.2 (.inl he))) hfk hok e he'
   ·exact b4 _ _ (fun e he=>hst e (mA.2 (.inr he))) trivial hok e he')
  exact⟨_,_,rfl,hrel,qut b5 (b6 _ _ (fun e he=>hst e (mA.2 (.inr he))) hok)⟩
end Go.Eng

set_option linter.unusedVariables false
set_option linter.unusedSimpArgs false
namespace Go.Eng
variable {N:Names} {P:Program} {τ:TypeId->Option TI} {β:Type}
def scal:Ty->Bool
 |.int _=>true
 |.bool=>true
 |.str=>true
 |_=>false
def q7p:(t:Ty)->t.den N.ρ->t.den N.ρ->Bool
 |.int _,a,b=>decide (a=b)
 |.bool,a,b=>decide (a=b)
 |.str,a,b=>decide (a=b)
 |_,_,_=>false
def q7b {α β:Type}(eq:α->α->Bool):List (α×β)->α->Option β
 |[],_=>none
 |(k,z)::r,x=>bif eq x k then some z else q7b eq r x
def qp7 {α β:Type}(eq:α->α->Bool):List (α×β)->α->β->List (α×β)
 |[],x,y=>[(x,y)]
 |(k,z)::r,x,y=>bif eq x k then(x,y)::r else(k,z)::qp7 eq r x y
def hasK {α:Type}:Option α->Bool
 |some _=>true
 |none=>false
def orZ {α:Type}:Option α->α->α
 |some x,_=>x
 |none,z=>z
def qm6:Ty->TypeDesc->Prop
 |.int k,d=>d=.int k
 |.bool,d=>d=.bool
 |.str,d=>d=.string
 |_,_=>False
theorem quc (F:Fits P N τ){t e:TypeId}{kt:Ty}(h:τ t=some ⟨kt,e⟩)(hs:scal kt=true):∃d,P.underlying t=some d/\qm6 kt d:=by
 cases kt with
 |int k=>exact⟨_,(F.int t k e h).1,rfl⟩
 |bool=>exact⟨_,(F.bool t e h).1,rfl⟩
 |str=>exact⟨_,(F.str t e h).1,rfl⟩
 |_=>cases hs
theorem qdv {kt:Ty}{d:TypeDesc}{x:kt.den N.ρ}{v:Value}(hd:qm6 kt d)(h:q42 kt x v):MapKept.IsKey d v:=by
 cases kt with
 |int k=>cases hd;cases h;exact rfl
 |bool=>cases hd;cases h;exact trivial
 |str=>cases hd;obtain⟨s,rfl,_⟩:=h;exact trivial
 |_=>exact h.elim
theorem z12t {kt:Ty}{x y:kt.den N.ρ}{v u:Value}(hx:q42 kt x v)(hy:q42 kt y u):q7p (N:=N) kt x y=true<->v=u:=by
 cases kt with
 |int k=>cases hx;cases hy;simp[q7p]
 |bool=>cases hx;cases hy;simp[q7p]
 |str=>
  obtain⟨s,rfl,rfl⟩:=hx
  obtain⟨s',rfl,rfl⟩:=hy
  simp only[q7p,decide_eq_true_eq,Value.string.injEq]
  exact⟨q8s,fun h=>by rw[h]⟩
 |_=>exact hx.elim
theorem qig {kt vt:Ty}{d:TypeDesc}(hd:qm6 kt d){x:kt.den N.ρ}{v:Value}(hx:q42 kt x v):∀(es:List (kt.den N.ρ×vt.den N.ρ)) (arr:List MapEntry) (i:Nat),qgp kt vt es arr->
  (q7b (q7p (N:=N) kt) es x=none/\Instr.findNow d v arr i=some none/\∀y u c,q42 vt y u->qgp kt vt (qp7 (q7p (N:=N) kt) es x y) (arr++[⟨v,u,c⟩]))\/
  ∃j e z,q7b (q7p (N:=N) kt) es x=some z/\Instr.findNow d v arr i=some (some (i+j,e.val))/\arr[j]?=some e/\e.key=v/\q42 vt z e.val/\∀y u,q42 vt y u->qgp kt vt (qp7 (q7p (N:=N) kt) es x y) (arr.modify j fun e=>{e with key:=v,val:=u})
 |[],arr,i,h=>by
  rw[show arr=[]from h]
  exact .inl ⟨rfl,rfl,fun y u c hu=>⟨_,[],rfl,hx,hu,rfl⟩⟩
 | (k,z)::xs,arr,i,h=>by
  obtain⟨e,rest,rfl,h1,h2,h3⟩:=h
  have hk:=qdv hd hx
  have hk':=qdv hd h1
  obtain⟨r,hr,hiff⟩:=MapKept.sameNow_of_keys hk hk'
  have hse:=z12t hx h1
  cases hke:q7p (N:=N) kt x k with
  |true=>
   have hv:v=e.key:=hse.1 hke
   have hrt:r=true:=hiff.2 hv
   subst hrt
   refine .inr ⟨0,e,z,by simp[q7b,hke],by simp[Instr.findNow,hr],rfl,hv.symm,h2,fun y u hu=>?_⟩
   simp only[qp7,hke,cT,List.modify_zero_cons]
   exact⟨_,rest,rfl,hx,hu,h3⟩
  | false=>
   have hrf:r=false:=by
    cases r with
    |false=>rfl
    |true=>
     have:=hse.2 (hiff.1 rfl)
     rw[hke]at this
     cases this
   subst hrf
   rcases qig hd hx xs rest (i+1) h3 with⟨q1,q2,q3⟩|⟨j,e',z',q1,q2,q3,q4,q5,q6⟩
   ·refine .inl ⟨by simp[q7b,hke,q1],by simp[Instr.findNow,hr,q2],fun y u c hu=>?_⟩
    simp only[qp7,hke,cF,List.cons_append]
    exact⟨e,_,rfl,h1,h2,q3 y u c hu⟩
   ·refine .inr ⟨j+1,e',z',by simp[q7b,hke,q1],by simp[Instr.findNow,hr,q2];omega,by simpa using q3,q4,q5,fun y u hu=>?_⟩
    simp only[qp7,hke,cF,List.modify_succ_cons]
    exact⟨e,_,rfl,h1,h2,q6 y u hu⟩
def qq8 (t:Ty)(r:RV N):Option (t.den N.ρ):=
 match r with
 |.int k n=>q0u N (.int k) t n
 |.bool b=>q0u N .bool t b
 |.str l=>q0u N .str t l
 |_=>none
theorem qcj {w:World}{own:List (Nat×Blk N)}{E:Env}{t:Ty}{r:RV N}{v:Value}{x:t.den N.ρ}(h:qq8 t r=some x)(hr:q0a w own E r v):q42 t x v:=by
 cases r with
 |int k n=>obtain⟨e,rfl⟩:=q0b h;subst e;exact hr
 |bool b=>obtain⟨e,rfl⟩:=q0b h;subst e;exact hr
 |str l=>obtain⟨e,rfl⟩:=q0b h;subst e;exact hr
 |_=>cases h
theorem qvl {w:World}{own:List (Nat×Blk N)}{E:Env}{t:Ty}{x:t.den N.ρ}{v:Value}(h:q42 t x v):q0a w own E (q6d t x []) v:=by
 cases t with
 |int k=>exact h
 |bool=>exact h
 |str=>exact h
 |_=>exact h.elim
def qkx (τ:TypeId->Option TI)(t:TypeId):Option (Ty×Ty):=
 match τ t with
 |some ⟨.opq,e⟩=>bif decide (e<=1)then none else match τ (e/100000),τ (e%100000)with
  |some ⟨kt,_⟩,some ⟨vt,_⟩=>bif scal kt&&scal vt then some (kt,vt)else none
  |_,_=>none
 |_=>none
theorem q9z (F:Fits P N τ){t:TypeId}{kt vt:Ty}(h:qkx τ t=some (kt,vt)):∃k e ek ee,P.underlying t=some (.map k e)/\τ k=some ⟨kt,ek⟩/\τ e=some ⟨vt,ee⟩/\scal kt=true/\scal vt=true:=by
 unfold qkx at h
 split at h
 ·rename_i e hτ
  cases he:decide (e<=1)with
  |true=>rw[he]at h;cases h
  | false=>
   rw[he]at h
   simp only[cF]at h
   split at h
   ·rename_i kt' ek vt' ee h1 h2
    obtain⟨hs,h⟩:=q02 h
    cases h
    simp only[Bool.and_eq_true]at hs
    have he:¬e<=1:=by simpa using he
    rcases F.mp t e hτ with h0|⟨h0,_⟩|⟨_,h0⟩
    ·subst h0;exact absurd (by decide) he
    ·subst h0;exact absurd (by decide) he
    ·exact⟨_,_,_,_,h0,h1,h2,hs.1,hs.2⟩
   ·cases h
 ·cases h
def qep (τ:TypeId->Option TI)(σ:St N)(t:TypeId)(res:Option Operand)(dst:Option Nat)(k:KK N β):Option β:=
 match dst with
 |none=>none
 | some d=>match look σ.own (1000+d)with
  |some _=>none
  | none=>match qkx τ t with
   | some (kt,vt)=>match res with
    |none=>k (.one (.mp (1000+d))) [(1000+d,.mapB kt vt [])]
    |some o=>match ev σ o with
     |.int _ _=>k (.one (.mp (1000+d))) [(1000+d,.mapB kt vt [])]
     |_=>none
   |none=>none
theorem qeq (F:Fits P N τ){σ:St N}{t:TypeId}{res:Option Operand}{dst:Option Nat}{k:KK N β}{r:β}(h:qep τ σ t res dst k=some r):
  ∃s ad,k s ad=some r/\q2n P σ (fun a=>Instr.makeMap t (res.map a.eval)) s ad:=by
 unfold qep at h
 split at h
 ·cases h
 ·rename_i d
  split at h
  ·cases h
  ·rename_i hl
   split at h
   ·rename_i kt vt hm
    obtain⟨kk,ee,ek,ev',hu,_⟩:=q9z F hm
    have key:(∀io w0 E a w,RelE io w0 σ E a w->(Instr.makeMap t (res.map a.eval)).run P w=.ok (.map (some w.heap.size)) (w.alloc (.map #[] 0)))->
      k (.one (.mp (1000+d))) [(1000+d,.mapB kt vt [])]=some r->∃s ad,k s ad=some r/\q2n P σ (fun a=>Instr.makeMap t (res.map a.eval)) s ad:=by
     intro hrun hk
     refine⟨_,_,hk,fun io w0 E a w hr=>?_⟩
     have he:=Ext.alloc w (.map #[] 0)
     have hadd:=hr.add he (V:=.map (some w.heap.size)) (b:=.mapB kt vt []) hl (fun g hg=>by cases hg;exact⟨nR _,by simp⟩) ⟨w.heap.size,#[],0,q06 _ _ _,heap_alloc_new w _,rfl⟩
     exact⟨_,_,_,hrun io w0 E a w hr,hadd,.inr (.inr (.inl ⟨kt,vt,[],by rw[show q0d [(1000+d,Blk.mapB kt vt [])] σ.own=ins _ _ σ.own from rfl,q08,if_pos rfl]⟩)),(q06 _ _ _).symm⟩
    split at h
    ·exact key (fun io w0 E a w hr=>rfl) h
    ·rename_i o
     split at h
     ·rename_i k' n hn
      refine key (fun io w0 E a w hr=>?_) h
      have hv:=hr.ev o
      rw[hn]at hv
      have hv:a.eval o=.int k' n:=hv
      simp[Instr.makeMap,hv,run_underlying hu,asInt,asIntOf]
     ·cases h
   ·cases h
def qi5 (τ:TypeId->Option TI)(own:List (Nat×Blk N))(t:TypeId)(m x:RV N)(ok:Bool)(k:KK N β):Option β:=
 match m with
 | .mp id=>match look own id with
  | some (.mapB kt vt es)=>match qkx τ t with
   |some (kt',vt')=>bif decide (kt'=kt)&&decide (vt'=vt)then match qq8 kt x with
    |some key=>bif ok then k (.tup [q6d vt (orZ (q7b (q7p (N:=N) kt) es key) (N.dflt vt)) [],.bool (hasK (q7b (q7p (N:=N) kt) es key))]) []else k (.one (q6d vt (orZ (q7b (q7p (N:=N) kt) es key) (N.dflt vt)) [])) []
    |none=>none
    else none
   |none=>none
  |_=>none
 |_=>none
theorem qwc (F:Fits P N τ){t e:TypeId}{vt:Ty}(h:τ t=some ⟨vt,e⟩)(hs:scal vt=true):∃z,(∀w,(zeroValue t).run P w=.ok z w)/\q42 vt (N.dflt vt) z:=by
 obtain⟨i,z,zc,h1,h2,h3,h4,h5,h6,h7⟩:=F.info h
 refine⟨z,fun w=>by simp[zeroValue,typeInfo,h1,h2],?_⟩
 have h7:=h7 default (fun _=>True)
 cases vt with
 |int k=>
  have h6:zc.toList=[z]:=h6
  rw[h6]at h7
  cases h7
  exact rfl
 |bool=>
  have h6:zc.toList=[z]:=h6
  rw[h6]at h7
  cases h7
  exact rfl
 |str=>
  have h6:zc.toList=[z]:=h6
  rw[h6]at h7
  obtain⟨s,hs,hb⟩:=h7
  cases hs
  exact⟨s,rfl,hb⟩
 |_=>cases hs
theorem qgh (F:Fits P N τ){σ:St N}{t:TypeId}{m x:Operand}{ok:Bool}{k:KK N β}{r:β}(h:qi5 τ σ.own t (ev σ m) (ev σ x) ok k=some r):
  ∃s ad,k s ad=some r/\q2n P σ (fun a=>Instr.lookup t (a.eval m) (a.eval x) ok) s ad:=by
 unfold qi5 at h
 split at h
 ·rename_i id hid
  split at h
  ·rename_i kt vt es hlk
   split at h
   ·rename_i kt' vt' hm
    obtain⟨ht,h⟩:=q02 h
    simp only[Bool.and_eq_true,decide_eq_true_eq]at ht
    obtain⟨rfl,rfl⟩:=ht
    split at h
    ·rename_i key hkey
     obtain⟨kk,ee,ek,ev',hu,hτk,hτe,hsk,hsv⟩:=q9z F hm
     obtain⟨d,hd,hkd⟩:=quc F hτk hsk
     obtain⟨z,hz,hzr⟩:=qwc F hτe hsv
     have run:∀io w0 E a w,RelE io w0 σ E a w->∃u,q42 vt' (orZ (q7b (q7p (N:=N) kt') es key) (N.dflt vt')) u/\(Instr.lookup t (a.eval m) (a.eval x) ok).run P w=.ok (if ok then .tuple #[u,.bool (hasK (q7b (q7p (N:=N) kt') es key))]else u) w:=by
      intro io w0 E a w hr
      have hmv:=hr.ev m
      rw[hid]at hmv
      obtain⟨_,hmv⟩:=hmv
      obtain⟨g,arr,clock,c1,c2,c3⟩:=hr.own id _ hlk
      rw[c1]at hmv
      have hx:=qcj hkey (hr.ev x)
      have hik:=qdv hkd hx
      rcases qig hkd hx es arr.toList 0 c3 with⟨q1,q2,q3⟩|⟨j,e,y,q1,q2,q3,q4,q5,q6⟩
      ·refine⟨z,by rw[q1];exact hzr,?_⟩
       simp[Instr.lookup,run_underlying hu,hmv,MapKept.run_getObj_map c2,MapKept.run_checkKey hd hik,MapKept.run_findKey hd q2,hz,q1,hasK]
      ·refine⟨e.val,by rw[q1];exact q5,?_⟩
       simp[Instr.lookup,run_underlying hu,hmv,MapKept.run_getObj_map c2,MapKept.run_checkKey hd hik,MapKept.run_findKey hd q2,q1,hasK]
     cases ok with
     | true=>
      refine⟨_,_,h,fun io w0 E a w hr=>?_⟩
      obtain⟨u,u1,u2⟩:=run io w0 E a w hr
      refine⟨_,w,E,u2,hr,[u,.bool (hasK (q7b (q7p (N:=N) kt') es key))],rfl,rfl,fun i r' v hi hv=>?_⟩
      match i,hi,hv with
      |0,hi,hv=>
       simp only[List.getElem?_cons_zero,Option.some.injEq]at hi hv
       subst hi hv
       exact qvl u1
      |1,hi,hv=>
       simp only[List.getElem?_cons_succ,List.getElem?_cons_zero,Option.some.injEq]at hi hv
       subst hi hv
       exact rfl
      |n+2,hi,hv=>simp at hi
     |false=>
      refine⟨_,_,h,fun io w0 E a w hr=>?_⟩
      obtain⟨u,u1,u2⟩:=run io w0 E a w hr
      exact⟨_,w,E,u2,hr,qvl u1⟩
    ·cases h
   ·cases h
  ·cases h
 ·cases h
def q75 (τ:TypeId->Option TI)(σ:St N)(t:TypeId)(m x y:RV N)(k:St N->Option β):Option β:=
 match m with
 | .mp id=>match look σ.own id with
  | some (.mapB kt vt es)=>match qkx τ t with
   |some (kt',vt')=>bif decide (kt'=kt)&&decide (vt'=vt)&&qdg σ.own id then match qq8 kt x,qq8 vt y with
    |some key,some v=>k {regs:=σ.regs.map (Slot.map (q7q id)),own:=ins id (.mapB kt vt (qp7 (q7p (N:=N) kt) es key v)) σ.own}
    |_,_=>none
    else none
   |none=>none
  |_=>none
 |_=>none
theorem qkj {w:World}{g:Nat}(o:Obj):w.grownBy {w with heap:=w.heap.setIfInBounds g o} (some g):=
 ⟨rfl,rfl,rfl,by simp,fun k hk hne=>by
  simp only
  rw[Array.getElem?_setIfInBounds_ne]
  intro e
  exact hne (by rw[e])⟩
theorem q6l (F:Fits P N τ){σ:St N}{t:TypeId}{m x y:Operand}{k:St N->Option β}{r:β}(h:q75 τ σ t (ev σ m) (ev σ x) (ev σ y) k=some r):
  ∃σ',k σ'=some r/\z10f P σ (fun a=>Instr.mapUpdate t (a.eval m) (a.eval x) (a.eval y)) σ':=by
 unfold q75 at h
 split at h
 ·rename_i id hid
  split at h
  ·rename_i kt vt es hlk
   split at h
   ·rename_i kt' vt' hm
    obtain⟨ht,h⟩:=q02 h
    simp only[Bool.and_eq_true,decide_eq_true_eq]at ht
    obtain⟨⟨rfl,rfl⟩,hno⟩:=ht
    split at h
    ·rename_i key v hkey hv
     obtain⟨kk,ee,ek,ev',hu,hτk,hτe,hsk,hsv⟩:=q9z F hm
     obtain⟨d,hd,hkd⟩:=quc F hτk hsk
     refine⟨_,h,fun io w0 E a w hr=>?_⟩
     have hmv:=hr.ev m
     rw[hid]at hmv
     obtain⟨_,hmv⟩:=hmv
     obtain⟨g,arr,clock,c1,c2,c3⟩:=hr.own id _ hlk
     rw[c1]at hmv
     have hx:=qcj hkey (hr.ev x)
     have hy:=qcj hv (hr.ev y)
     have hik:=qdv hkd hx
     have hblk:q0j (E id)=some g:=by rw[c1];rfl
     have hlt:g<w.heap.size:=(Array.getElem?_eq_some_iff.1 c2).1
     have fin:∀o:Obj,(∃arr' clock',o=.map arr' clock'/\qgp kt' vt' (qp7 (q7p (N:=N) kt') es key v) arr'.toList)->
       RelE io w0 {regs:=σ.regs.map (Slot.map (q7q id)),own:=ins id (.mapB kt' vt' (qp7 (q7p (N:=N) kt') es key v)) σ.own} E a {w with heap:=w.heap.setIfInBounds g o}:=by
      rintro o ⟨arr',clock',rfl,ho⟩
      refine hr.store hlk trivial (fun h=>h) (by rw[hblk];exact qkj _) (q2v hno) ⟨g,arr',clock',c1,?_,ho⟩
      simp[hlt]
     rcases qig hkd hx es arr.toList 0 c3 with⟨q1,q2,q3⟩|⟨j,e,z,q1,q2,q3,q4,q5,q6⟩
     ·refine⟨_,E,?_,fin (.map (arr.push {key:=a.eval x,val:=a.eval y,born:=clock}) (clock+1)) ⟨_,_,rfl,by simpa using q3 v (a.eval y) clock hy⟩⟩
      simp[Instr.mapUpdate,run_underlying hu,hmv,MapKept.run_getObj_map c2,MapKept.run_checkKey hd hik,MapKept.run_findKey hd q2,MapKept.run_setObj_map _ c2]
     ·have hj:arr[j]?=some e:=by simpa using q3
      refine⟨_,E,?_,fin (.map (arr.modify j fun e=>{e with key:=a.eval x,val:=a.eval y}) clock) ⟨_,_,rfl,by simpa using q6 v (a.eval y) hy⟩⟩
      simp[Instr.mapUpdate,run_underlying hu,hmv,MapKept.run_getObj_map c2,MapKept.run_checkKey hd hik,MapKept.run_findKey hd q2,hj,q4,MapKept.run_keyThatStays hik,MapKept.run_setObj_map _ c2]
    ·cases h
   ·cases h
  ·cases h
 ·cases h
end Go.Eng
