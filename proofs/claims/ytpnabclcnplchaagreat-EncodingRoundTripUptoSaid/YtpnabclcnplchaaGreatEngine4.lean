/- The engine, part WH: regions whose order is open, with appends that take a row of the region away.
The engine, part WI: functions whose code is followed in place of a call.
The engine, part X: code, cut at the heads of its loops and at joins.
The engine, part Y: a function's own side: how it begins and how it ends.
The engine, part Z: from a function's code to what its callers may know.
The engine, part ZI: a function without loops, followed in place of its call.
The engine: a program's table of types, checked by computation.
The engine: a law's arguments, as they are read, are values; what they measure is at most the bulk of the reading.
Plain facts that the laws' own proofs use: wrapping, indices, counts.
The engine: the library's strings.Compare, as the kit's shelf has it.
The engine: the library's sort at strings, out of its contract.
The engine: the type of an array that is told as a list of its elements.
Plain facts on words of bits: wrapping, the operations on bits at numbers that are not negative, a number's bytes. -/
import Derived.Test.YtpnabclcnplchaaGreatEngine3
import Derived.Scope
import Derived.WalkKit
import Derived.ProofKit
import Derived.OpenShut
import Derived.JoinedCond
import Derived.ChangeArms
import Derived.ChangeOld
import Derived.WideShapes
import Derived.Carry
import Derived.Lib.Bytealg
import Derived.Sort.OwnSorted
set_option linter.unusedVariables false
set_option linter.unusedSimpArgs false
namespace Go.Eng
variable {N:Names} {P:Program} {τ:TypeId->Option TI} {β:Type}
def klL (H:List Nat)(r:RV N):RV N:=bif q1j H r.bs||q1j H r.refs then .undef else r
def qt3 (H:List Nat)(σ:St N):St N:=match H with
 |[]=>σ
 |H=>{regs:=σ.regs.map (Slot.map (klL H)),own:=qbn H σ.own}
def stA (σ0:St N)(eff:Nat->Eff N)(er:Nat->List Nat)(L:List Nat):St N:=qt3 (L.flatMap er) (sq σ0 eff L)
def qim (o:Oper):Bool:=match o.op with
 |.call c=>match c.callee with
  |.builtin .append=>true
  |_=>false
 |_=>false
def q9s (τ:TypeId->Option TI)(σ:St N)(o:Oper)(k:Slot N->List (Nat×Blk N)->List Nat->Option β):Option β:=
 match o.guard,o.dst,o.op with
 | none,some d,.call c=>match c.callee with
  | .builtin .append=>match c.args.toList,c.argTypes.toList with
   | [x,y],[t,t2]=>match τ t with
    | some ⟨.sl e,el⟩=>match q7m τ σ.own t t2 e (ev σ y)with
     | some (ys,b)=>match ev σ x with
      | .own id=>match look σ.own id with
       |some (.row el' e' xs bs false)=>bif eqB el' el&&!(q4l bs b).contains id then match q0u N (.sl e') (.sl e) xs with
        |some xs=>if xs.length+ys.length<=lim then k (.one (.own (1000+d))) [(1000+d,.row el e (xs++ys) (q4l bs b) false)] [id]else none
        |none=>none
        else none
       |_=>none
      |_=>none
     |none=>none
    |_=>none
   |_,_=>none
  |_=>none
 |_,_,_=>none
def qd0 (id:Nat)(s:Slot N):Bool:=match s with
 |.one r=>!r.bs.contains id&&!r.refs.contains id
 |.tup l=>l.all fun r=>!r.bs.contains id&&!r.refs.contains id
def qcz (id:Nat)(b:Blk N):Bool:=!b.bs.contains id&&!b.refs.contains id
abbrev qnw (N:Names):=Eff N×List Nat
def q72 (l:List (qnw N))(j:Nat):Eff N:=(l.getD j (⟨none,.tup [],[]⟩,[])).1
def erA (l:List (qnw N))(j:Nat):List Nat:=(l.getD j (⟨none,.tup [],[]⟩,[])).2
def qap:List Oper->Nat
 |[]=>0
 |o::r=>bif isE o||(qim o||q32 o)then qap r+1 else 0
def q0y (ops:List Oper):Nat:=Nat.min (qap ops) (qe2 ops ops.length)
def q5e (τ:TypeId->Option TI)(Φ:FuncId->Option (Spec N))(ops:List Oper)(σ0:St N):List Oper->List (qnw N)->(List (qnw N)->Option β)->Option β
 |[],effs,k=>k effs
 | o::rest,effs,k=>bif qim o then
   q9s τ (stA σ0 (q72 effs) (erA effs) (clo ops ops.length effs.length)) o fun s ad H=>q5e τ Φ ops σ0 rest (effs++[(⟨o.dst,s,ad⟩,H)]) k
  else bif q32 o then
   q2a τ (stA σ0 (q72 effs) (erA effs) (clo ops ops.length effs.length)) o fun s ad=>q5e τ Φ ops σ0 rest (effs++[(⟨none,s,ad⟩,[])]) k
  else
   q0v.drawOne τ Φ ops (stA σ0 (q72 effs) (erA effs) (clo ops ops.length effs.length)) o fun s ad=>qh9 (qse effs.length ops) s fun s=>q5e τ Φ ops σ0 rest (effs++[(⟨o.dst,s,ad⟩,[])]) k
def qsf (ops:List Oper)(σ0:St N)(effs:List (qnw N))(k id i:Nat):Bool:=
 (q72 effs i).ad.all (fun p=>qcz id p.2)&&((clo ops ops.length k).contains i||(qd0 id (q72 effs i).s&&!(qn2 (q72 effs i)).contains id))&&
 ((clo ops ops.length i).contains k||(Nat.beq i k||((clo ops ops.length k).contains i||match ops[i]?,look (sq σ0 (q72 effs) (clo ops ops.length i)).own id with
  |some o,none=>(qg8 ops o).all fun t=>qd0 id ((sq σ0 (q72 effs) (clo ops ops.length i)).reg t)
  |_,_=>false)))
def qx0 (τ:TypeId->Option TI)(Φ:FuncId->Option (Spec N))(ops:List Oper)(σ0:St N)(effs:List (qnw N))(j:Nat):Bool:=
 match qzr ops (effs.map (·.1)) j with
 |[]=>true
 |H=>match ops[j]? with
  |some o=>!qim o&&isOk (q0v.drawOne τ Φ ops (qs2 H (stA σ0 (q72 effs) (erA effs) (clo ops ops.length j))) o fun _ ad=>bif q1j H (ad.map (·.1))then none else some ())
  |none=>false
def qhv (τ:TypeId->Option TI)(Φ:FuncId->Option (Spec N))(ops:List Oper)(σ0:St N)(effs:List (qnw N)):Bool:=
 (q69 (effs.map (·.1))).all (fun d=>Nat.blt d σ0.regs.length)&&q3g (q69 (effs.map (·.1)))&&q7o (fun j=>storeAt ops j||q26 σ0.own (qn2 (q72 effs j))) effs.length&&
 q7o (fun i=>q7o (fun j=>!q1j (qn2 (q72 effs i)) (qn2 (q72 effs j))||(storeAt ops i&&!storeAt ops j&&(clo ops ops.length i).contains j)) i) effs.length&&
 q7o (fun j=>storeAt ops j||qx0 τ Φ ops σ0 effs j) effs.length&&
 q7o (fun i=>!storeAt ops i||(qn2 (q72 effs i)).all fun id=>qxy id σ0&&effs.all (fun e=>qn7 id e.1)) effs.length&&
 q7o (fun k=>(erA effs k).all fun id=>σ0.own.all (fun p=>qcz id p.2)&&q7o (fun i=>qsf ops σ0 effs k id i) effs.length) effs.length
def qeu (τ:TypeId->Option TI)(Φ:FuncId->Option (Spec N))(ops:List Oper)(σ0:St N)(k:St N->Option β):Option β:=
 bif q67 ops (q0y ops)then
  q5e τ Φ ops σ0 (ops.take (q0y ops)) [] fun effs=>
   bif qhv τ Φ ops σ0 effs then q3p τ Φ ops (ops.drop (q0y ops)) (stA σ0 (q72 effs) (erA effs) (q3e (q0y ops))) k else none
 else none
def qf0 (τ:TypeId->Option TI)(Φ:FuncId->Option (Spec N))(ops:List Oper)(σ0:St N)(k:St N->Option β):Option β:=
 bif ops.any qim&&!(q67 ops (qaq ops)||q67 ops (q79 ops))then qeu τ Φ ops σ0 k else qey τ Φ ops σ0 k
theorem qn0 (ops:List Oper):q0y ops<=ops.length:=
 Nat.le_trans (Nat.min_le_left _ _) (go ops)
where
 go:∀(ops:List Oper),qap ops<=ops.length
  |[]=>nR _
  |o::r=>by
   unfold qap
   cases isE o||(qim o||q32 o)with
   |true=>simpa using go r
   |false=>simp
theorem qfj {D l:List Nat}(h:∀i∈l,i∉D):q1j D l=false:=by
 cases hm:q1j D l with
 |false=>rfl
 |true=>
  obtain⟨i,hi,hd⟩:=List.any_eq_true.1 hm
  exact absurd (List.contains_iff_mem.1 hd) (h i hi)
theorem qun {id:Nat}{r:RV N}(h:(!r.bs.contains id&&!r.refs.contains id)=true):id∉r.bs/\id∉r.refs:=by
 simp only[Bool.and_eq_true,Bool.not_eq_true']at h
 exact⟨q07 h.1,q07 h.2⟩
theorem qp3 {H H':List Nat}{r:RV N}(h:∀id,(id∈r.bs\/id∈r.refs)->(id∈H<->id∈H')):klL H r=klL H' r:=by
 have e:∀l:List Nat,(∀id∈l,(id∈H<->id∈H'))->q1j H l=q1j H' l:=by
  intro l hl
  cases h1:q1j H l with
  |true=>
   obtain⟨i,hi,hd⟩:=List.any_eq_true.1 h1
   exact(List.any_eq_true.2 ⟨i,hi,List.contains_iff_mem.2 ((hl i hi).1 (List.contains_iff_mem.1 hd))⟩).symm
  |false=>exact(qfj (fun i hi hd=>q1t h1 i hi ((hl i hi).2 hd))).symm
 unfold klL
 rw[e r.bs (fun id hid=>h id (.inl hid)),e r.refs (fun id hid=>h id (.inr hid))]
theorem qin {H H':List Nat}{s:Slot N}(h:∀id,qd0 id s=false->(id∈H<->id∈H')):Slot.map (klL H) s=Slot.map (klL H') s:=by
 have ne:∀(r:RV N) id,(id∈r.bs\/id∈r.refs)->(!r.bs.contains id&&!r.refs.contains id)=false:=fun r id hid=>by
  cases hc:(!r.bs.contains id&&!r.refs.contains id)with
  |false=>rfl
  |true=>obtain⟨h1,h2⟩:=qun hc;exact(hid.elim h1 h2).elim
 cases s with
 |one r=>simp only[Slot.map];rw[qp3 (fun id hid=>h id (ne r id hid))]
 |tup l=>
  simp only[Slot.map]
  congr 1
  refine List.map_congr_left (fun r hr=>qp3 (fun id hid=>h id ?_))
  cases hc:qd0 id (.tup l)with
  |false=>rfl
  |true=>have:=List.all_eq_true.1 hc r hr;rw[ne r id hid]at this;cases this
theorem qn4 (s:Slot N):Slot.map (klL []) s=s:=by
 have m:∀l:List Nat,q1j [] l=false:=fun l=>qfj (fun i _ h=>by cases h)
 have e:∀r:RV N,klL [] r=r:=fun r=>by simp[klL,m]
 cases s with
 |one r=>simp only[Slot.map,e]
 |tup l=>simp[Slot.map,List.map_congr_left (fun r _=>e r)]
theorem qxp {id:Nat}{H:List Nat}(s:Slot N):Slot.map (qkt id) (Slot.map (klL H) s)=Slot.map (klL (id::H)) s:=by
 have m:∀l:List Nat,q1j (id::H) l=(l.contains id||q1j H l):=fun l=>by
  induction l with
  |nil=>rfl
  |cons x l ih=>
   have ih:l.any (fun i=>(id::H).contains i)=(l.contains id||l.any (fun i=>H.contains i)):=ih
   show((id::H).contains x||l.any (fun i=>(id::H).contains i))=((x::l).contains id||(H.contains x||l.any (fun i=>H.contains i)))
   rw[ih,List.contains_cons,List.contains_cons,Bool.beq_comm (a:=x)]
   cases(id==x)<;>cases l.contains id<;>cases H.contains x<;>rfl
 have e:∀r:RV N,qkt id (klL H r)=klL (id::H) r:=fun r=>by
  unfold klL
  rw[m,m]
  cases h:q1j H r.bs||q1j H r.refs with
  |true=>
   rw[show(r.bs.contains id||q1j H r.bs||(r.refs.contains id||q1j H r.refs))=true from by revert h;cases q1j H r.bs<;>cases q1j H r.refs<;>simp]
   rfl
  |false=>
   simp only[Bool.or_eq_false_iff]at h
   rw[h.1,h.2,Bool.or_false,Bool.or_false]
   rfl
 cases s with
 |one r=>simp only[Slot.map,e]
 |tup l=>simp only[Slot.map,List.map_map];congr 1;exact List.map_congr_left (fun r _=>e r)
theorem qlt (σ0:St N)(eff:Nat->Eff N)(er:Nat->List Nat)(L:List Nat):stA σ0 eff er L={regs:=(sq σ0 eff L).regs.map (Slot.map (klL (L.flatMap er))),own:=qbn (L.flatMap er) (sq σ0 eff L).own}:=by
 unfold stA qt3
 split
 ·rename_i h
  rw[h,List.map_congr_left (g:=fun s=>s) (fun s _=>qn4 s),List.map_id']
  rfl
 ·rfl
theorem q7j (σ0:St N)(eff:Nat->Eff N)(er:Nat->List Nat)(L:List Nat)(t:Nat):(stA σ0 eff er L).reg t=Slot.map (klL (L.flatMap er)) ((sq σ0 eff L).reg t):=by
 have hu:Slot.map (klL (L.flatMap er)) (.one .undef:Slot N)=.one .undef:=by simp[Slot.map,klL]
 rw[qlt]
 unfold St.reg
 simp only[gQ,List.getElem?_map]
 cases(sq σ0 eff L).regs[t]? with
 |none=>exact hu.symm
 |some s=>rfl
theorem q6e (σ0:St N)(eff:Nat->Eff N)(er:Nat->List Nat)(L:List Nat)(id:Nat):look (stA σ0 eff er L).own id=if id∈L.flatMap er then none else look (sq σ0 eff L).own id:=by
 rw[qlt]
 exact q5j _ _ _
theorem q2w (σ0:St N)(eff:Nat->Eff N)(er:Nat->List Nat)(L:List Nat):(stA σ0 eff er L).regs.length=σ0.regs.length:=by
 rw[qlt,List.length_map,q3w]
structure ChkA (ops:List Oper) (σ0:St N) (eff:Nat->Eff N) (er:Nat->List Nat) (m:Nat):Prop where
 ok:EffsW ops σ0 eff m
 share:qbp ops eff m
 noId:∀i,i<m->storeAt ops i=true->∀id b,look (eff i).ad id=some b->NoId id σ0/\∀j,j<m->qn7 id (eff j)=true
 blk0:∀k,k<m->∀id∈er k,∀p∈σ0.own,qcz id p.2=true
 blk:∀k,k<m->∀id∈er k,∀i,i<m->∀p∈(eff i).ad,qcz id p.2=true
 slot:∀k,k<m->∀id∈er k,∀i,i<m->i∈clo ops ops.length k\/(qd0 id (eff i).s=true/\∀b,look (eff i).ad id≠some b)
 use:∀k,k<m->∀id∈er k,∀i,i<m->k∈clo ops ops.length i\/i=k\/i∈clo ops ops.length k\/(look (sq σ0 eff (clo ops ops.length i)).own id=none/\∀o,ops[i]?=some o->∀t∈qg8 ops o,qd0 id ((sq σ0 eff (clo ops ops.length i)).reg t)=true)
theorem qoj (effs:List (qnw N)):q0q (effs.map (·.1))=q72 effs:=by
 funext j
 unfold q0q q72
 rw[gQ,gQ,List.getElem?_map]
 cases effs[j]?<;>rfl
theorem z10r {Φ:FuncId->Option (Spec N)}{ops:List Oper}{σ0:St N}{effs:List (qnw N)}(h:qhv τ Φ ops σ0 effs=true):ChkA ops σ0 (q72 effs) (erA effs) effs.length/\∀j,j<effs.length->storeAt ops j=false->qx0 τ Φ ops σ0 effs j=true:=by
 simp only[qhv,Bool.and_eq_true]at h
 obtain⟨⟨⟨⟨⟨⟨h1,h2⟩,h3⟩,h4⟩,h5⟩,h6⟩,h7⟩:=h
 have h2:=q1u h2
 rw[q8v]at h1 h2
 have hget:∀{j},j<effs.length->(effs.map (·.1))[j]?=some (q72 effs j):=fun{j} hj=>by
  rw[<-qoj]
  exact q2q (by simpa using hj)
 have meet:∀{e e':Eff N} {id:Nat} {b b':Blk N},look e.ad id=some b->look e'.ad id=some b'->q1j (qn2 e) (qn2 e')=false->False:=fun hb hb' hm=>q1t hm _ (q2t hb') (q2t hb)
 have hsh:qbp ops (q72 effs) effs.length:=fun i j hi hj id b b' hb hb'=>by
  have:=q10 (q10 h4 i hi) j hj
  simp only[Bool.or_eq_true,Bool.not_eq_true',Bool.and_eq_true]at this
  rcases this with h|⟨⟨h7,h8⟩,h9⟩
  ·exact(meet hb hb' h).elim
  ·exact⟨h7,h8,List.contains_iff_mem.1 h9⟩
 have key2:∀k,k<effs.length->∀id∈erA effs k,∀i,i<effs.length->_:=fun k hk id hid i hi=>by
  have:=List.all_eq_true.1 (q10 h7 k hk) id hid
  simp only[Bool.and_eq_true]at this
  have:=q10 this.2 i hi
  simp only[qsf,Bool.and_eq_true]at this
  exact this
 refine⟨⟨⟨fun j hj d hd=>?_,fun i j hi hj d h7 h8=>?_,fun i j hi hj id b b' hb hb'=>?_,fun j hj hs id b hb=>?_⟩,hsh,fun i hi hs id b hb=>?_,fun k hk id hid=>?_,fun k hk id hid i hi=>List.all_eq_true.1 (key2 k hk id hid i hi).1.1,fun k hk id hid i hi=>?_,fun k hk id hid i hi=>?_⟩,fun j hj hs=>?_⟩
 ·exact Nat.le_of_ble_eq_true (List.all_eq_true.1 h1 d (List.mem_flatMap.2 ⟨_,List.mem_of_getElem? (hget hj),by rw[hd];simp⟩))
 ·exact q8m h2 i j _ _ (hget hi) (hget hj) d (by rw[h7];simp) (by rw[h8];simp)
 ·rcases Nat.lt_trichotomy i j with e|e|e
  ·exact .inr (.inl (hsh j i hj e id b' b hb' hb).2.2)
  ·exact .inl e
  ·exact .inr (.inr (hsh i j hi e id b b' hb hb').2.2)
 ·have:=q10 h3 j hj
  rw[hs,Bool.false_or]at this
  exact q19 this id (q2t hb)
 ·have:=q10 h6 i hi
  rw[hs,nT,Bool.false_or]at this
  have:=List.all_eq_true.1 this id (q2t hb)
  simp only[Bool.and_eq_true]at this
  refine⟨qh0 this.1,fun j hj=>?_⟩
  obtain⟨e,he,he2⟩:=List.mem_map.1 (List.mem_of_getElem? (hget hj))
  rw[<-he2]
  exact List.all_eq_true.1 this.2 e he
 ·have:=List.all_eq_true.1 (q10 h7 k hk) id hid
  simp only[Bool.and_eq_true]at this
  exact List.all_eq_true.1 this.1
 ·have:=(key2 k hk id hid i hi).1.2
  simp only[Bool.or_eq_true,Bool.and_eq_true,Bool.not_eq_true']at this
  rcases this with h|⟨h,h'⟩
  ·exact .inl (List.contains_iff_mem.1 h)
  ·exact .inr ⟨h,fun b hb=>q07 h' (q2t hb)⟩
 ·have:=(key2 k hk id hid i hi).2
  simp only[Bool.or_eq_true]at this
  rcases this with h|h|h|h
  ·exact .inl (List.contains_iff_mem.1 h)
  ·exact .inr (.inl (Nat.eq_of_beq_eq_true h))
  ·exact .inr (.inr (.inl (List.contains_iff_mem.1 h)))
  ·refine .inr (.inr (.inr ?_))
   split at h
   ·rename_i o ho hl
    refine⟨hl,fun o' ho' t ht=>?_⟩
    cases ho.symm.trans ho'
    exact List.all_eq_true.1 h t ht
   ·cases h
 ·have:=q10 h5 j hj
  rw[hs,Bool.false_or]at this
  exact this
theorem qiq {β:Type}{p:Nat×β}:∀{H:List Nat} {l:List (Nat×β)},p∈qbn H l->p∈l
 |[],l,h=>h
 |i::H,l,h=>qiq (go h)
where
 go {i:Nat}:∀{l:List (Nat×β)},p∈del i l->p∈l
  |[],h=>h
  | (k,v)::r,h=>by
   unfold del at h
   cases hk:(k==i)with
   |true=>rw[hk,cT]at h;exact mC _ (go h)
   |false=>
    rw[hk,cF]at h
    rcases List.mem_cons.1 h with h|h
    ·rw[h];exact mS
    ·exact mC _ (go h)
section
variable {ops:List Oper} {m:Nat} {σ0:St N} {eff:Nat->Eff N} {er:Nat->List Nat}
theorem qaw {L:List Nat}{id:Nat}:id∈L.flatMap er<->∃k∈L,id∈er k:=List.mem_flatMap
theorem z148 (hC:ChkA ops σ0 eff er m){i:Nat}(him:i<m){o:Oper}(ho:ops[i]?=some o){seq:List Nat}(hB:Before ops m i seq):∀k∈seq,∀id∈er k,k∈clo ops ops.length i\/(look (sq σ0 eff (clo ops ops.length i)).own id=none/\∀t∈qg8 ops o,qd0 id ((sq σ0 eff (clo ops ops.length i)).reg t)=true):=by
 intro k hk id hid
 rcases hC.use k (hB.lt k hk) id hid i him with h|h|h|h
 ·exact .inl h
 ·subst h;exact absurd hk hB.nin
 ·exact absurd (hB.lin.closed k hk i h) hB.nin
 ·exact .inr ⟨h.1,h.2 o ho⟩
theorem qyr (hm:m<=ops.length)(hD:DrawOk ops m)(hC:ChkA ops σ0 eff er m)(hdsts:∀j,j<m->∃o,ops[j]?=some o/\(eff j).dst=o.dst)
  {i:Nat} (him:i<m) {o:Oper} (ho:ops[i]?=some o) {seq:List Nat} (hB:Before ops m i seq):∀t∈qg8 ops o,(stA σ0 eff er seq).reg t=(stA σ0 eff er (clo ops ops.length i)).reg t:=by
 intro t ht
 rw[q7j,q7j,qce hm hD hC.ok hdsts him ho hB t ht]
 refine qin (fun id hid=>⟨fun h=>?_,fun h=>?_⟩)
 ·obtain⟨k,hk,hki⟩:=qaw.1 h
  rcases z148 hC him ho hB k hk id hki with h1|h1
  ·exact qaw.2 ⟨k,h1,hki⟩
  ·rw[h1.2 t ht]at hid
   cases hid
 ·obtain⟨k,hk,hki⟩:=qaw.1 h
  exact qaw.2 ⟨k,hB.clo k hk,hki⟩
theorem ownA (hC:ChkA ops σ0 eff er m){i:Nat}(him:i<m){o:Oper}(ho:ops[i]?=some o){seq:List Nat}(hB:Before ops m i seq){id:Nat}{b:Blk N}(hb:look (stA σ0 eff er (clo ops ops.length i)).own id=some b)
  (hs:look (sq σ0 eff (clo ops ops.length i)).own id=some b->look (sq σ0 eff seq).own id=some b):look (stA σ0 eff er seq).own id=some b:=by
 rw[q6e]at hb ⊢
 split at hb
 ·cases hb
 ·rename_i hn
  have hn2:id∉seq.flatMap er:=fun h=>by
   obtain⟨k,hk,hki⟩:=qaw.1 h
   rcases z148 hC him ho hB k hk id hki with h1|h1
   ·exact hn (qaw.2 ⟨k,h1,hki⟩)
   ·rw[h1.1]at hb
    cases hb
  rw[if_neg hn2]
  exact hs hb
theorem qyq (hm:m<=ops.length)(hD:DrawOk ops m)(hC:ChkA ops σ0 eff er m)(hdsts:∀j,j<m->∃o,ops[j]?=some o/\(eff j).dst=o.dst)
  {i:Nat} (him:i<m) {o:Oper} (ho:ops[i]?=some o) {H:List Nat} (hH:∀k,k<m->storeAt ops k=true->i∉clo ops ops.length k->∀id b,look (eff k).ad id=some b->id∈H)
  {seq:List Nat} (hB:Before ops m i seq):AgreeG ops o (qs2 H (stA σ0 eff er (clo ops ops.length i))) (stA σ0 eff er seq):=by
 refine⟨qyr hm hD hC hdsts him ho hB,fun id b hb=>?_,by show _=(stA σ0 eff er (clo ops ops.length i)).regs.length;rw[q2w,q2w]⟩
 have hb:look (qbn H (stA σ0 eff er (clo ops ops.length i)).own) id=some b:=hb
 rw[q5j]at hb
 split at hb
 ·cases hb
 ·rename_i hn
  exact ownA hC him ho hB hb (ql0 hC.ok hH hC.share hB id b hn)
theorem qze (hC:ChkA ops σ0 eff er m){i:Nat}(him:i<m)(hsi:storeAt ops i=false){seq:List Nat}(hB:Before ops m i seq):∀p∈(eff i).ad,look (stA σ0 eff er seq).own p.1=none:=by
 intro p hp
 rw[q6e]
 split
 ·rfl
 ·exact qf7 hC.ok him hsi hC.share hB p hp
theorem z15q (hC:ChkA ops σ0 eff er m){i:Nat}(him:i<m){seq:List Nat}(hB:Before ops m i seq):(∀id∈seq.flatMap er,qd0 id (eff i).s=true/\∀b,look (eff i).ad id≠some b):=by
 intro id hid
 obtain⟨k,hk,hki⟩:=qaw.1 hid
 rcases hC.slot k (hB.lt k hk) id hki i him with h|h
 ·exact absurd (hB.lin.closed k hk i h) hB.nin
 ·exact h
theorem z15s (hC:ChkA ops σ0 eff er m){i:Nat}(him:i<m)(her:er i=[]){seq:List Nat}(hB:Before ops m i seq):(∀t,(stA σ0 eff er (i::seq)).reg t=(q3n (stA σ0 eff er seq) (eff i)).reg t)/\∀id,look (stA σ0 eff er (i::seq)).own id=look (q3n (stA σ0 eff er seq) (eff i)).own id:=by
 have hkeep:=z15q hC him hB
 have hfl:(i::seq).flatMap er=seq.flatMap er:=by rw[List.flatMap_cons,her,List.nil_append]
 have hd1:∀d,(eff i).dst=some d->d<(stA σ0 eff er seq).regs.length:=fun d hd=>by rw[q2w];exact hC.ok.dst i him d hd
 have hd2:∀d,(eff i).dst=some d->d<(sq σ0 eff seq).regs.length:=fun d hd=>by rw[q3w];exact hC.ok.dst i him d hd
 refine⟨fun t=>?_,fun id=>?_⟩
 ·rw[q6j hd1,q7j,q7j,hfl,sq,q6j hd2]
  split
  ·rw[qin (H':=[]) (fun id hid=>⟨fun h=>absurd (hkeep id h).1 (by rw[hid];simp),fun h=>absurd h List.not_mem_nil⟩),qn4]
  ·rfl
 ·rw[q2u,q6e,q6e,hfl,sq,q2u]
  cases h:look (eff i).ad id with
  |none=>rfl
  |some b=>rw[if_neg (fun hm=>(hkeep id hm).2 b h)]
theorem z19u (hm:m<=ops.length)(hD:DrawOk ops m)(hC:ChkA ops σ0 eff er m)(hdsts:∀j,j<m->∃o,ops[j]?=some o/\(eff j).dst=o.dst)
  {i:Nat} (him:i<m) (hsi:storeAt ops i=false) {o:Oper} (ho:ops[i]?=some o) (her:er i=[]) {H:List Nat} (hop:q5v P ops i o (qs2 H (stA σ0 eff er (clo ops ops.length i))) (eff i))
  (hH:∀k,k<m->storeAt ops k=true->i∉clo ops ops.length k->∀id b,look (eff k).ad id=some b->id∈H):qaa P ops m (stA σ0 eff er) i:=by
 intro seq hB io w0 a w K Q hrel hK
 refine hop.2 _ (qyq hm hD hC hdsts him ho hH hB) (qze hC him hsi hB) io w0 a w K Q hrel (fun a' w' hr=>hK a' w' ?_)
 obtain⟨E,hE⟩:=hr
 obtain⟨n1,n2⟩:=z15s hC him her hB
 exact⟨E,hE.same (by rw[q2w,q9n,q2w]) n1 n2⟩
theorem qys {H:List Nat}{r:RV N}{id:Nat}(h:id∈(klL H r).bs):id∈r.bs:=by
 unfold klL at h
 cases hb:q1j H r.bs||q1j H r.refs with
 |true=>rw[hb]at h;cases h
 |false=>rw[hb]at h;exact h
theorem qvu (F:Fits P N τ){Φ:FuncId->Option (Spec N)}(hΦ:∀f S,Φ f=some S->Good P (f%1000000) S)(hm:m<=ops.length)(hD:DrawOk ops m)(hC:ChkA ops σ0 eff er m)(hdsts:∀j,j<m->∃o,ops[j]?=some o/\(eff j).dst=o.dst)
  {i:Nat} (him:i<m) (hsi:storeAt ops i=true) {o:Oper} (ho:ops[i]?=some o) (her:er i=[]) (hd:(eff i).dst=none) (h:q2a τ (stA σ0 eff er (clo ops ops.length i)) o (fun s ad=>some (s,ad))=some ((eff i).s,(eff i).ad)):qaa P ops m (stA σ0 eff er) i:=by
 have hEop:∀id b,look (eff i).ad id=some b->∀j,j<m->j≠i->∀b2,look (eff j).ad id=some b2->storeAt ops j=false/\j∈clo ops ops.length i:=by
  intro id b hb j hj hji b2 hb2
  rcases Nat.lt_trichotomy j i with e|e|e
  ·exact(hC.share i j him e id b b2 hb hb2).2
  ·exact absurd e hji
  ·have:=(hC.share j i hj e id b2 b hb2 hb).2.1
   rw[hsi]at this
   cases this
 refine qhc F hΦ ho h (fun seq hB=>qyr hm hD hC hdsts him ho hB) (fun id b hb seq hB b0 hb0=>ownA hC him ho hB hb0 (qvt hC.ok him hEop hC.share hsi id b hb seq hB b0)) (fun id b hb seq hB=>?_) (fun seq hB=>?_)
 ·obtain⟨n1,n2⟩:=hC.noId i him hsi id b hb
  have hn:=qn9 n1 n2 hB.lt
  rw[qlt]
  refine⟨fun s hs=>?_,fun p hp=>hn.own p (qiq hp)⟩
  obtain⟨s0,hs0,rfl⟩:=List.mem_map.1 hs
  have:=hn.regs s0 hs0
  cases s0 with
  |one r=>exact fun h=>this (qys h)
  |tup l=>
   intro h
   obtain⟨r,hr,hrb⟩:=List.mem_flatMap.1 h
   obtain⟨r0,hr0,rfl⟩:=List.mem_map.1 hr
   exact this (List.mem_flatMap.2 ⟨r0,hr0,qys hrb⟩)
 ·obtain⟨n1,n2⟩:=z15s hC him her hB
  refine⟨by rw[q2w,q2w],fun t=>?_,fun j=>?_⟩
  ·rw[n1]
   simp only[q3n,hd,St.put,St.reg]
  ·rw[n2,q2u]
   all_goals(cases look (eff i).ad j<;>rfl)
theorem qzv {p:Nat×Blk N}:∀{L:List Nat},p∈(sq σ0 eff L).own->p∈σ0.own\/∃j∈L,p∈(eff j).ad
 |[],h=>.inl h
 | j::L,h=>by
  have h:p∈q0d (eff j).ad (sq σ0 eff L).own:=by
   unfold sq q3n St.put St.putS at h
   revert h
   cases(eff j).dst<;>exact fun h=>h
  rcases qc8 h with h|h
  ·exact .inr ⟨j,mS,h⟩
  ·rcases qzv h with h|⟨k,hk,h⟩
   ·exact .inl h
   ·exact .inr ⟨k,mC _ hk,h⟩
theorem qxo {id:Nat}{b:Blk N}(h:qcz id b=true):q6b id b=b:=by
 simp only[qcz,Bool.and_eq_true,Bool.not_eq_true']at h
 have h1:=q07 h.1
 have h2:=q07 h.2
 have e:∀l:List (RV N),(∀r∈l,id∉r.bs/\id∉r.refs)->l.map (qkt id)=l:=fun l hl=>by
  rw[List.map_congr_left (g:=fun r=>r) (fun r hr=>by
   obtain⟨h3,h4⟩:=hl r hr
   unfold qkt
   rw[contains_no h3,contains_no h4]
   rfl)]
  simp
 cases b with
 |row e t xs b p=>rfl
 |whole t x b=>rfl
 |mapB kt vt es=>rfl
 |cells l=>simp only[q6b,Blk.map,e l (fun r hr=>⟨fun h=>h1 (List.mem_flatMap.2 ⟨r,hr,h⟩),fun h=>h2 (List.mem_flatMap.2 ⟨r,hr,h⟩)⟩)]
 |vals n l=>simp only[q6b,Blk.map,e l (fun r hr=>⟨fun h=>h1 (List.mem_flatMap.2 ⟨r,hr,h⟩),fun h=>h2 (List.mem_flatMap.2 ⟨r,hr,h⟩)⟩)]
where
 contains_no {l:List Nat} {i:Nat} (h:i∉l):l.contains i=false:=by
  cases hc:l.contains i with
  |false=>rfl
  |true=>exact absurd (List.contains_iff_mem.1 hc) h
theorem qqp {own own':List (Nat×Blk N)}(hs:Sub own own'){t t2:TypeId}{e:Ty}{x:RV N}{y:List (e.den N.ρ)×List Nat}(h:q7m τ own t t2 e x=some y):q7m τ own' t t2 e x=some y:=by
 unfold q7m at h ⊢
 cases ht:(t==t2)with
 |true=>rw[ht]at h;exact q2z hs h
 |false=>rw[ht]at h;exact h
theorem z137 (F:Fits P N τ){Φ:FuncId->Option (Spec N)}(hΦ:∀f S,Φ f=some S->Good P (f%1000000) S)(hm:m<=ops.length)(hD:DrawOk ops m)(hC:ChkA ops σ0 eff er m)(hdsts:∀j,j<m->∃o,ops[j]?=some o/\(eff j).dst=o.dst)
  {i:Nat} (him:i<m) {o:Oper} (hsi:storeAt ops i=false) (hH:∀k,k<m->storeAt ops k=true->i∉clo ops ops.length k->∀id b,look (eff k).ad id=some b->id∈([]:List Nat)) (ho:ops[i]?=some o) (h:q9s τ (stA σ0 eff er (clo ops ops.length i)) o (fun s ad H=>some (s,ad,H))=some ((eff i).s,(eff i).ad,er i)):qaa P ops m (stA σ0 eff er) i:=by
 intro seq hB io w0 a w K Q hrel hK
 have hA:AgreeG ops o (stA σ0 eff er (clo ops ops.length i)) (stA σ0 eff er seq):=qyq hm hD hC hdsts him ho hH hB
 have hf:=qze hC him hsi hB
 have hkeep:=z15q hC him hB
 obtain⟨o',ho',hdd⟩:=hdsts i him
 cases ho.symm.trans ho'
 have hAg:Agree o (stA σ0 eff er (clo ops ops.length i)) (stA σ0 eff er seq):=⟨fun t ht=>hA.regs t (mA.2 (.inr ht)),hA.sub⟩
 unfold q9s at h
 split at h
 ·rename_i d c hg hdst hop
  split at h
  ·rename_i hcal
   split at h
   ·rename_i x y t t2 hargs htys
    split at h
    ·rename_i e el hτ
     split at h
     ·rename_i ys b hsrc
      split at h
      ·rename_i id hx
       split at h
       ·rename_i el' e' xs bs hlk
        obtain⟨hc,h⟩:=q02 h
        split at h
        ·rename_i xs' hxs
         split at h
         ·rename_i hlim
          simp only[Option.some.injEq,Prod.mk.injEq]at h
          obtain⟨hs,had,her⟩:=h
          have hin:∀z,z=x\/z=y->z∈o.op.operands.toList:=fun z hz=>by
           rw[hop]
           simp only[Op.operands,Call.operands,hcal,Array.toList_append,hargs]
           rcases hz with rfl|rfl<;>simp
          have hx':=(hAg.ev (hin x (.inl rfl))).trans hx
          have hsrc':q7m τ (stA σ0 eff er seq).own t t2 e (ev (stA σ0 eff er seq) y)=some (ys,b):=by
           rw[hAg.ev (hin y (.inr rfl))]
           exact qqp hA.sub hsrc
          have hlk':=hA.sub _ _ hlk
          have hid:id∈er i:=by rw[<-her];simp
          -- nothing looks into id
          have hno:∀p∈(stA σ0 eff er seq).own,qcz id p.2=true:=by
           intro p hp
           rcases qzv (qiq (by rw[qlt]at hp;exact hp))with hp|⟨k,hk,hp⟩
           ·exact hC.blk0 i him id hid p hp
           ·exact hC.blk i him id hid k (hB.lt k hk) p hp
          have hnid:(1000+d)≠id/\(1000+d)∉seq.flatMap er:=by
           refine⟨fun e=>?_,fun hmem=>?_⟩
           ·have:=hf (1000+d,_) (by rw[<-had];exact mS)
            rw[e,hlk']at this
            cases this
           ·have:=(hkeep _ hmem).2
            rw[<-had]at this
            exact this (.row el e (xs'++ys) (q4l bs b) false) (by simp[look])
          have hfr:look (del id (stA σ0 eff er seq).own) (1000+d)=none:=by
           rw[q1h,if_neg (Ne.symm hnid.1)]
           exact hf (1000+d,_) (by rw[<-had];exact mS)
          have hnb:noBs (stA σ0 eff er seq).own id=true:=by
           refine List.all_eq_true.2 (fun p hp=>?_)
           have:=hno p hp
           simp only[qcz,Bool.and_eq_true]at this
           simp only[Bool.or_eq_true]
           right
           split
           ·rfl
           ·rfl
           ·exact this.1
          have hev:qgi τ Φ o (stA σ0 eff er seq) (fun σ=>some σ)=some (({regs:=(stA σ0 eff er seq).regs.map (Slot.map (qkt id)),own:=ins (1000+d) (.row el e (xs'++ys) (q4l bs b) false) (del id (q59 (q6b id) (stA σ0 eff er seq).own))}:St N).put o.dst (.one (.own (1000+d)))):=by
           unfold qgi
           rw[hop]
           simp only[hcal,hargs,htys,hdst,qdq,hτ,hsrc',hx',hlk',hc,hnb,Bool.and_true,cT,hxs,hfr,hlim,if_true,fin2]
          obtain⟨σ1,h1,h2⟩:=q6m F hΦ hev
          cases h1
          unfold wpOp
          have hoi:(ops.toArray)[i]?=some o:=by rw[List.getElem?_toArray];exact ho
          simp only[hoi]
          rw[if_pos (by simp[Region.wanted,hg])]
          refine .inl (h2 io w0 a w K Q hrel (fun a' w' hr=>hK a' w' ?_))
          obtain⟨E',hE'⟩:=hr
          have hfl:(i::seq).flatMap er=id::seq.flatMap er:=by rw[List.flatMap_cons,<-her];rfl
          have hdi:(eff i).dst=some d:=hdd.trans hdst
          have hd2:∀d,(eff i).dst=some d->d<(sq σ0 eff seq).regs.length:=fun d hd=>by rw[q3w];exact hC.ok.dst i him d hd
          refine⟨E',hE'.same ?_ (fun t'=>?_) (fun j=>?_)⟩
          ·rw[q2w,hdst]
           simp only[St.put,St.putS,List.length_set,List.length_map]
           exact(q2w _ _ _ _).symm
          ·have hkreg:∀t,({regs:=(stA σ0 eff er seq).regs.map (Slot.map (qkt id)),own:=ins (1000+d) (.row el e (xs'++ys) (q4l bs b) false) (del id (q59 (q6b id) (stA σ0 eff er seq).own))}:St N).reg t=Slot.map (qkt id) ((stA σ0 eff er seq).reg t):=fun t=>by
            have hu:Slot.map (qkt id) (.one .undef:Slot N)=.one .undef:=by simp[Slot.map,qkt,RV.bs,RV.refs]
            unfold St.reg
            simp only[gQ,List.getElem?_map]
            cases(stA σ0 eff er seq).regs[t]? with
            |none=>exact hu.symm
            |some s=>rfl
           rw[hdst]
           show _=(St.putS _ d _).reg t'
           rw[qpf (by simp only[List.length_map,q2w];exact hC.ok.dst i him d hdi),q7j,hfl,sq,q6j hd2,hdi,hkreg,q7j]
           by_cases ht:d=t'
           ·subst ht
            rw[if_pos rfl,if_pos rfl,<-hs]
            simp only[Slot.map,klL]
            rw[show q1j (id::seq.flatMap er) (RV.bs (.own (1000+d):RV N))=false from rfl,show q1j (id::seq.flatMap er) (RV.refs (.own (1000+d):RV N))=false from qfj (fun j hj hm=>by
             have hj:j=1000+d:=by simpa[RV.refs]using hj
             subst hj
             rcases List.mem_cons.1 hm with hm|hm
             ·exact hnid.1 hm
             ·exact hnid.2 hm)]
            rfl
           ·rw[if_neg ht,if_neg (fun h=>ht (Option.some.inj h)),qxp]
          ·rw [q6e,hfl,sq,q2u,<-had,hdst]
           show _=look (ins (1000+d) _ (del id (q59 (q6b id) (stA σ0 eff er seq).own))) j
           rw[q08,q1h,q4q,q6e]
           simp only[look]
           by_cases hj:1000+d=j
           ·subst hj
            rw[if_pos rfl,if_neg (fun hm=>(List.mem_cons.1 hm).elim hnid.1 hnid.2)]
            simp
           ·have hj2:(1000+d==j)=false:=by simpa using hj
            rw[if_neg hj,hj2]
            simp only[cF]
            by_cases hji:id=j
            ·subst hji
             rw[if_pos rfl,if_pos mS]
            ·rw[if_neg hji]
             by_cases hjm:j∈seq.flatMap er
             ·rw[if_pos hjm,if_pos (mC _ hjm)];rfl
             ·rw[if_neg hjm,if_neg (fun hm=>(List.mem_cons.1 hm).elim (fun e=>hji e.symm) hjm)]
              cases hl:look (sq σ0 eff seq).own j with
              |none=>rfl
              |some bj=>
               have hm:(j,bj)∈(stA σ0 eff er seq).own:=q3t (by rw[q6e,if_neg hjm,hl])
               rw[Option.map_some,qxo (hno _ hm)]
         ·cases h
        ·cases h
       ·cases h
      ·cases h
     ·cases h
    ·cases h
   ·cases h
  ·cases h
 ·cases h
end
def z10n (P:Program)(τ:TypeId->Option TI)(Φ:FuncId->Option (Spec N))(ops:List Oper)(i:Nat)(o:Oper)(σ:St N)(e:qnw N):Prop:=
 e.1.dst=o.dst/\((storeAt ops i=false/\e.2=[]/\q5v P ops i o σ e.1/\ParD τ Φ ops o σ e.1.s e.1.ad/\∀p∈e.1.ad,look σ.own p.1=none)\/(storeAt ops i=true/\e.2=[]/\q2a τ σ o (fun s ad=>some (s,ad))=some (e.1.s,e.1.ad)/\e.1.dst=none)\/
  (storeAt ops i=false/\qim o=true/\q9s τ σ o (fun s ad H=>some (s,ad,H))=some (e.1.s,e.1.ad,e.2)))
theorem qmc {σ:St N}{o:Oper}{k:Slot N->List (Nat×Blk N)->List Nat->Option β}{r:β}(h:q9s τ σ o k=some r):∃s ad H,k s ad H=some r/\q9s τ σ o (fun s ad H=>some (s,ad,H))=some (s,ad,H):=by
 unfold q9s at h ⊢
 split at h
 ·split at h
  ·split at h
   ·split at h
    ·split at h
     ·split at h
      ·split at h
       ·obtain⟨hc,h⟩:=q02 h
        split at h
        ·split at h
         ·rename_i hlim
          refine⟨_,_,_,h,?_⟩
          simp only[*,cT,if_true]
         ·cases h
        ·cases h
       ·cases h
      ·cases h
     ·cases h
    ·cases h
   ·cases h
  ·cases h
 ·cases h
theorem qls {σ0:St N}{eff eff':Nat->Eff N}{er er':Nat->List Nat}{L:List Nat}(h:∀j∈L,eff j=eff' j)(h':∀j∈L,er j=er' j):stA σ0 eff er L=stA σ0 eff' er' L:=by
 have e:∀{L:List Nat},(∀j∈L,er j=er' j)->L.flatMap er=L.flatMap er':=fun{L} h=>by
  induction L with
  |nil=>rfl
  |cons a L ih=>rw[List.flatMap_cons,List.flatMap_cons,h a mS,ih (fun j hj=>h j (mC _ hj))]
 unfold stA
 rw[q7h h,e h']
theorem q83 (F:Fits P N τ){Φ:FuncId->Option (Spec N)}(hΦ:∀f S,Φ f=some S->Good P (f%1000000) S){ops:List Oper}(hfwd:∀i,i<ops.length->∀k∈clo ops ops.length i,k<i){σ0:St N}{r:β}:∀(todo:List Oper) (effs:List (qnw N)) (k:List (qnw N)->Option β),
  (∀j,todo[j]?=none\/todo[j]?=ops[effs.length+j]?)->q5e τ Φ ops σ0 todo effs k=some r->
  (∀i,i<effs.length->∃o,ops[i]?=some o/\z10n P τ Φ ops i o (stA σ0 (q72 effs) (erA effs) (clo ops ops.length i)) (q72 effs i,erA effs i))->
  ∃all:List (qnw N),k all=some r/\all.length=effs.length+todo.length/\∀i,i<all.length->∃o,ops[i]?=some o/\z10n P τ Φ ops i o (stA σ0 (q72 all) (erA all) (clo ops ops.length i)) (q72 all i,erA all i)
 |[],effs,k,ht,h,hH=>⟨effs,h,rfl,hH⟩
 | o :: rest,effs,k,ht,h,hH=>by
  have ho:ops[effs.length]?=some o:=by
   rcases ht 0 with h0|h0
   ·simp at h0
   ·simpa using h0.symm
  have hl:effs.length<ops.length:=(List.getElem?_eq_some_iff.1 ho).1
  have hsa:storeAt ops effs.length=q32 o:=by simp[storeAt,ho]
  obtain ⟨e,h1,h3⟩:∃e:qnw N,q5e τ Φ ops σ0 rest (effs++[e]) k=some r/\z10n P τ Φ ops effs.length o (stA σ0 (q72 effs) (erA effs) (clo ops ops.length effs.length)) e:=by
   unfold q5e at h
   cases hs:qim o with
   |true=>
    rw[hs,cT]at h
    obtain⟨s,ad,H,h1,h2⟩:=qmc h
    refine⟨_,h1,rfl,.inr (.inr ⟨?_,hs,h2⟩)⟩
    rw[hsa]
    unfold qim at hs
    unfold q32
    split at hs
    ·rename_i hc;rw[hc]
    ·cases hs
   | false=>
    rw[hs,cF]at h
    cases hst:q32 o with
    | true=>
     rw[hst,cT]at h
     obtain⟨s,ad,h1,h2⟩:=qaf h
     have hdst:o.dst=none:=by
      unfold q2a at h2
      split at h2
      ·split at h2
       ·cases h2
       ·split at h2
        ·cases h2
        ·rename_i hdst
         exact hdst
      ·cases h2
     exact⟨_,h1,hdst.symm,.inr (.inl ⟨by rw[hsa,hst],rfl,h2,rfl⟩)⟩
    |false=>
     rw[hst,cF]at h
     obtain⟨s,ad,h1,h2,h3,h4⟩:=q4z F hΦ ho h
     rw[qg3]at h1
     exact⟨_,h1,rfl,.inl ⟨by rw[hsa,hst],rfl,h3,h4,h2⟩⟩
  have hold:∀j,j<effs.length->q72 (effs++[e]) j=q72 effs j/\erA (effs++[e]) j=erA effs j:=fun j hj=>by
   unfold q72 erA
   rw[gQ,gQ,List.getElem?_append_left hj]
   exact⟨rfl,rfl⟩
  have hnew:q72 (effs++[e]) effs.length=e.1/\erA (effs++[e]) effs.length=e.2:=by
   unfold q72 erA
   rw[gQ,List.getElem?_append_right (nR _)]
   simp
  obtain⟨all,a1,a2,a3⟩:=q83 F hΦ hfwd rest (effs++[e]) k (fun j=>by
   have:=ht (j+1)
   simp only[List.getElem?_cons_succ]at this
   rcases this with h|h
   ·exact .inl h
   ·exact .inr (by rw[h];congr 1;simp;omega)) h1 (fun i hi=>by
   rw[lA,List.length_singleton]at hi
   rcases Nat.lt_or_ge i effs.length with h'|h'
   ·obtain⟨oi,o1,o2⟩:=hH i h'
    refine⟨oi,o1,?_⟩
    rw[(hold i h').1,(hold i h').2,qls (fun j hj=>(hold j (Nat.lt_trans (hfwd i (by omega) j hj) h')).1) (fun j hj=>(hold j (Nat.lt_trans (hfwd i (by omega) j hj) h')).2)]
    exact o2
   ·have hi':i=effs.length:=by omega
    subst hi'
    refine⟨o,ho,?_⟩
    rw[hnew.1,hnew.2,qls (fun j hj=>(hold j (hfwd _ hl j hj)).1) (fun j hj=>(hold j (hfwd _ hl j hj)).2)]
    exact h3)
  exact⟨all,a1,by rw[a2];simp;omega,a3⟩
theorem qev (F:Fits P N τ){Φ:FuncId->Option (Spec N)}(hΦ:∀f S,Φ f=some S->Good P (f%1000000) S)(hm:P.follows .mixedOrders=true){ops:List Oper}{k:St N->Option β}{r:β}{io:Io}{w0:World}{Q:Exit->Act->World->Prop}
  (hk:∀σ a w,k σ=some r->Rel io w0 σ a w->Q .normal a w) {σ:St N} (h:qeu τ Φ ops σ k=some r) {a:Act} {w:World} (hr:Rel io w0 σ a w) {id:Nat}:(Code.region id ops.toArray true).wp P Q a w:=by
 unfold qeu at h
 obtain⟨hst,h⟩:=q02 h
 simp only[q67,Bool.and_eq_true,Bool.or_eq_true]at hst
 obtain⟨⟨⟨s1,s2⟩,s3⟩,s4⟩:=hst
 have hD:=qel s1 s2
 have hm':=qn0 ops
 have hfwd:∀i,i<ops.length->∀k∈clo ops ops.length i,k<i:=fun j hj=>q80 (S:=fun k=>k<j) (fun k hk l hl=>Nat.lt_trans (hD.fwd k (by omega) l hl) hk) _ j (hD.fwd j hj)
 obtain⟨all,h1,h2,h3⟩:=q83 F hΦ hfwd (ops.take (q0y ops)) [] _ (fun j=>by
  rw[List.getElem?_take]
  split
  ·exact .inr (by simp)
  ·exact .inl rfl) h (fun i hi=>by cases hi)
 have hlen:all.length=q0y ops:=by rw[h2];simp;omega
 obtain⟨hc,h1⟩:=q02 h1
 obtain⟨hC,hcold⟩:=z10r hc
 rw[hlen]at h3 hC hcold
 have hE:=hC.ok
 have hdst0:∀i,i<q0y ops->∃o,ops[i]?=some o/\(q72 all i).dst=o.dst:=fun i hi=>by
  obtain⟨o,ho,hs⟩:=h3 i hi
  exact⟨o,ho,hs.1⟩
 have hH:∀i,i<q0y ops->qaa P ops (q0y ops) (stA σ (q72 all) (erA all)) i:=by
  intro i hi
  have hin:∀k,k<q0y ops->storeAt ops k=true->i∉clo ops ops.length k->∀id b,look (q72 all k).ad id=some b->id∈qzr ops (all.map (·.1)) i:=by
   intro k hk hs hn id b hb
   refine qc7 (i:=k) (by simp;omega) ?_
   have hc':(clo ops ops.length k).contains i=false:=by
    cases hh:(clo ops ops.length k).contains i with
    |false=>rfl
    |true=>exact absurd (List.contains_iff_mem.1 hh) hn
   rw[hs,hc',qoj]
   exact q2t hb
  obtain⟨o,ho,hod,⟨hsi,he,hop⟩|⟨hsi,he,hs,hd⟩|⟨hsi,happ,hs⟩⟩:=h3 i hi
  ·have hdel:∃H:List Nat,q5v P ops i o (qs2 H (stA σ (q72 all) (erA all) (clo ops ops.length i))) (q72 all i)/\∀k,k<q0y ops->storeAt ops k=true->i∉clo ops ops.length k->∀id b,look (q72 all k).ad id=some b->id∈H:=by
    have hcold:=hcold i hi hsi
    refine⟨qzr ops (all.map (·.1)) i,?_,hin⟩
    unfold qx0 at hcold
    split at hcold
    ·rename_i hH0
     rw[hH0]
     exact hop.1
    ·generalize qzr ops (all.map (·.1)) i=H at*
     rw[ho]at hcold
     simp only[Bool.and_eq_true]at hcold
     obtain⟨_,hcold⟩:=hcold
     cases hdr:q0v.drawOne τ Φ ops (qs2 H (stA σ (q72 all) (erA all) (clo ops ops.length i))) o (fun _ ad=>bif q1j H (ad.map (·.1))then none else some ())with
     |none=>rw[hdr]at hcold;cases hcold
     |some u=>exact qoy F hΦ ho hop hdr
   obtain⟨H,hop',hH⟩:=hdel
   exact z19u hm' hD hC hdst0 hi hsi ho he hop' hH
  ·exact qvu F hΦ hm' hD hC hdst0 hi hsi ho he hd hs
  ·have hcold:=hcold i hi hsi
   refine z137 F hΦ hm' hD hC hdst0 hi hsi (fun k hk hks hn id b hb=>?_) ho hs
   have:=hin k hk hks hn id b hb
   unfold qx0 at hcold
   split at hcold
   ·rename_i hH0
    rw[hH0]at this
    exact this
   ·rw[ho]at hcold
    simp[happ]at hcold
 have hr':Rel io w0 (stA σ (q72 all) (erA all) []) a {w with drawn:=w.drawn+1}:=by
  obtain⟨E,hE'⟩:=hr
  refine⟨E,(hE'.ext (Ext.drawn w)).same (q2w _ _ _ _) (fun t=>?_) (fun id=>?_)⟩
  ·rw[q7j];exact qn4 _
  ·rw[q6e];rfl
 refine wp_region_any hm ?_
 have hsz:ops.toArray.size=q0y ops+(ops.length-q0y ops):=by simp;omega
 rw[hsz]
 refine qa6 (st:=stA σ (q72 all) (erA all)) hm' hD.fwd hH (fun hlt=>?_) ?_ (q0y ops) _ [] a _ (by simp) ⟨⟨by simp;omega,fun j oj _ hl=>(by rw[getD_replicate_false]at hl;cases hl),fun t _ ht=>getD_in (by simp at ht ⊢;omega) (getD_replicate_false _ _)⟩,fun j hj=>?_,(fun j hj=>by cases hj),.nil,List.nodup_nil,hr'⟩
 ·rcases s3 with s3|s3
  ·have:=Nat.eq_of_beq_eq_true s3
   omega
  ·exact s3
 ·intro listed seq a w hI hl
  have hall:∀j,j<q0y ops->j∈seq:=by
   intro j hj
   apply Classical.byContradiction
   intro hn
   have h6:(j::seq).Nodup:=List.nodup_cons.2 ⟨hn,hI.nodup⟩
   have h7:=q4g.nodup_le (ops:=ops) (m:=q0y ops) (q0y ops) (j::seq) h6 (fun x hx=>by
    rcases List.mem_cons.1 hx with rfl|hx
    ·exact hj
    ·exact hI.lt x hx)
   simp only[lC]at h7
   omega
  have hmem:∀id,id∈(q3e (q0y ops)).flatMap (erA all)<->id∈seq.flatMap (erA all):=fun id=>by
   rw[qaw,qaw]
   exact⟨fun⟨k,hk,h⟩=>⟨k,hall k (q20.1 hk),h⟩,fun⟨k,hk,h⟩=>⟨k,q20.2 (hI.lt k hk),h⟩⟩
  have hrel:Rel io w0 (stA σ (q72 all) (erA all) (q3e (q0y ops))) a w:=by
   obtain⟨E,hE'⟩:=hI.rel
   obtain⟨d1,d2⟩:=qvs hE hfwd hm' hC.share hI.lt hI.lin hall
   refine⟨E,hE'.same (by rw[q2w,q2w]) (fun t=>?_) (fun id=>?_)⟩
   ·rw[q7j,q7j,qin (fun id _=>hmem id),d1]
   ·rw[q6e,q6e,d2]
    by_cases hid:id∈seq.flatMap (erA all)
    ·rw[if_pos hid,if_pos ((hmem id).2 hid)]
    ·rw[if_neg hid,if_neg (fun h=>hid ((hmem id).1 h))]
  have hlst:listed=qbr ops.length (q0y ops):=by
   have hs1:listed.size=ops.length:=by have:=hI.head.size;simpa using this
   apply Array.ext
   ·rw[hs1];simp[qbr];omega
   ·intro j hj1 hj2
    have hj:j<ops.length:=by omega
    have hg:listed.getD j false=listed[j]:=by simp[hj1]
    have hmem:=hI.mem j hj
    rw[hg]at hmem
    rcases Nat.lt_or_ge j (q0y ops)with h'|h'
    ·rw[hmem.2 (hall j h')]
     simp[qbr,List.getElem_append,h']
    ·have:listed[j]=false:=by
      cases hv:listed[j]with
      |false=>rfl
      |true=>
       have:=hI.lt j (hmem.1 hv)
       omega
     rw[this]
     simp only[qbr,List.getElem_toArray,List.getElem_append,List.length_replicate]
     rw[dif_neg (by omega)]
     simp
  have hlst2:=q50 (ops:=ops) (Q:=Q) F hΦ hk (ops.drop (q0y ops)) _ h1 a w hrel
  have:=wpAny_of_seq (P:=P) (md:=.any) (ops:=ops.toArray) (Q':=Q) (ops.drop (q0y ops)) (q0y ops) listed a w (fun j=>by simp) (by rw[hlst,lD];exact s4) hlst2
  rw[lD]at this
  exact this
 ·rw[getD_replicate_false]
  simp
theorem qf1 (F:Fits P N τ){Φ:FuncId->Option (Spec N)}(hΦ:∀f S,Φ f=some S->Good P (f%1000000) S)(hm:P.follows .mixedOrders=true){ops:List Oper}{k:St N->Option β}{r:β}{io:Io}{w0:World}{Q:Exit->Act->World->Prop}
  (hk:∀σ a w,k σ=some r->Rel io w0 σ a w->Q .normal a w) {σ:St N} (h:qf0 τ Φ ops σ k=some r) {a:Act} {w:World} (hr:Rel io w0 σ a w) {id:Nat}:(Code.region id ops.toArray true).wp P Q a w:=by
 unfold qf0 at h
 cases ha:ops.any qim&&!(q67 ops (qaq ops)||q67 ops (q79 ops))with
 |true=>rw[ha]at h;exact qev F hΦ hm hk h hr
 |false=>rw[ha]at h;exact qez F hΦ hm hk h hr
end Go.Eng

set_option linter.unusedVariables false
set_option linter.unusedSimpArgs false
namespace Go.Eng
variable {N:Names} {P:Program} {τ:TypeId->Option TI} {β:Type}
structure Inl (N:Names)where
 run:{β:Type}->List Nat->St N->List (RV N)->(List (RV N)->St N->Option β)->Option β
def qra:FuncId->Option (Inl N):=fun _=>none
def qe4 (w:World)(own:List (Nat×Blk N))(E:Env)(rs:List (RV N))(us:List Value):Prop:=us.length=rs.length/\∀(i:Nat) r v,rs[i]?=some r->us[i]?=some v->q0a w own E r v
structure InlOk (P:Program) (f:FuncId) (I:Inl N):Prop where
 enter:∀w args,(callFunc f args).run P w=.ok (.enter f args) w
 calls:∀{β:Type} (σ:St N) (rs:List (RV N)) (k:List (RV N)->St N->Option β) (r:β) (io:Io) (w0:World) (E:Env) (a:Act) (w:World) (vals:List Value),I.run io.ids σ rs k=some r->RelE io w0 σ E a w->qe4 w σ.own E rs vals->
  Calls P f vals.toArray w fun e w'=>∃us E' rs' σ',e=.returned (qb1 us)/\k rs' σ'=some r/\RelE io w0 σ' E' a w'/\qe4 w' σ'.own E' rs' us
def z120 (I:FuncId->Option (Inl N))(σ:St N)(o:Oper):Option (Inl N×List Operand):=match o.op with
 | .call c=>match c.callee with
  |.value f=>match ev σ f with
   |.fn fid []=>(I fid).map fun J=>(J,c.args.toList)
   |_=>none
  |_=>none
 |_=>none
theorem qr2 {I:FuncId->Option (Inl N)}{σ:St N}{o:Oper}{J:Inl N}{os:List Operand}(h:z120 I σ o=some (J,os)):∃c f fid,o.op=.call c/\c.callee=.value f/\ev σ f=.fn fid []/\I fid=some J/\os=c.args.toList:=by
 unfold z120 at h
 split at h
 ·rename_i c hc
  split at h
  ·rename_i f hf
   split at h
   ·rename_i fid he
    obtain⟨J',hJ,e⟩:=Option.map_eq_some_iff.1 h
    cases e
    exact⟨c,f,fid,hc,hf,he,hJ,rfl⟩
   ·cases h
  ·cases h
 ·cases h
def qqy (τ:TypeId->Option TI)(Φ:FuncId->Option (Spec N))(I:FuncId->Option (Inl N))(pins:List Nat)(o:Oper)(σ:St N)(k:St N->Option β):Option β:=
 match z120 I σ o with
 |some (J,os)=>J.run pins σ (os.map (ev σ)) fun rs σ'=>k (σ'.put o.dst (qy2 rs))
 |none=>qgi τ Φ o σ k
theorem qmt (F:Fits P N τ){Φ:FuncId->Option (Spec N)}(hΦ:∀f S,Φ f=some S->Good P (f%1000000) S){I:FuncId->Option (Inl N)}(hI:∀f J,I f=some J->InlOk P f J){io:Io}{pins:List Nat}(hp:io.ids=pins){o:Oper}{σ:St N}{k:St N->Option β}{r:β}
  (h:qqy τ Φ I pins o σ k=some r) {w0 w:World} {a:Act} {K:Act->World->Prop} {Q:Exit->Act->World->Prop} (hr:Rel io w0 σ a w) (hk:∀σ' a' w',k σ'=some r->Rel io w0 σ' a' w'->K a' w'):o.wp P a w K Q:=by
 unfold qqy at h
 split at h
 ·rename_i J os hJ
  obtain⟨c,f,fid,e1,e2,e3,e4,rfl⟩:=qr2 hJ
  have hJ:=hI fid J e4
  obtain⟨E,hE⟩:=hr
  subst hp
  have hfv:=hE.ev f
  rw[e3]at hfv
  have hrel:qe4 w σ.own E (c.args.toList.map (ev σ)) (c.args.toList.map a.eval):=by
   refine⟨by simp,fun i r0 v hi hv=>?_⟩
   rw[List.getElem?_map]at hi hv
   obtain⟨x,hx,rfl⟩:=Option.map_eq_some_iff.1 hi
   obtain⟨y,hy,rfl⟩:=Option.map_eq_some_iff.1 hv
   rw[hx]at hy
   cases hy
   exact hE.ev x
  have hc:=hJ.calls σ _ _ r io w0 E a w _ h hE hrel
  have hargs:(c.args.toList.map a.eval).toArray=c.args.map a.eval:=by
   generalize c.args=ar
   obtain⟨l⟩:=ar
   simp
  rw[hargs]at hc
  have he:(execOp a.eval o).run P w=.ok (.enter fid (c.args.map a.eval)) w:=by
   unfold execOp
   have hv:a.eval f=.func (.func fid) #[] #[]:=hfv.1
   simp only[e1,resolve,e2,hv,Deferred.ofValue,Array.empty_append,Array.append_empty,Sem.run_bind,Sem.run_pure,Result.andThen_ok,invoke]
   exact hJ.enter w _
  unfold Oper.wp
  rw[he]
  simp only[Oper.upon]
  refine hc.mono ?_
  rintro e w' ⟨us,E',rs',σ',rfl,k1,k2,k3⟩
  exact hk _ _ _ k1 ⟨E',k2.put o.dst (qut k3.1 k3.2)⟩
 ·obtain⟨σ',h1,h2⟩:=q6m F hΦ h
  exact h2 io w0 a w K Q hr (fun a' w' hr'=>hk σ' a' w' h1 hr')
def q30 (τ:TypeId->Option TI)(Φ:FuncId->Option (Spec N))(I:FuncId->Option (Inl N))(pins:List Nat)(ops:List Oper):List Oper->St N->(St N->Option β)->Option β
 |[],σ,k=>k σ
 | o ::rest,σ,k=>match o.guard with
  |none=>qqy τ Φ I pins o σ fun σ'=>q30 τ Φ I pins ops rest σ' k
  | some (g,want)=>match q52 ops g with
   |none=>q30 τ Φ I pins ops rest (σ.put o.dst (.tup [])) k
   | some d=>match σ.reg d with
    | .one (.bool b)=>
     bif b then
      (bif want then qqy τ Φ I pins o (σ.putS d (.one (.bool true))) fun σ'=>q30 τ Φ I pins ops rest σ' k
      else q30 τ Φ I pins ops rest ((σ.putS d (.one (.bool true))).put o.dst (.tup [])) k)
     else
      (bif want then q30 τ Φ I pins ops rest ((σ.putS d (.one (.bool false))).put o.dst (.tup [])) k
      else qqy τ Φ I pins o (σ.putS d (.one (.bool false))) fun σ'=>q30 τ Φ I pins ops rest σ' k)
    |.tup []=>q30 τ Φ I pins ops rest (σ.put o.dst (.tup [])) k
    |_=>none
theorem q9g (F:Fits P N τ){Φ:FuncId->Option (Spec N)}(hΦ:∀f S,Φ f=some S->Good P (f%1000000) S){I:FuncId->Option (Inl N)}(hI:∀f J,I f=some J->InlOk P f J){ops:List Oper}{k:St N->Option β}{r:β}{io:Io}{pins:List Nat}(hp:io.ids=pins){w0:World}{Q:Exit->Act->World->Prop}
  (hk:∀σ a w,k σ=some r->Rel io w0 σ a w->Q .normal a w):∀(l:List Oper) (σ:St N),q30 τ Φ I pins ops l σ k=some r->∀a w,Rel io w0 σ a w->wpList P ops.toArray Q l a w
 |[],σ,h,a,w,hr=>hk σ a w h hr
 | o ::rest,σ,h,a,w,hr=>by
  have ih:=q9g F hΦ hI (ops:=ops) hp hk rest
  have hstep:∀σ0,Rel io w0 σ0 a w->(qqy τ Φ I pins o σ0 fun σ'=>q30 τ Φ I pins ops rest σ' k)=some r->o.wp P a w (wpList P ops.toArray Q rest) Q:=by
   intro σ0 hr0 h0
   exact qmt F hΦ hI hp h0 hr0 (fun σ' a' w' h1 hr'=>ih σ' h1 a' w' hr')
  simp only[q30]at h
  simp only[wpList]
  split at h
  ·rename_i hg
   rw[if_pos (by simp[Region.wanted,hg])]
   exact .inl (hstep σ hr h)
  ·rename_i g want hg
   have hW:Region.wanted o (yielded ops.toArray a.tmps)=(yielded ops.toArray a.tmps g==some want):=by simp[Region.wanted,hg]
   have hskip:∀σ0,Rel io w0 σ0 a w->Region.wanted o (yielded ops.toArray a.tmps)=false->q30 τ Φ I pins ops rest (σ0.put o.dst (.tup [])) k=some r->
     (if Region.wanted o (yielded ops.toArray a.tmps)=true then o.wp P a w (wpList P ops.toArray Q rest) Q\/(o.asks P a w/\LetsOut Q)else wpList P ops.toArray Q rest (a.put o.dst undef) w):=by
    intro σ0 hr0 hw0 h0
    rw[hw0,if_neg (by simp)]
    exact ih _ h0 _ _ (hr0.skip o.dst)
   have hy:yielded ops.toArray a.tmps g=match(q52 ops g).bind (a.tmps[·]?)with
     |some (.bool b)=>some b
     |_=>none:=by
    unfold yielded
    rw[q4u]
    rfl
   split at h
   ·rename_i hgr
    refine hskip σ hr ?_ h
    rw[hW,hy,hgr]
    rfl
   ·rename_i d hgr
    split at h
    ·rename_i b hb
     obtain⟨E,hrE⟩:=hr
     obtain⟨hv,hlt⟩:=q91 hrE hb (by simp)
     have hv:a.tmps.getD d undef=.bool b:=hv
     have hyb:yielded ops.toArray a.tmps g=some b:=by
      rw[hy,hgr]
      simp only[oB]
      rw[Array.getD_eq_getD_getElem?,Array.getElem?_eq_getElem hlt]at hv
      rw[Array.getElem?_eq_getElem hlt]
      simp only[Option.getD_some]at hv
      rw[hv]
     have hre:Rel io w0 (σ.putS d (.one (.bool b))) a w:=Rel.reput ⟨E,hrE⟩ (fun E' hE'=>hv)
     rw[hyb]at hW
     cases b with
     | true=>
      simp only[cT]at h
      cases want with
      |true=>
       rw[hW]
       exact .inl (hstep _ hre h)
      |false=>exact hskip _ hre (by rw[hW];rfl) h
     | false=>
      simp only[cF]at h
      cases want with
      |true=>exact hskip _ hre (by rw[hW];rfl) h
      |false=>
       rw[hW]
       exact .inl (hstep _ hre h)
    ·rename_i hb
     obtain⟨E,hrE⟩:=hr
     obtain⟨⟨vs,hv,hl,_⟩,hlt⟩:=q91 hrE hb (by simp)
     refine hskip σ ⟨E,hrE⟩ ?_ h
     rw[hW,hy,hgr]
     simp only[oB]
     rw[Array.getD_eq_getD_getElem?,Array.getElem?_eq_getElem hlt]at hv
     rw[Array.getElem?_eq_getElem hlt]
     simp only[Option.getD_some]at hv
     rw[hv]
     rfl
    ·cases h
end Go.Eng

set_option linter.unusedVariables false
set_option linter.unusedSimpArgs false
namespace Go.Eng
variable {N:Names} {P:Program} {β:Type}
structure Ctx (N:Names)where
 τ:TypeId->Option TI
 Φ:FuncId->Option (Spec N)
 K:Nat->Option (List Nat)
 pins:List Nat
 gh:Nat
 inl:FuncId->Option (Inl N)
structure Conts (N:Names) (β:Type)where
 norm:St N->Option β
 exit:Nat->St N->Option β
 ret:St N->Option β
def q22:Code->Option Nat
 |.region id _ _=>some id
 |.seq a _=>q22 a
 |.block _ c=>q22 c
 |.scope c=>q22 c
 |_=>none
def Ctx.cutOf (X:Ctx N)(c:Code):Option (Nat×List Nat):=match q22 c with
 |some id=>match X.K id with
  |some keep=>some (id,keep)
  |none=>none
 |none=>none
variable (X:Ctx N) (g:Nat->St N->Option β)
def Ctx.cutK (c:Code)(k:St N->Option β):St N->Option β:=match X.cutOf c with
 |some (id,keep)=>fun σ=>g id (Eng.norm X.pins keep σ)
 |none=>k
def qet:Code->Conts N β->St N->Option β
 |.skip,C,σ=>C.norm σ
 |.label _,C,σ=>C.norm σ
 |.region _ ops false,C,σ=>q30 X.τ X.Φ X.inl X.pins ops.toList ops.toList σ C.norm
 |.region _ ops true,C,σ=>qf0 X.τ X.Φ ops.toList σ C.norm
 |.seq a b,C,σ=>qet a {C with norm:=X.cutK g b (qet b C)} σ
 |.cond c t e,C,σ=>match ev σ c with
  |.bool b=>bif b then qet t C σ else qet e C σ
  |_=>none
 |.block i c,C,σ=>qet c {C with exit:=fun j σ=>bif j==i then C.norm σ else C.exit j σ} σ
 |.loop c,C,σ=>X.cutK g c (fun _=>none) σ
 |.exit i,C,σ=>C.exit i σ
 |.ret,C,σ=>C.ret σ
 |.scope c,C,σ=>qet c C σ
 |_,_,_=>none
def has (id:Nat):Code->Bool
 |.seq a b=>has id a||(q22 b==some id||has id b)
 |.cond _ t e=>has id t||has id e
 |.block _ c=>has id c
 |.loop c=>q22 c==some id||has id c
 |.scope c=>has id c
 |_=>false
def occ (X:Ctx N):Code->List Nat
 |.seq a b=>occ X a++(((X.cutOf b).map (·.1)).toList++occ X b)
 |.cond _ t e=>occ X t++occ X e
 |.block _ c=>occ X c
 |.loop c=>((X.cutOf c).map (·.1)).toList++occ X c
 |.scope c=>occ X c
 |_=>[]
def qif (id:Nat):Code->Conts N β->Option (St N->Option β)
 |.seq a b,C=>match qif id a {C with norm:=X.cutK g b (qet X g b C)}with
  |some k=>some k
  |none=>bif q22 b==some id then some (qet X g b C)else qif id b C
 |.cond _ t e,C=>match qif id t C with
  |some k=>some k
  |none=>qif id e C
 |.block i c,C=>qif id c {C with exit:=fun j σ=>bif j==i then C.norm σ else C.exit j σ}
 |.loop c,C=>bif q22 c==some id then some (qet X g c {C with norm:=X.cutK g c (fun _=>none)})else qif id c {C with norm:=X.cutK g c (fun _=>none)}
 |.scope c,C=>qif id c C
 |_,_=>none
def Seg (body:Code)(C:Conts N β)(id:Nat)(σ:St N):Option β:=match X.K id with
 |none=>none
 |some _=>match qif X g id body C with
  |some k=>k σ
  |none=>none
def tbl (body:Code)(C:Conts N β):Nat->Nat->St N->Option β
 |0,_,_=>none
 |n+1,id,σ=>Seg X (tbl body C n) body C id σ
/-! What stands at a place. -/
def qgc (P:Program)(c:Code)(Q:Exit->Act->World->Prop)(a:Act)(w:World):Prop:=
 ∀(b:Frame) (k:List Item) (cs:List Frame),∃e a' w',Q e a' w'/\Arrives P (lone (b.at a (.code c::.inLoop c::k)) cs w) b k cs e a' w'
theorem qn6 {c:Code}{Q:Exit->Act->World->Prop}{a:Act}{w:World}(h:c.wp P (Exit.then (qgc P c Q) Q) a w):qgc P c Q a w:=by
 intro b k cs
 obtain⟨e,a₁,w₁,hq,harr⟩:=h b (.inLoop c::k) cs
 cases e with
 |normal=>
  obtain⟨e₂,a₂,w₂,hq₂,harr₂⟩:=hq b k cs
  exact⟨e₂,a₂,w₂,hq₂,.of_steps (Steps.trans harr (.one step_inLoop)) harr₂⟩
 |exit id=>exact⟨_,a₁,w₁,hq,.pass (x:=.inLoop c) rfl (fun _ _=>.inl (by simp)) harr⟩
 |goto l=>exact⟨_,a₁,w₁,hq,.pass (x:=.inLoop c) rfl (fun _ _=>.inl (by simp)) harr⟩
 |ret=>exact⟨_,a₁,w₁,hq,.pass (x:=.inLoop c) rfl (fun _ _=>.inl (by simp)) harr⟩
 |panic ch=>exact⟨_,a₁,w₁,hq,.pass (x:=.inLoop c) rfl (fun _ _=>.inl (by simp)) harr⟩
 |outgrown=>exact⟨_,a₁,w₁,hq,.pass (x:=.inLoop c) rfl (fun _ _=>.inl (by simp)) harr⟩
theorem qxr {c:Code}{Q:Exit->Act->World->Prop}{a:Act}{w:World}(h:qgc P c Q a w):(Code.loop c).wp P Q a w:=by
 intro b k cs
 obtain⟨e,a',w',hq,harr⟩:=h b k cs
 exact⟨e,a',w',hq,.of_steps (.one step_loop) harr⟩
def At (P:Program)(id:Nat):Code->(Exit->Act->World->Prop)->Act->World->Prop
 |.seq x y,Q,a,w=>if has id x=true then At P id x (Exit.then (y.wp P Q) Q) a w else if q22 y=some id then y.wp P Q a w else At P id y Q a w
 |.cond _ t e,Q,a,w=>if has id t=true then At P id t Q a w else At P id e Q a w
 |.block i c,Q,a,w=>At P id c (Exit.inBlock i Q) a w
 |.loop c,Q,a,w=>if q22 c=some id then qgc P c Q a w else At P id c (Exit.then (qgc P c Q) Q) a w
 |.scope c,Q,a,w=>At P id c (Exit.noGoto Q) a w
 |_,_,_,_=>True
variable {X g}
variable {io:Io} {w0:World} {r:β}
def q40 (P:Program)(X:Ctx N)(g:Nat->St N->Option β)(io:Io)(w0:World)(r:β)(c:Code)(Q:Exit->Act->World->Prop):Prop:=
 ∀id∈occ X c,∀σ a w,g id σ=some r->Rel io w0 σ a w->At P id c Q a w
structure ConOk (io:Io) (w0:World) (r:β) (C:Conts N β) (Q:Exit->Act->World->Prop):Prop where
 norm:∀σ a w,C.norm σ=some r->Rel io w0 σ a w->Q .normal a w
 exit:∀i σ a w,C.exit i σ=some r->Rel io w0 σ a w->Q (.exit i) a w
 ret:∀σ a w,C.ret σ=some r->Rel io w0 σ a w->Q .ret a w
theorem q56 {c:Code}{id:Nat}{keep:List Nat}(h:X.cutOf c=some (id,keep)):q22 c=some id/\X.K id=some keep:=by
 unfold Ctx.cutOf at h
 split at h
 ·rename_i id' hs
  split at h
  ·rename_i keep' hk
   cases h
   exact⟨hs,hk⟩
  ·cases h
 ·cases h
theorem qae {c:Code}{id:Nat}{keep:List Nat}(h1:q22 c=some id)(h2:X.K id=some keep):X.cutOf c=some (id,keep):=by
 unfold Ctx.cutOf
 rw[h1]
 simp only[h2]
theorem q2e {id:Nat}:∀{c:Code},id∈occ X c->has id c=true
 |.seq a b,h=>by
  simp only[occ,mA,Option.mem_toList,Option.map_eq_some_iff]at h
  simp only[has,Bool.or_eq_true,beq_iff_eq]
  rcases h with h|⟨⟨i,k⟩,h,rfl⟩|h
  ·exact .inl (q2e h)
  ·exact .inr (.inl (q56 h).1)
  ·exact .inr (.inr (q2e h))
 |.cond _ t e,h=>by
  simp only[occ,mA]at h
  simp only[has,Bool.or_eq_true]
  exact h.imp q2e q2e
 |.block _ c,h=>q2e (c:=c) h
 |.scope c,h=>q2e (c:=c) h
 |.loop c,h=>by
  simp only[occ,mA,Option.mem_toList,Option.map_eq_some_iff]at h
  simp only[has,Bool.or_eq_true,beq_iff_eq]
  rcases h with⟨⟨i,k⟩,h,rfl⟩|h
  ·exact .inl (q56 h).1
  ·exact .inr (q2e h)
theorem q16 {id:Nat}{keep:List Nat}(hK:X.K id=some keep):∀{c:Code},has id c=true->id∈occ X c
 |.seq a b,h=>by
  simp only[has,Bool.or_eq_true,beq_iff_eq]at h
  simp only[occ,mA,Option.mem_toList,Option.map_eq_some_iff]
  rcases h with h|h|h
  ·exact .inl (q16 hK h)
  ·exact .inr (.inl ⟨(id,keep),qae h hK,rfl⟩)
  ·exact .inr (.inr (q16 hK h))
 |.cond _ t e,h=>by
  simp only[has,Bool.or_eq_true]at h
  simp only[occ,mA]
  exact h.imp (q16 hK) (q16 hK)
 |.block _ c,h=>q16 (c:=c) hK h
 |.scope c,h=>q16 (c:=c) hK h
 |.loop c,h=>by
  simp only[has,Bool.or_eq_true,beq_iff_eq]at h
  simp only[occ,mA,Option.mem_toList,Option.map_eq_some_iff]
  rcases h with h|h
  ·exact .inl ⟨(id,keep),qae h hK,rfl⟩
  ·exact .inr (q16 hK h)
theorem q3l {id:Nat}:∀{c:Code},id∈occ X c->∃keep,X.K id=some keep
 |.seq a b,h=>by
  simp only[occ,mA,Option.mem_toList,Option.map_eq_some_iff]at h
  rcases h with h|⟨⟨i,k⟩,h,rfl⟩|h
  ·exact q3l h
  ·exact⟨k,(q56 h).2⟩
  ·exact q3l h
 |.cond _ t e,h=>by
  simp only[occ,mA]at h
  exact h.elim q3l q3l
 |.block _ c,h=>q3l (c:=c) h
 |.scope c,h=>q3l (c:=c) h
 |.loop c,h=>by
  simp only[occ,mA,Option.mem_toList,Option.map_eq_some_iff]at h
  rcases h with⟨⟨i,k⟩,h,rfl⟩|h
  ·exact⟨k,(q56 h).2⟩
  ·exact q3l h
theorem q3q {id:Nat}:∀{c:Code} {C:Conts N β} {k:St N->Option β},qif X g id c C=some k->has id c=true
 | .seq a b,C,k,h=>by
  simp only[qif]at h
  simp only[has,Bool.or_eq_true]
  split at h
  ·rename_i k' hk
   exact .inl (q3q hk)
  ·cases hs:(q22 b==some id)with
   |true=>exact .inr (.inl rfl)
   |false=>
    rw[hs]at h
    exact .inr (.inr (q3q (c:=b) (C:=C) (k:=k) h))
 | .cond _ t e,C,k,h=>by
  simp only[qif]at h
  simp only[has,Bool.or_eq_true]
  split at h
  ·rename_i k' hk
   exact .inl (q3q hk)
  ·exact .inr (q3q h)
 |.block _ c,C,k,h=>q3q (c:=c) h
 |.scope c,C,k,h=>q3q (c:=c) h
 | .loop c,C,k,h=>by
  simp only[qif]at h
  simp only[has,Bool.or_eq_true]
  cases hs:(q22 c==some id)with
  |true=>exact .inl rfl
  |false=>
   rw[hs]at h
   exact .inr (q3q (c:=c) (k:=k) h)
section
variable {Q:Exit->Act->World->Prop}
theorem q40.left {x y:Code}(h:q40 P X g io w0 r (.seq x y) Q):q40 P X g io w0 r x (Exit.then (y.wp P Q) Q):=by
 intro id hid σ a w h1 h2
 have:=h id (by simp only[occ,mA];exact .inl hid) σ a w h1 h2
 simpa only[At,q2e hid,if_true]using this
theorem q40.right {x y:Code}(h:q40 P X g io w0 r (.seq x y) Q)(hn:(occ X (.seq x y)).Nodup):q40 P X g io w0 r y Q:=by
 intro id hid σ a w h1 h2
 have:=h id (by simp only[occ,mA];exact .inr (.inr hid)) σ a w h1 h2
 obtain⟨keep,hK⟩:=q3l hid
 simp only[occ]at hn
 rw[List.nodup_append]at hn
 have hx:has id x≠true:=fun hx=>hn.2.2 id (q16 hK hx) id (mA.2 (.inr hid)) rfl
 have hs:q22 y≠some id:=fun hs=>by
  rw[List.nodup_append]at hn
  exact hn.2.1.2.2 id (by rw[qae hs hK];simp) id hid rfl
 simpa only[At,if_neg hx,if_neg hs]using this
theorem q40.mid {x y:Code}(h:q40 P X g io w0 r (.seq x y) Q)(hn:(occ X (.seq x y)).Nodup){id:Nat}{keep:List Nat}(hc:X.cutOf y=some (id,keep)){σ:St N}{a:Act}{w:World}(h1:g id σ=some r)(h2:Rel io w0 σ a w):y.wp P Q a w:=by
 obtain⟨hs,hK⟩:=q56 hc
 have:=h id (by simp only[occ,hc,mA];exact .inr (.inl (by simp))) σ a w h1 h2
 simp only[occ]at hn
 rw[List.nodup_append]at hn
 have hx:has id x≠true:=fun hx=>hn.2.2 id (q16 hK hx) id (mA.2 (.inl (by rw[hc];simp))) rfl
 simpa only[At,if_neg hx,if_pos hs]using this
theorem q40.loopHead {c:Code}(h:q40 P X g io w0 r (.loop c) Q){id:Nat}{keep:List Nat}(hc:X.cutOf c=some (id,keep)){σ:St N}{a:Act}{w:World}(h1:g id σ=some r)(h2:Rel io w0 σ a w):qgc P c Q a w:=by
 obtain⟨hs,hK⟩:=q56 hc
 have:=h id (by simp only[occ,hc,mA];exact .inl (by simp)) σ a w h1 h2
 simpa only[At,if_pos hs]using this
theorem q40.inLoop {c:Code}(h:q40 P X g io w0 r (.loop c) Q)(hn:(occ X (.loop c)).Nodup):q40 P X g io w0 r c (Exit.then (qgc P c Q) Q):=by
 intro id hid σ a w h1 h2
 have:=h id (by simp only[occ,mA];exact .inr hid) σ a w h1 h2
 obtain⟨keep,hK⟩:=q3l hid
 simp only[occ]at hn
 rw[List.nodup_append]at hn
 have hs:q22 c≠some id:=fun hs=>hn.2.2 id (by rw[qae hs hK];simp) id hid rfl
 simpa only[At,if_neg hs]using this
theorem qhs {c:Code}{k:St N->Option β}{R:Act->World->Prop}(h1:∀id keep,X.cutOf c=some (id,keep)->∀σ a w,g id σ=some r->Rel io w0 σ a w->R a w)(h2:∀σ a w,k σ=some r->Rel io w0 σ a w->R a w)(hp:io.ids=X.pins):
  ∀σ a w,X.cutK g c k σ=some r->Rel io w0 σ a w->R a w:=by
 intro σ a w h hr
 rcases hc:X.cutOf c with _|⟨id,keep⟩
 ·simp only[Ctx.cutK,hc]at h
  exact h2 σ a w h hr
 ·simp only[Ctx.cutK,hc]at h
  refine h1 id keep hc _ a w h ?_
  rw[<-hp]
  exact hr.norm keep
theorem q1z (F:Fits P N X.τ)(hΦ:∀f S,X.Φ f=some S->Good P (f%1000000) S)(hI:∀f J,X.inl f=some J->InlOk P f J)(hm:P.follows .mixedOrders=true)(hp:io.ids=X.pins):∀(c:Code) (C:Conts N β) (Q:Exit->Act->World->Prop) (σ:St N),q40 P X g io w0 r c Q->(occ X c).Nodup->ConOk io w0 r C Q->
  qet X g c C σ=some r->∀a w,Rel io w0 σ a w->c.wp P Q a w
 |.skip,C,Q,σ,hc,hn,hC,h,a,w,hr=>wp_skip (hC.norm σ a w h hr)
 |.label _,C,Q,σ,hc,hn,hC,h,a,w,hr=>wp_label (hC.norm σ a w h hr)
 |.region _ ops false,C,Q,σ,hc,hn,hC,h,a,w,hr=>by
  simp only[qet]at h
  have:=q9g (ops:=ops.toList) (Q:=Q) F hΦ hI hp (fun σ a w h1 h2=>hC.norm σ a w h1 h2) ops.toList σ h a w hr
  exact wp_region_list this
 |.region rid ops true,C,Q,σ,hc,hn,hC,h,a,w,hr=>by
  simp only[qet]at h
  have:=qf1 (id:=rid) (ops:=ops.toList) (Q:=Q) F hΦ hm (fun σ a w h1 h2=>hC.norm σ a w h1 h2) h hr
  exact this
 |.seq x y,C,Q,σ,hc,hn,hC,h,a,w,hr=>by
  have hn':=hn
  simp only[occ]at hn'
  rw[List.nodup_append,List.nodup_append]at hn'
  simp only[qet]at h
  refine wp_seq (q1z F hΦ hI hm hp x {C with norm:=X.cutK g y (qet X g y C)} _ σ hc.left hn'.1 ⟨?_,fun i σ a w h1 h2=>hC.exit i σ a w h1 h2,fun σ a w h1 h2=>hC.ret σ a w h1 h2⟩ h a w hr)
  exact qhs (R:=y.wp P Q) (fun id keep hcut σ a w h1 h2=>hc.mid hn hcut h1 h2) (fun σ a w h1 h2=>q1z F hΦ hI hm hp y C Q σ (hc.right hn) hn'.2.1.2.1 hC h1 a w h2) hp
 | .cond c t e,C,Q,σ,hc,hn,hC,h,a,w,hr=>by
  have hn':=hn
  simp only[occ]at hn'
  rw[List.nodup_append]at hn'
  simp only[qet]at h
  split at h
  ·rename_i b hb
   have hv:a.eval c=.bool b:=by
    obtain⟨E,hE⟩:=hr
    have:=hE.ev c
    rw[hb]at this
    exact this
   have hct:q40 P X g io w0 r t Q:=fun id hid σ a w h1 h2=>by
    have:=hc id (by simp only[occ,mA];exact .inl hid) σ a w h1 h2
    simpa only[At,q2e hid,if_true]using this
   have hce:q40 P X g io w0 r e Q:=fun id hid σ a w h1 h2=>by
    have:=hc id (by simp only[occ,mA];exact .inr hid) σ a w h1 h2
    obtain⟨keep,hK⟩:=q3l hid
    have hx:has id t≠true:=fun hx=>hn'.2.2 id (q16 hK hx) id hid rfl
    simpa only[At,if_neg hx]using this
   cases b with
   |true=>exact wp_cond_true hv (q1z F hΦ hI hm hp t C Q σ hct hn'.1 hC h a w hr)
   |false=>exact wp_cond_false hv (q1z F hΦ hI hm hp e C Q σ hce hn'.2.1 hC h a w hr)
  ·cases h
 | .block i c,C,Q,σ,hc,hn,hC,h,a,w,hr=>by
  simp only[qet]at h
  refine wp_block (q1z F hΦ hI hm hp c {C with exit:=fun j σ=>bif j==i then C.norm σ else C.exit j σ} _ σ hc hn ⟨fun σ a w h1 h2=>hC.norm σ a w h1 h2,fun j σ a w h1 h2=>?_,fun σ a w h1 h2=>hC.ret σ a w h1 h2⟩ h a w hr)
  simp only[Exit.inBlock]
  cases hj:(j==i)with
  |true=>
   simp only[hj,cT]at h1
   rw[if_pos (by simpa using hj)]
   exact hC.norm σ a w h1 h2
  |false=>
   simp only[hj,cF]at h1
   rw[if_neg (by simpa using hj)]
   exact hC.exit j σ a w h1 h2
 |.loop c,C,Q,σ,hc,hn,hC,h,a,w,hr=>by
  simp only[qet]at h
  exact qxr (qhs (R:=qgc P c Q) (fun id keep hcut σ a w h1 h2=>hc.loopHead hcut h1 h2) (fun σ a w h1 _=>by cases h1) hp σ a w h hr)
 |.exit i,C,Q,σ,hc,hn,hC,h,a,w,hr=>wp_exit (hC.exit i σ a w h hr)
 |.ret,C,Q,σ,hc,hn,hC,h,a,w,hr=>wp_ret (hC.ret σ a w h hr)
 |.scope c,C,Q,σ,hc,hn,hC,h,a,w,hr=>by
  simp only[qet]at h
  exact wp_scope_straight (q1z F hΦ hI hm hp c _ _ σ hc hn ⟨fun σ a w h1 h2=>hC.norm σ a w h1 h2,fun i σ a w h1 h2=>hC.exit i σ a w h1 h2,fun σ a w h1 h2=>hC.ret σ a w h1 h2⟩ h a w hr)
 |.rangeFunc ..,C,Q,σ,hc,hn,hC,h,a,w,hr=>by cases h
 |.goto _,C,Q,σ,hc,hn,hC,h,a,w,hr=>by cases h
 |.refuse _,C,Q,σ,hc,hn,hC,h,a,w,hr=>by cases h
theorem q3f (F:Fits P N X.τ)(hΦ:∀f S,X.Φ f=some S->Good P (f%1000000) S)(hI:∀f J,X.inl f=some J->InlOk P f J)(hm:P.follows .mixedOrders=true)(hp:io.ids=X.pins){id:Nat}{keep:List Nat}(hK:X.K id=some keep):∀(c:Code) (C:Conts N β) (Q:Exit->Act->World->Prop) (k:St N->Option β),q40 P X g io w0 r c Q->(occ X c).Nodup->ConOk io w0 r C Q->
  qif X g id c C=some k->∀σ a w,k σ=some r->Rel io w0 σ a w->At P id c Q a w
 | .seq x y,C,Q,k,hc,hn,hC,h,σ,a,w,hk,hr=>by
  have hn':=hn
  simp only[occ]at hn'
  rw[List.nodup_append,List.nodup_append]at hn'
  simp only[qif]at h
  simp only[At]
  have hCx:ConOk io w0 r {C with norm:=X.cutK g y (qet X g y C)} (Exit.then (y.wp P Q) Q):=
   ⟨qhs (R:=y.wp P Q) (fun id keep hcut σ a w h1 h2=>hc.mid hn hcut h1 h2) (fun σ a w h1 h2=>q1z F hΦ hI hm hp y C Q σ (hc.right hn) hn'.2.1.2.1 hC h1 a w h2) hp,fun i σ a w h1 h2=>hC.exit i σ a w h1 h2,fun σ a w h1 h2=>hC.ret σ a w h1 h2⟩
  split at h
  ·rename_i k' hk'
   cases h
   rw[if_pos (q3q hk')]
   exact q3f F hΦ hI hm hp hK x {C with norm:=X.cutK g y (qet X g y C)} _ k hc.left hn'.1 hCx hk' σ a w hk hr
  ·cases hs:(q22 y==some id)with
   |true=>
    rw[hs]at h
    cases h
    have hs:q22 y=some id:=by simpa using hs
    have hx:has id x≠true:=fun hx=>hn'.2.2 id (q16 hK hx) id (mA.2 (.inl (by rw[qae hs hK];simp))) rfl
    rw[if_neg hx,if_pos hs]
    exact q1z F hΦ hI hm hp y C Q σ (hc.right hn) hn'.2.1.2.1 hC hk a w hr
   |false=>
    rw[hs]at h
    have h:qif X g id y C=some k:=h
    have hs:q22 y≠some id:=by simpa using hs
    have hx:has id x≠true:=fun hx=>hn'.2.2 id (q16 hK hx) id (mA.2 (.inr (q16 hK (q3q h)))) rfl
    rw[if_neg hx,if_neg hs]
    exact q3f F hΦ hI hm hp hK y C Q k (hc.right hn) hn'.2.1.2.1 hC h σ a w hk hr
 | .cond c t e,C,Q,k,hc,hn,hC,h,σ,a,w,hk,hr=>by
  have hn':=hn
  simp only[occ]at hn'
  rw[List.nodup_append]at hn'
  simp only[qif]at h
  simp only[At]
  split at h
  ·rename_i k' hk'
   cases h
   rw[if_pos (q3q hk')]
   refine q3f F hΦ hI hm hp hK t C Q k (fun id hid σ a w h1 h2=>?_) hn'.1 hC hk' σ a w hk hr
   have:=hc id (by simp only[occ,mA];exact .inl hid) σ a w h1 h2
   simpa only[At,q2e hid,if_true]using this
  ·have hx:has id t≠true:=fun hx=>hn'.2.2 id (q16 hK hx) id (q16 hK (q3q h)) rfl
   rw[if_neg hx]
   refine q3f F hΦ hI hm hp hK e C Q k (fun id hid σ a w h1 h2=>?_) hn'.2.1 hC h σ a w hk hr
   have:=hc id (by simp only[occ,mA];exact .inr hid) σ a w h1 h2
   obtain⟨keep',hK'⟩:=q3l hid
   have hx:has id t≠true:=fun hx=>hn'.2.2 id (q16 hK' hx) id hid rfl
   simpa only[At,if_neg hx]using this
 | .block i c,C,Q,k,hc,hn,hC,h,σ,a,w,hk,hr=>by
  simp only[qif]at h
  refine q3f F hΦ hI hm hp hK c {C with exit:=fun j σ=>bif j==i then C.norm σ else C.exit j σ} (Exit.inBlock i Q) k hc hn ⟨fun σ a w h1 h2=>hC.norm σ a w h1 h2,fun j σ a w h1 h2=>?_,fun σ a w h1 h2=>hC.ret σ a w h1 h2⟩ h σ a w hk hr
  simp only[Exit.inBlock]
  cases hj:(j==i)with
  |true=>
   simp only[hj,cT]at h1
   rw[if_pos (by simpa using hj)]
   exact hC.norm σ a w h1 h2
  |false=>
   simp only[hj,cF]at h1
   rw[if_neg (by simpa using hj)]
   exact hC.exit j σ a w h1 h2
 | .loop c,C,Q,k,hc,hn,hC,h,σ,a,w,hk,hr=>by
  have hn':=hn
  simp only[occ]at hn'
  rw[List.nodup_append]at hn'
  simp only[qif]at h
  simp only[At]
  have hCc:ConOk io w0 r {C with norm:=X.cutK g c (fun _=>none)} (Exit.then (qgc P c Q) Q):=
   ⟨qhs (R:=qgc P c Q) (fun id keep hcut σ a w h1 h2=>hc.loopHead hcut h1 h2) (fun σ a w h1 _=>by cases h1) hp,fun i σ a w h1 h2=>hC.exit i σ a w h1 h2,fun σ a w h1 h2=>hC.ret σ a w h1 h2⟩
  cases hs:(q22 c==some id)with
  |true=>
   rw[hs]at h
   cases h
   rw[if_pos (by simpa using hs)]
   exact qn6 (q1z F hΦ hI hm hp c {C with norm:=X.cutK g c (fun _=>none)} _ σ (hc.inLoop hn) hn'.2.1 hCc hk a w hr)
  |false=>
   rw[hs]at h
   rw[if_neg (by simpa using hs)]
   exact q3f F hΦ hI hm hp hK c {C with norm:=X.cutK g c (fun _=>none)} _ k (hc.inLoop hn) hn'.2.1 hCc h σ a w hk hr
 |.scope c,C,Q,k,hc,hn,hC,h,σ,a,w,hk,hr=>by
  simp only[qif]at h
  exact q3f F hΦ hI hm hp hK c _ (Exit.noGoto Q) k hc hn ⟨fun σ a w h1 h2=>hC.norm σ a w h1 h2,fun i σ a w h1 h2=>hC.exit i σ a w h1 h2,fun σ a w h1 h2=>hC.ret σ a w h1 h2⟩ h σ a w hk hr
theorem z108 (F:Fits P N X.τ)(hΦ:∀f S,X.Φ f=some S->Good P (f%1000000) S)(hI:∀f J,X.inl f=some J->InlOk P f J)(hm:P.follows .mixedOrders=true)(hp:io.ids=X.pins){body:Code}{C:Conts N β}(hn:(occ X body).Nodup)(hC:ConOk io w0 r C Q):∀n,q40 P X (tbl X body C n) io w0 r body Q
 |0=>fun id _ σ a w h _=>by cases h
 | n+1=>fun id hid σ a w h hr=>by
  simp only[tbl,Seg]at h
  split at h
  ·cases h
  ·rename_i keep hK
   split at h
   ·rename_i k hk
    exact q3f F hΦ hI hm hp hK body C Q k (z108 F hΦ hI hm hp hn hC n) hn hC hk σ a w h hr
   ·cases h
theorem qqq (F:Fits P N X.τ)(hΦ:∀f S,X.Φ f=some S->Good P (f%1000000) S)(hI:∀f J,X.inl f=some J->InlOk P f J)(hm:P.follows .mixedOrders=true)(hp:io.ids=X.pins){body:Code}{C:Conts N β}(hn:(occ X body).Nodup)(hC:ConOk io w0 r C Q){n:Nat}{σ:St N}
  (h:qet X (tbl X body C n) body C σ=some r) {a:Act} {w:World} (hr:Rel io w0 σ a w):body.wp P Q a w:=
 q1z F hΦ hI hm hp body C Q σ (z108 F hΦ hI hm hp hn hC n) hn hC h a w hr
end
end Go.Eng

set_option linter.unusedVariables false
set_option linter.unusedSimpArgs false
namespace Go.Eng
variable {N:Names} {P:Program} {β:Type} {io:Io} {w0 w w':World} {σ:St N} {E:Env} {a:Act}
def pid (i:Nat):Nat:=900000+1000*i
def cid (i j:Nat):Nat:=900001+1000*i+j
def q14 (i:Nat):Nat->(l:List CK)->HC N.ρ l->List (RV N)
 |_,[],_=>[]
 |j,.c t::l,x=>(bif qzt t then .undef else q6d t x.1 [])::q14 i (j+1) l x.2
 |j,.o _ _::l,x=>.own (cid i j)::q14 i (j+1) l x.2
 |j,.f f js::l,x=>.fn f (js.map pid)::q14 i (j+1) l x.2
def q3a (i:Nat):Nat->(l:List CK)->HC N.ρ l->List (Nat×Blk N)
 |_,[],_=>[]
 |j,.c _::l,x=>q3a i (j+1) l x.2
 |j,.o el e::l,x=>(cid i j,.row el e x.1 [] false)::q3a i (j+1) l x.2
 |j,.f _ _::l,x=>q3a i (j+1) l x.2
def q9r (i:Nat):Nat->List CK->List Nat
 |_,[]=>[]
 |j,.c _::l=>q9r i (j+1) l
 |j,.o _ _::l=>cid i j::q9r i (j+1) l
 |j,.f _ _::l=>q9r i (j+1) l
def q1f:Nat->(ps:List PK)->HIn N.ρ ps->List (Nat×Blk N)
 |_,[],_=>[]
 |i,.v _::ps,x=>q1f (i+1) ps x.2
 |i,.io el e::ps,x=>(pid i,.row el e x.1 [] true)::q1f (i+1) ps x.2
 |i,.bw t::ps,x=>(pid i,.whole t x.1 [])::q1f (i+1) ps x.2
 |i,.bc l::ps,x=>(pid i,.cells (q14 i 0 l x.1))::(q3a i 0 l x.1++q1f (i+1) ps x.2)
 |i,.fv _::ps,x=>q1f (i+1) ps x.2
 |i,.fb f::ps,x=>(pid i,.cells [.fn f [pid i]])::q1f (i+1) ps x.2
 |i,.ag n l::ps,x=>(pid i,.vals n (q14 i 0 l x.1))::(q3a i 0 l x.1++q1f (i+1) ps x.2)
 |i,.go el e::ps,x=>(pid i,.row el e x.1 [] false)::q1f (i+1) ps x.2
 |i,.fn _ _::ps,x=>q1f (i+1) ps x.2
 |i,.rp _::ps,x=>q1f (i+1) ps x.2
def q0c:Nat->(ps:List PK)->HIn N.ρ ps->List (RV N)
 |_,[],_=>[]
 |i,.v t::ps,x=>q6d t x.1 []::q0c (i+1) ps x.2
 |i,.io _ _::ps,x=>.own (pid i)::q0c (i+1) ps x.2
 |i,.bw _::ps,x=>.bptr (pid i) 0::q0c (i+1) ps x.2
 |i,.bc _::ps,x=>.bptr (pid i) 0::q0c (i+1) ps x.2
 |i,.fv f::ps,x=>.fn f []::q0c (i+1) ps x.2
 |i,.fb _::ps,x=>.bptr (pid i) 0::q0c (i+1) ps x.2
 |i,.ag _ _::ps,x=>.mp (pid i)::q0c (i+1) ps x.2
 |i,.go _ _::ps,x=>.own (pid i)::q0c (i+1) ps x.2
 |i,.fn f js::ps,x=>.fn f (js.map pid)::q0c (i+1) ps x.2
 |i,.rp t::ps,x=>.sptr t x.1 []::q0c (i+1) ps x.2
def q1s:Nat->List PK->List Nat
 |_,[]=>[]
 |i,.v _::ps=>q1s (i+1) ps
 |i,.io _ _::ps=>pid i::q1s (i+1) ps
 |i,.bw _::ps=>pid i::q1s (i+1) ps
 |i,.bc l::ps=>pid i::(q9r i 0 l++q1s (i+1) ps)
 |i,.fv _::ps=>q1s (i+1) ps
 |i,.fb _::ps=>pid i::q1s (i+1) ps
 |i,.ag _ l::ps=>pid i::(q9r i 0 l++q1s (i+1) ps)
 |i,.go _ _::ps=>pid i::q1s (i+1) ps
 |i,.fn _ _::ps=>q1s (i+1) ps
 |i,.rp _::ps=>q1s (i+1) ps
def q4s:Nat->List PK->List Nat
 |_,[]=>[]
 |i,.v _::ps=>q4s (i+1) ps
 |i,.fv _::ps=>q4s (i+1) ps
 |i,.ag _ _::ps=>q4s (i+1) ps
 |i,.go _ _::ps=>q4s (i+1) ps
 |i,.fn _ _::ps=>q4s (i+1) ps
 |i,.rp _::ps=>q4s (i+1) ps
 |i,_::ps=>pid i::q4s (i+1) ps
def qgz (ps:List PK)(ntmps gh:Nat)(x:HIn N.ρ ps):St N:={regs:=((q0c 0 ps x).take (ps.length-gh)).map Slot.one++List.replicate (ntmps-(ps.length-gh)) (.tup []),own:=q1f 0 ps x}
def qiz:PK->Bool
 |.v _=>false
 |.fv _=>false
 |.ag _ _=>false
 |.go _ _=>false
 |.fn _ _=>false
 |.rp _=>false
 |_=>true
def boxP:PK->Bool
 |.bw _=>true
 |.bc _=>true
 |.fb _=>true
 |_=>false
def qm9 (ps0:List PK)(j:Nat):Bool:=match ps0[j]? with
 |some p=>boxP p
 |none=>false
def qr4 (ps0:List PK):List CK->Bool
 |[]=>true
 |.f _ js::l=>js.all (qm9 ps0)&&qr4 ps0 l
 |_::l=>qr4 ps0 l
def qs4 (ps0:List PK):List PK->Bool
 |[]=>true
 |.fn _ js::ps=>js.all (qm9 ps0)&&qs4 ps0 ps
 |.bc l::ps=>qr4 ps0 l&&qs4 ps0 ps
 |.ag _ l::ps=>qr4 ps0 l&&qs4 ps0 ps
 |_::ps=>qs4 ps0 ps
def qhj (ps0:List PK)(vs0:List Value)(own':List (Nat×Blk N))(E':Env):Prop:=
 ∀j,qm9 ps0 j=true->q53 own' (pid j)/\E' (pid j)=vs0.getD j undef/\∃g,E' (pid j)=.pointer (some ⟨g,0,none⟩)
theorem qjv {ps0:List PK}{vs0:List Value}{own':List (Nat×Blk N)}{E':Env}(h:qhj ps0 vs0 own' E'){f:FuncId}{js:List Nat}(hj:js.all (qm9 ps0)=true):q0a w own' E' (.fn f (js.map pid)) (qbu vs0 f js):=by
 have hj:=List.all_eq_true.1 hj
 refine⟨?_,fun id hid=>?_⟩
 ·unfold qbu
  rw[List.map_map,List.map_congr_left (fun j hm=>(h j (hj j hm)).2.1.symm)]
  rfl
 ·obtain⟨j,hm,rfl⟩:=List.mem_map.1 hid
  exact⟨(h j (hj j hm)).1,(h j (hj j hm)).2.2⟩
theorem q3r {ok:Nat->Prop}{i:Nat}{ps0:List PK}{vs0:List Value}:∀(l:List CK) (j:Nat) (x:HC N.ρ l) (us:List Value),qe3 w ok vs0 l x us->qr4 ps0 l=true->
  ∃L:List (Ent N),L.map Ent.two=q3a i j l x/\L.map (·.1)=q9r i j l/\q4y l us=L.flatMap (fun e=>q0t e.2.2)/\us.length=(q14 i j l x).length/\
   ∀own' E',qge L own' E'->qhj ps0 vs0 own' E'->(∀g,ok g->okb w.heap.size own' E' [] g)->(∀e∈L,q4j w own' E' e.1 e.2.1)/\∀(k:Nat) r u,(q14 i j l x)[k]?=some r->us[k]?=some u->q0a w own' E' r u
 |[],j,x,us,h,hjs=>by
  rw[show us=[]from h]
  exact⟨[],rfl,rfl,rfl,rfl,fun _ _ _ _ _=>⟨(fun e he=>by cases he),fun k r u hk _=>by simp[q14]at hk⟩⟩
 | .c t::l,j,x,us,h,hjs=>by
  obtain⟨u,rest,rfl,k1,k2⟩:=h
  obtain⟨L,l1,l2,l3,l4,l5⟩:=q3r (i:=i) (ps0:=ps0) l (j+1) x.2 rest k2 hjs
  refine⟨L,l1,l2,by simpa[q4y,qbo]using l3,by simp[q14,l4],fun own' E' hst hbx hok=>?_⟩
  obtain⟨m1,m2⟩:=l5 own' E' hst hbx hok
  refine⟨m1,fun k r u' hk hu=>?_⟩
  cases k with
  |zero=>
   simp only[q14,List.getElem?_cons_zero,Option.some.injEq]at hk hu
   subst hk hu
   have hrep:Rep w ok t x.1 [u]:=k1
   cases t with
   |nm n=>trivial
   |_=>exact q21 (q09 (fun _ _ _ h=>h) hok hrep) rfl
  |succ k=>exact m2 k r u' (by simpa[q14]using hk) (by simpa using hu)
 | .o el e::l,j,x,us,h,hjs=>by
  obtain⟨u,rest,rfl,k1,k2⟩:=h
  obtain⟨L,l1,l2,l3,l4,l5⟩:=q3r (i:=i) (ps0:=ps0) l (j+1) x.2 rest k2 hjs
  refine⟨(cid i j,.row el e x.1 [] false,u)::L,by simp[q3a,Ent.two,l1],by simp[q9r,l2],by simp[q4y,qbo,l3],by simp[q14,l4],fun own' E' hst hbx hok=>?_⟩
  obtain⟨m1,m2⟩:=l5 own' E' (fun e he=>hst e (mC _ he)) hbx hok
  obtain⟨s1,s2⟩:=hst _ mS
  refine⟨fun e' he=>?_,fun k r u' hk hu=>?_⟩
  ·rcases List.mem_cons.1 he with rfl|he
   ·exact q5m k1 s2 hok
   ·exact m1 e' he
  ·cases k with
   |zero=>
    simp only[q14,List.getElem?_cons_zero,Option.some.injEq]at hk hu
    subst hk hu
    exact⟨s2.symm,x.1.length,e,el,x.1,[],false,s1,rfl⟩
   |succ k=>exact m2 k r u' (by simpa[q14]using hk) (by simpa using hu)
 | .f f js::l,j,x,us,h,hjs=>by
  obtain⟨u,rest,rfl,k1,k2⟩:=h
  simp only[qr4,Bool.and_eq_true]at hjs
  obtain⟨L,l1,l2,l3,l4,l5⟩:=q3r (i:=i) (ps0:=ps0) l (j+1) x.2 rest k2 hjs.2
  refine⟨L,l1,l2,by simpa[q4y,qbo]using l3,by simp[q14,l4],fun own' E' hst hbx hok=>?_⟩
  obtain⟨m1,m2⟩:=l5 own' E' hst hbx hok
  refine⟨m1,fun k r u' hk hu=>?_⟩
  cases k with
  |zero=>
   simp only[q14,List.getElem?_cons_zero,Option.some.injEq]at hk hu
   subst hk hu
   rw[show u=_ from k1]
   exact qjv hbx hjs.1
  |succ k=>exact m2 k r u' (by simpa[q14]using hk) (by simpa using hu)
theorem q3s {ok:Nat->Prop}{ps0:List PK}{vs0:List Value}:∀(ps:List PK) (i:Nat) (x:HIn N.ρ ps) (vs:List Value) (bl:List Nat),qm5 w ok vs0 ps x vs bl->qs4 ps0 ps=true->
  ∃L:List (Ent N),L.map Ent.two=q1f i ps x/\L.map (·.1)=q1s i ps/\bl=L.flatMap (fun e=>q0t e.2.2)/\vs.length=ps.length/\(q0c i ps x).length=ps.length/\
   (∀(j:Nat) p v,ps[j]?=some p->vs[j]?=some v->qiz p=true->∃e∈L,e.1=pid (i+j)/\e.2.2=v/\(boxP p=true->((∃t x bs,e.2.1=.whole t x bs)\/∃l,e.2.1=.cells l)/\∃g,v=.pointer (some ⟨g,0,none⟩)))/\(∀id∈q4s i ps,∃e∈L,e.1=id/\e.2.1.pinned=true)/\
   ∀own' E',qge L own' E'->qhj ps0 vs0 own' E'->(∀g,ok g->okb w.heap.size own' E' [] g)->(∀e∈L,q4j w own' E' e.1 e.2.1)/\∀(k:Nat) r u,(q0c i ps x)[k]?=some r->vs[k]?=some u->q0a w own' E' r u
 |[],i,x,vs,bl,h,hjs=>by
  obtain⟨rfl,rfl⟩:=h
  exact⟨[],rfl,rfl,rfl,rfl,rfl,(fun j p v hp=>by simp at hp),(fun id hid=>by cases hid),fun _ _ _ _ _=>⟨(fun e he=>by cases he),fun k r u hk _=>by simp[q0c]at hk⟩⟩
 | .v t::ps,i,x,vs,bl,h,hjs=>by
  obtain⟨v,rest,b1,b2,rfl,rfl,⟨⟨cs,k1,k2⟩,rfl⟩,k3⟩:=h
  obtain⟨L,l1,l2,l3,l4,l4',l5,l6,l7⟩:=q3s (ps0:=ps0) ps (i+1) x.2 rest b2 k3 hjs
  refine⟨L,l1,l2,by simpa using l3,by simp[l4],by simp[q0c,l4'],fun j p v' hp hv hpin=>?_,l6,fun own' E' hst hbx hok=>?_⟩
  ·cases j with
   |zero=>
    simp only[List.getElem?_cons_zero,Option.some.injEq]at hp
    subst hp
    cases hpin
   |succ j=>
    obtain⟨e,e1,e2,e3,e4⟩:=l5 j p v' (by simpa using hp) (by simpa using hv) hpin
    exact⟨e,e1,by rw[e2,show i+1+j=i+(j+1)from by omega],e3,e4⟩
  ·obtain⟨m1,m2⟩:=l7 own' E' hst hbx hok
   refine⟨m1,fun k r u hk hu=>?_⟩
   cases k with
   |zero=>
    simp only[q0c,List.getElem?_cons_zero,Option.some.injEq]at hk hu
    subst hk hu
    exact q21 (q09 (fun _ _ _ h=>h) hok k1) k2
   |succ k=>exact m2 k r u (by simpa[q0c]using hk) (by simpa using hu)
 | .io el e::ps,i,x,vs,bl,h,hjs=>by
  obtain⟨v,rest,b1,b2,rfl,rfl,⟨k1,rfl⟩,k3⟩:=h
  obtain⟨L,l1,l2,l3,l4,l4',l5,l6,l7⟩:=q3s (ps0:=ps0) ps (i+1) x.2 rest b2 k3 hjs
  refine⟨(pid i,.row el e x.1 [] true,v)::L,by simp[q1f,Ent.two,l1],by simp[q1s,l2],by simp[l3],by simp[l4],by simp[q0c,l4'],fun j p v' hp hv hpin=>?_,fun id hid=>?_,fun own' E' hst hbx hok=>?_⟩
  ·cases j with
   |zero=>
    simp only[List.getElem?_cons_zero,Option.some.injEq]at hv
    simp only[List.getElem?_cons_zero,Option.some.injEq]at hp
    subst hp
    exact⟨_,mS,rfl,hv,fun h=>by cases h⟩
   |succ j=>
    obtain⟨e,e1,e2,e3,e4⟩:=l5 j p v' (by simpa using hp) (by simpa using hv) hpin
    exact⟨e,mC _ e1,by rw[e2,show i+1+j=i+(j+1)from by omega],e3,e4⟩
  ·rcases List.mem_cons.1 hid with rfl|hid
   ·exact⟨_,mS,rfl,rfl⟩
   ·obtain⟨e,e1,e2⟩:=l6 id hid
    exact⟨e,mC _ e1,e2⟩
  ·obtain⟨m1,m2⟩:=l7 own' E' (fun e he=>hst e (mC _ he)) hbx hok
   obtain⟨s1,s2⟩:=hst _ mS
   refine⟨fun e' he=>?_,fun k r u hk hu=>?_⟩
   ·rcases List.mem_cons.1 he with rfl|he
    ·exact q5m k1 s2 hok
    ·exact m1 e' he
   ·cases k with
    |zero=>
     simp only[q0c,List.getElem?_cons_zero,Option.some.injEq]at hk hu
     subst hk hu
     exact⟨s2.symm,x.1.length,e,el,x.1,[],true,s1,rfl⟩
    |succ k=>exact m2 k r u (by simpa[q0c]using hk) (by simpa using hu)
 | .bw t::ps,i,x,vs,bl,h,hjs=>by
  obtain⟨v,rest,b1,b2,rfl,rfl,⟨g,T,arr,⟨kb1,kb2⟩,k1,rfl⟩,k3⟩:=h
  obtain⟨L,l1,l2,l3,l4,l4',l5,l6,l7⟩:=q3s (ps0:=ps0) ps (i+1) x.2 rest b2 k3 hjs
  refine⟨(pid i,.whole t x.1 [],v)::L,by simp[q1f,Ent.two,l1],by simp[q1s,l2],by simp[l3,kb1,q0t,q0j],by simp[l4],by simp[q0c,l4'],fun j p v' hp hv hpin=>?_,fun id hid=>?_,fun own' E' hst hbx hok=>?_⟩
  ·cases j with
   |zero=>
    simp only[List.getElem?_cons_zero,Option.some.injEq]at hv
    exact⟨_,mS,rfl,hv,fun _=>⟨.inl ⟨_,_,_,rfl⟩,g,by rw[<-hv];exact kb1⟩⟩
   |succ j=>
    obtain⟨e,e1,e2,e3,e4⟩:=l5 j p v' (by simpa using hp) (by simpa using hv) hpin
    exact⟨e,mC _ e1,by rw[e2,show i+1+j=i+(j+1)from by omega],e3,e4⟩
  ·rcases List.mem_cons.1 hid with rfl|hid
   ·exact⟨_,mS,rfl,rfl⟩
   ·obtain⟨e,e1,e2⟩:=l6 id hid
    exact⟨e,mC _ e1,e2⟩
  ·obtain⟨m1,m2⟩:=l7 own' E' (fun e he=>hst e (mC _ he)) hbx hok
   obtain⟨s1,s2⟩:=hst _ mS
   refine⟨fun e' he=>?_,fun k r u hk hu=>?_⟩
   ·rcases List.mem_cons.1 he with rfl|he
    ·exact⟨g,T,arr,s2.trans kb1,kb2,q09 (fun _ _ _ h=>h) hok k1⟩
    ·exact m1 e' he
   ·cases k with
    |zero=>
     simp only[q0c,List.getElem?_cons_zero,Option.some.injEq]at hk hu
     subst hk hu
     exact⟨.inl ⟨t,x.1,[],s1⟩,g,s2.trans kb1,kb1⟩
    |succ k=>exact m2 k r u (by simpa[q0c]using hk) (by simpa using hu)
 | .fv f::ps,i,x,vs,bl,h,hjs=>by
  obtain⟨v,rest,b1,b2,rfl,rfl,⟨k1,rfl⟩,k3⟩:=h
  obtain⟨L,l1,l2,l3,l4,l4',l5,l6,l7⟩:=q3s (ps0:=ps0) ps (i+1) x.2 rest b2 k3 hjs
  refine⟨L,l1,l2,by simpa using l3,by simp[l4],by simp[q0c,l4'],fun j p v' hp hv hpin=>?_,l6,fun own' E' hst hbx hok=>?_⟩
  ·cases j with
   |zero=>
    simp only[List.getElem?_cons_zero,Option.some.injEq]at hp
    subst hp
    cases hpin
   |succ j=>
    obtain⟨e,e1,e2,e3,e4⟩:=l5 j p v' (by simpa using hp) (by simpa using hv) hpin
    exact⟨e,e1,by rw[e2,show i+1+j=i+(j+1)from by omega],e3,e4⟩
  ·obtain⟨m1,m2⟩:=l7 own' E' hst hbx hok
   refine⟨m1,fun k r u hk hu=>?_⟩
   cases k with
   |zero=>
    simp only[q0c,List.getElem?_cons_zero,Option.some.injEq]at hk hu
    subst hk hu
    exact⟨k1,fun k hk=>by cases hk⟩
   |succ k=>exact m2 k r u (by simpa[q0c]using hk) (by simpa using hu)
 | .fb f::ps,i,x,vs,bl,h,hjs=>by
  obtain⟨v,rest,b1,b2,rfl,rfl,⟨g,T,arr,⟨kb1,kb2⟩,k1,rfl⟩,k3⟩:=h
  obtain⟨L,l1,l2,l3,l4,l4',l5,l6,l7⟩:=q3s (ps0:=ps0) ps (i+1) x.2 rest b2 k3 hjs
  refine⟨(pid i,.cells [.fn f [pid i]],v)::L,by simp[q1f,Ent.two,l1],by simp[q1s,l2],by simp[l3,kb1,q0t,q0j],by simp[l4],by simp[q0c,l4'],fun j p v' hp hv hpin=>?_,fun id hid=>?_,fun own' E' hst hbx hok=>?_⟩
  ·cases j with
   |zero=>
    simp only[List.getElem?_cons_zero,Option.some.injEq]at hv
    exact⟨_,mS,rfl,hv,fun _=>⟨.inr ⟨_,rfl⟩,g,by rw[<-hv];exact kb1⟩⟩
   |succ j=>
    obtain⟨e,e1,e2,e3,e4⟩:=l5 j p v' (by simpa using hp) (by simpa using hv) hpin
    exact⟨e,mC _ e1,by rw[e2,show i+1+j=i+(j+1)from by omega],e3,e4⟩
  ·rcases List.mem_cons.1 hid with rfl|hid
   ·exact⟨_,mS,rfl,rfl⟩
   ·obtain⟨e,e1,e2⟩:=l6 id hid
    exact⟨e,mC _ e1,e2⟩
  ·obtain⟨m1,m2⟩:=l7 own' E' (fun e he=>hst e (mC _ he)) hbx hok
   obtain⟨s1,s2⟩:=hst _ mS
   refine⟨fun e' he=>?_,fun k r u hk hu=>?_⟩
   ·rcases List.mem_cons.1 he with rfl|he
    ·refine⟨g,T,arr,s2.trans kb1,kb2,by rw[k1];rfl,fun k r u hk hu=>?_⟩
     subst k1
     cases k with
     |zero=>
      simp only[List.getElem?_cons_zero,Option.some.injEq]at hk
      subst hk
      exact qpy ⟨_,s1⟩ s2 kb1 (Option.some.inj hu).symm
     |succ k=>simp at hk
    ·exact m1 e' he
   ·cases k with
    |zero=>
     simp only[q0c,List.getElem?_cons_zero,Option.some.injEq]at hk hu
     subst hk hu
     exact⟨.inr (.inl ⟨_,s1⟩),g,s2.trans kb1,kb1⟩
    |succ k=>exact m2 k r u (by simpa[q0c]using hk) (by simpa using hu)
 | .bc l::ps,i,x,vs,bl,h,hjs=>by
  simp only[qs4,Bool.and_eq_true]at hjs
  obtain⟨v,rest,b1,b2,rfl,rfl,⟨g,T,arr,⟨kb1,kb2⟩,k1,rfl⟩,k3⟩:=h
  obtain⟨L,l1,l2,l3,l4,l4',l5,l6,l7⟩:=q3s (ps0:=ps0) ps (i+1) x.2 rest b2 k3 hjs.2
  obtain⟨M,m1,m2,m3,m4,m5⟩:=q3r (i:=i) (ps0:=ps0) l 0 x.1 arr.toList k1 hjs.1
  refine⟨(pid i,.cells (q14 i 0 l x.1),v)::(M++L),by simp[q1f,Ent.two,l1,m1],by simp[q1s,l2,m2],by simp[l3,m3,kb1,q0t,q0j],by simp[l4],by simp[q0c,l4'],fun j p v' hp hv hpin=>?_,fun id hid=>?_,fun own' E' hst hbx hok=>?_⟩
  ·cases j with
   |zero=>
    simp only[List.getElem?_cons_zero,Option.some.injEq]at hv
    exact⟨_,mS,rfl,hv,fun _=>⟨.inr ⟨_,rfl⟩,g,by rw[<-hv];exact kb1⟩⟩
   |succ j=>
    obtain⟨e,e1,e2,e3,e4⟩:=l5 j p v' (by simpa using hp) (by simpa using hv) hpin
    exact⟨e,mC _ (mA.2 (.inr e1)),by rw[e2,show i+1+j=i+(j+1)from by omega],e3,e4⟩
  ·rcases List.mem_cons.1 hid with rfl|hid
   ·exact⟨_,mS,rfl,rfl⟩
   ·obtain⟨e,e1,e2⟩:=l6 id hid
    exact⟨e,mC _ (mA.2 (.inr e1)),e2⟩
  ·obtain⟨q1,q2⟩:=l7 own' E' (fun e he=>hst e (mC _ (mA.2 (.inr he)))) hbx hok
   obtain⟨c1,c2⟩:=m5 own' E' (fun e he=>hst e (mC _ (mA.2 (.inl he)))) hbx hok
   obtain⟨s1,s2⟩:=hst _ mS
   refine⟨fun e' he=>?_,fun k r u hk hu=>?_⟩
   ·rcases List.mem_cons.1 he with rfl|he
    ·exact⟨g,T,arr,s2.trans kb1,kb2,by simpa using m4,fun k r u hk hu=>c2 k r u hk (by simpa using hu)⟩
    ·rcases mA.1 he with he|he
     ·exact c1 e' he
     ·exact q1 e' he
   ·cases k with
    |zero=>
     simp only[q0c,List.getElem?_cons_zero,Option.some.injEq]at hk hu
     subst hk hu
     exact⟨.inr (.inl ⟨_,s1⟩),g,s2.trans kb1,kb1⟩
    |succ k=>exact q2 k r u (by simpa[q0c]using hk) (by simpa using hu)
 | .fn f js::ps,i,x,vs,bl,h,hjs=>by
  simp only[qs4,Bool.and_eq_true]at hjs
  obtain⟨v,rest,b1,b2,rfl,rfl,⟨k1,rfl⟩,k3⟩:=h
  obtain⟨L,l1,l2,l3,l4,l4',l5,l6,l7⟩:=q3s (ps0:=ps0) ps (i+1) x.2 rest b2 k3 hjs.2
  refine⟨L,l1,l2,by simpa using l3,by simp[l4],by simp[q0c,l4'],fun j p v' hp hv hpin=>?_,l6,fun own' E' hst hbx hok=>?_⟩
  ·cases j with
   |zero=>
    simp only[List.getElem?_cons_zero,Option.some.injEq]at hp
    subst hp
    cases hpin
   |succ j=>
    obtain⟨e,e1,e2,e3,e4⟩:=l5 j p v' (by simpa using hp) (by simpa using hv) hpin
    exact⟨e,e1,by rw[e2,show i+1+j=i+(j+1)from by omega],e3,e4⟩
  ·obtain⟨m1,m2⟩:=l7 own' E' hst hbx hok
   refine⟨m1,fun k r u hk hu=>?_⟩
   cases k with
   |zero=>
    simp only[q0c,List.getElem?_cons_zero,Option.some.injEq]at hk hu
    subst hk hu
    rw[show v=_ from k1]
    exact qjv hbx hjs.1
   |succ k=>exact m2 k r u (by simpa[q0c]using hk) (by simpa using hu)
 | .rp t::ps,i,x,vs,bl,h,hjs=>by
  obtain⟨v,rest,b1,b2,rfl,rfl,⟨⟨ad,cs,k1,k2,k2',k2''⟩,rfl⟩,k3⟩:=h
  obtain⟨L,l1,l2,l3,l4,l4',l5,l6,l7⟩:=q3s (ps0:=ps0) ps (i+1) x.2 rest b2 k3 hjs
  refine⟨L,l1,l2,by simpa using l3,by simp[l4],by simp[q0c,l4'],fun j p v' hp hv hpin=>?_,l6,fun own' E' hst hbx hok=>?_⟩
  ·cases j with
   |zero=>
    simp only[List.getElem?_cons_zero,Option.some.injEq]at hp
    subst hp
    cases hpin
   |succ j=>
    obtain⟨e,e1,e2,e3,e4⟩:=l5 j p v' (by simpa using hp) (by simpa using hv) hpin
    exact⟨e,e1,by rw[e2,show i+1+j=i+(j+1)from by omega],e3,e4⟩
  ·obtain⟨m1,m2⟩:=l7 own' E' hst hbx hok
   refine⟨m1,fun k r u hk hu=>?_⟩
   cases k with
   |zero=>
    simp only[q0c,List.getElem?_cons_zero,Option.some.injEq]at hk hu
    subst hk hu
    exact⟨ad,cs,k1,hok _ k2,q09 (fun _ _ _ h=>h) hok k2',k2''⟩
   |succ k=>exact m2 k r u (by simpa[q0c]using hk) (by simpa using hu)
 | .go el e::ps,i,x,vs,bl,h,hjs=>by
  obtain⟨v,rest,b1,b2,rfl,rfl,⟨k1,rfl⟩,k3⟩:=h
  obtain⟨L,l1,l2,l3,l4,l4',l5,l6,l7⟩:=q3s (ps0:=ps0) ps (i+1) x.2 rest b2 k3 hjs
  refine⟨(pid i,.row el e x.1 [] false,v)::L,by simp[q1f,Ent.two,l1],by simp[q1s,l2],by simp[l3],by simp[l4],by simp[q0c,l4'],fun j p v' hp hv hpin=>?_,fun id hid=>?_,fun own' E' hst hbx hok=>?_⟩
  ·cases j with
   |zero=>
    simp only[List.getElem?_cons_zero,Option.some.injEq]at hp
    subst hp
    cases hpin
   |succ j=>
    obtain⟨e,e1,e2,e3,e4⟩:=l5 j p v' (by simpa using hp) (by simpa using hv) hpin
    exact⟨e,mC _ e1,by rw[e2,show i+1+j=i+(j+1)from by omega],e3,e4⟩
  ·obtain⟨e,e1,e2⟩:=l6 id hid
   exact⟨e,mC _ e1,e2⟩
  ·obtain⟨m1,m2⟩:=l7 own' E' (fun e he=>hst e (mC _ he)) hbx hok
   obtain⟨s1,s2⟩:=hst _ mS
   refine⟨fun e' he=>?_,fun k r u hk hu=>?_⟩
   ·rcases List.mem_cons.1 he with rfl|he
    ·exact q5m k1 s2 hok
    ·exact m1 e' he
   ·cases k with
    |zero=>
     simp only[q0c,List.getElem?_cons_zero,Option.some.injEq]at hk hu
     subst hk hu
     exact⟨s2.symm,x.1.length,e,el,x.1,[],false,s1,rfl⟩
    |succ k=>exact m2 k r u (by simpa[q0c]using hk) (by simpa using hu)
 | .ag n l::ps,i,x,vs,bl,h,hjs=>by
  simp only[qs4,Bool.and_eq_true]at hjs
  obtain⟨v,rest,b1,b2,rfl,rfl,⟨cs,k1,k1',rfl⟩,k3⟩:=h
  obtain⟨L,l1,l2,l3,l4,l4',l5,l6,l7⟩:=q3s (ps0:=ps0) ps (i+1) x.2 rest b2 k3 hjs.2
  obtain⟨M,m1,m2,m3,m4,m5⟩:=q3r (i:=i) (ps0:=ps0) l 0 x.1 cs k1' hjs.1
  refine⟨(pid i,.vals n (q14 i 0 l x.1),v)::(M++L),by simp[q1f,Ent.two,l1,m1],by simp[q1s,l2,m2],by simp[l3,m3,k1,q0t,q0j],by simp[l4],by simp[q0c,l4'],fun j p v' hp hv hpin=>?_,fun id hid=>?_,fun own' E' hst hbx hok=>?_⟩
  ·cases j with
   |zero=>
    simp only[List.getElem?_cons_zero,Option.some.injEq]at hp
    subst hp
    cases hpin
   |succ j=>
    obtain⟨e,e1,e2,e3,e4⟩:=l5 j p v' (by simpa using hp) (by simpa using hv) hpin
    exact⟨e,mC _ (mA.2 (.inr e1)),by rw[e2,show i+1+j=i+(j+1)from by omega],e3,e4⟩
  ·obtain⟨e,e1,e2⟩:=l6 id hid
   exact⟨e,mC _ (mA.2 (.inr e1)),e2⟩
  ·obtain⟨q1,q2⟩:=l7 own' E' (fun e he=>hst e (mC _ (mA.2 (.inr he)))) hbx hok
   obtain⟨c1,c2⟩:=m5 own' E' (fun e he=>hst e (mC _ (mA.2 (.inl he)))) hbx hok
   obtain⟨s1,s2⟩:=hst _ mS
   refine⟨fun e' he=>?_,fun k r u hk hu=>?_⟩
   ·rcases List.mem_cons.1 he with rfl|he
    ·exact⟨cs.toArray,s2.trans k1,by simpa using m4,fun u hu=>q7r l x.1 cs k1' u (by simpa using hu),fun k r u hk hu=>c2 k r u hk (by simpa using hu)⟩
    ·rcases mA.1 he with he|he
     ·exact c1 e' he
     ·exact q1 e' he
   ·cases k with
    |zero=>
     simp only[q0c,List.getElem?_cons_zero,Option.some.injEq]at hk hu
     subst hk hu
     exact⟨.inr (.inr (.inr ⟨n,_,s1⟩)),s2.symm⟩
    |succ k=>exact q2 k r u (by simpa[q0c]using hk) (by simpa using hu)
/-! The end. -/
def qk6:List Nat->List Nat->Bool
 |[],[]=>true
 |a::l,b::m=>Nat.beq a b&&qk6 l m
 |_,_=>false
theorem q9t:∀{l m:List Nat},qk6 l m=true->l=m
 |[],[],_=>rfl
 |[],_::_,h=>by cases h
 |_::_,[],h=>by cases h
 |a::l,b::m,h=>by
  simp only[qk6,Bool.and_eq_true]at h
  rw[Nat.eq_of_beq_eq_true h.1,q9t h.2]
def qpw (ps0:List PK)(f:FuncId)(js:List Nat):RV N->Bool
 |.fn f' caps=>Nat.beq f' f&&qk6 caps (js.map pid)&&js.all (qm9 ps0)
 |_=>false
def noFk (f:FuncId)(js:List Nat):RV N->Bool
 |.fn f' []=>Nat.beq f' f&&qk6 js []
 |_=>false
theorem qxx {own:List (Nat×Blk N)}(f:FuncId)(js:List Nat)(r:RV N)(u:Value)(h:noFk f js r=true)(hr:q0a w own E r u):u=qbu [] f js:=by
 unfold noFk at h
 split at h
 ·simp only[Bool.and_eq_true]at h
  obtain rfl:=Nat.eq_of_beq_eq_true h.1
  obtain rfl:=q9t h.2
  exact hr.1
 ·cases h
def q9a (ps0:List PK)(own:List (Nat×Blk N)):Nat->(ps:List PK)->Option (HOut N.ρ ps×List Nat×List Nat)
 |_,[]=>some ((),[],[])
 |i,.v _::ps=>q9a ps0 own (i+1) ps
 | i,.io el e::ps=>match look own (pid i)with
  |some (.row el' e' xs bs _)=>bif eqB el' el then match q0u N (.sl e') (.sl e) xs,q9a ps0 own (i+1) ps with
   |some xs,some (y,B,R)=>some ((xs,y),bs++B,pid i::R)
   |_,_=>none
   else none
  |_=>none
 | i,.bw t::ps=>match look own (pid i)with
  |some (.whole t' x bs)=>match q0u N t' t x,q9a ps0 own (i+1) ps with
   |some x,some (y,B,R)=>some ((x,y),bs++B,pid i::R)
   |_,_=>none
  |_=>none
 | i,.bc l::ps=>match look own (pid i)with
  |some (.cells rs)=>match q1x (qpw ps0) own l rs,q9a ps0 own (i+1) ps with
   |some (x,b,J),some (y,B,R)=>some ((x,y),b++B,pid i::(J++R))
   |_,_=>none
  |_=>none
 |i,.fv _::ps=>q9a ps0 own (i+1) ps
 | i,.fb f::ps=>match look own (pid i)with
  |some (.cells rs)=>bif qpx f (pid i) rs then match q9a ps0 own (i+1) ps with
   |some (y,B,R)=>some (((),y),B,pid i::R)
   |none=>none
   else none
  |_=>none
 |i,.ag _ _::ps=>q9a ps0 own (i+1) ps
 |i,.go _ _::ps=>q9a ps0 own (i+1) ps
 |i,.fn _ _::ps=>q9a ps0 own (i+1) ps
 |i,.rp _::ps=>q9a ps0 own (i+1) ps
def z18s:Slot N->Option (RV N)
 |.one r=>some r
 |_=>none
def z12q (τ:TypeId->Option TI)(σ:St N):ResultVar->Option (RV N)
 |.tmp t=>some (ev σ (.tmp t))
 | .cell a t=>match τ t with
  | some ⟨.nm n,_⟩=>match ev σ (.tmp a)with
   |.bptr id 0=>match look σ.own id with
    |some (.whole (.nm m) x bs)=>bif Nat.beq m n then some (q6d (.nm m) x bs)else none
    |_=>none
   |.optr id 0 0=>match look σ.own id with
    |some (.row e' T' xs bs _)=>q5g (.nm n) e' T' xs bs 0 0 fun s _=>z18s s
    |_=>none
   |_=>none
  |none=>none
  | some _=>match ev σ (.tmp a)with
   |.bptr id 0=>match look σ.own id with
    |some (.cells [r])=>some r
    |some (.whole ty x bs)=>bif qzt ty then none else some (q6d ty x bs)
    |_=>none
   |_=>none
def z12p (τ:TypeId->Option TI)(σ:St N):ResultVar->Option (Nat×List (RV N))
 |.tmp _=>none
 | .cell a t=>match τ t with
  | some ⟨.nm n,_⟩=>match ev σ (.tmp a)with
   |.bptr id 0=>match look σ.own id with
    |some (.cells l)=>bif Nat.beq l.length (N.size n)&&l.all qhp then some (n,l)else none
    |_=>none
   |_=>none
  |_=>none
def qh6 (τ:TypeId->Option TI)(σ:St N):Nat->List ResultVar->Option (List (RV N)×List (Nat×Blk N))
 |_,[]=>some ([],[])
 | i,r::l=>match z12p τ σ r with
  |some (n,cs)=>match look σ.own (700000+i),qh6 τ {σ with own:=ins (700000+i) (.vals n cs) σ.own} (i+1) l with
   |none,some (y,ad)=>some (.mp (700000+i)::y,ad++[(700000+i,.vals n cs)])
   |_,_=>none
  |none=>match z12q τ σ r,qh6 τ σ (i+1) l with
   |some x,some (y,ad)=>some (x::y,ad)
   |_,_=>none
def qj1 (σ:St N):(rs:List RK)->List (RV N)->Option (HRes N.ρ rs×List Nat×List Nat)
 |[],[]=>some ((),[],[])
 |.v t::rs,d::ds=>match toDen σ.own t d,qj1 σ rs ds with
  |some (x,b),some (y,B,R)=>some ((x,y),b++B,R)
  |_,_=>none
 | .own el e::rs,d::ds=>match d with
  | .own j=>match look σ.own j with
   |some (.row el' e' xs bs false)=>bif eqB el' el then match q0u N (.sl e') (.sl e) xs,qj1 σ rs ds with
    |some xs,some (y,B,R)=>some ((xs,y),bs++B,j::R)
    |_,_=>none
    else none
   |_=>none
  |.nil=>match qj1 σ rs ds with
   |some (y,B,R)=>some (([],y),B,R)
   |none=>none
  |_=>none
 | .ag n l::rs,d::ds=>match d with
  | .mp id=>match look σ.own id with
   |some (.vals m us)=>bif Nat.beq m n then match q1x noFk σ.own l us,qj1 σ rs ds with
    |some (x,b,J),some (y,B,R)=>some ((x,y),b++B,J++R)
    |_,_=>none
    else none
   |_=>none
  |_=>none
 |_,_=>none
def qoo (τ:TypeId->Option TI)(ps:List PK)(rs:List RK)(ds:List ResultVar)(σ:St N):Option (HRes N.ρ rs×HOut N.ρ ps):=
 match qh6 τ σ 0 ds with
 |none=>none
 |some (ds,ad)=>match qj1 {σ with own:=q0d ad σ.own} rs ds,q9a ps (q0d ad σ.own) 0 ps with
  |some (y,B,R),some (z,B',R')=>bif q3g (R'++R)&&!q1j (R'++R) (B++B')then some (y,z)else none
  |_,_=>none
def qg0 (tmps:Array Value):ResultVar->Sem Value
 |.tmp t=>pure (tmps.getD t undef)
 |.cell a t=>do loadVar t (<-asAddr (tmps.getD a undef))
theorem qva {τ:TypeId->Option TI}(F:Fits P N τ)(h:RelE io w0 σ E a w){rv:ResultVar}{r:RV N}(hr:z12q τ σ rv=some r):∃v,(qg0 a.tmps rv).run P w=.ok v w/\q0a w σ.own E r v:=by
 cases rv with
 |tmp t=>
  cases hr
  exact⟨_,rfl,h.ev (.tmp t)⟩
 | cell d t=>
  simp only[z12q]at hr
  split at hr
  ·rename_i n e hτ
   split at hr
   ·rename_i id hid
    have hev:=h.ev (.tmp d)
    rw[hid]at hev
    obtain⟨_,g,e1,e2⟩:=hev
    have e2:a.tmps.getD d undef=.pointer (some ⟨g,0,none⟩):=e2
    split at hr
    ·rename_i m x bs hlk
     cases hm:Nat.beq m n with
     |false=>rw[hm]at hr;cases hr
     | true=>
      rw[hm]at hr
      cases hr
      obtain rfl:=Nat.eq_of_beq_eq_true hm
      obtain⟨g',T,arr,c1,c2,c3⟩:=h.own id _ hlk
      rw[e1]at c1
      cases c1
      have hc:∀(j:Nat) u,arr.toList[j]?=some u->w.cell? ((⟨g,0,none⟩:Addr).add j)=some u:=by
       intro j u hu
       have hadd:(⟨g,0,none⟩:Addr).add j=⟨g,j,none⟩:=by unfold Addr.add;split<;>simp_all
       rw[hadd,cell_of_row w g _ arr T (0,0) c2]
       simpa using hu
      obtain⟨v,r1,r2⟩:=F.load hτ c3 hc
      refine⟨v,?_,q21 c3 r2⟩
      simp only[Instr.loadAt,Instr.sureAddr,Sem.run_bind,Sem.run_pure,Result.andThen_ok]at r1
      simpa[qg0,e2,asAddr]using r1
    ·cases hr
   ·rename_i id hid
    have hev:=h.ev (.tmp d)
    rw[hid]at hev
    obtain⟨g,cap,n',t',⟨e2,xs2,bs2,p2,q1,q2⟩,g2,g3,g4⟩:=hev
    have g4:a.tmps.getD d undef=.pointer (some ⟨g,0*N.sz t'+0,none⟩):=g4
    split at hr
    ·rename_i e' T' xs bs p hl
     rw[hl]at q1
     cases q1
     obtain⟨n0,y,hn0,_,_,h1,_,h3⟩:=q4f hr
     cases hn0
     cases h1
     obtain⟨cells,c1,c2⟩:=h.own id _ hl
     have hrep:=h3 c1 (by rw[g3];exact fun e=>by cases e) c2
     rcases c1.2 with⟨hv,hn⟩|⟨g',cap',cur,T0,fz,hv,hg,_,_,_,_,_,ht⟩
     ·rw[g3]at hv;cases hv
     ·rw[g3]at hv
      simp only[Value.slice.injEq,Option.some.injEq,Addr.mk.injEq]at hv
      obtain⟨⟨rfl,_⟩,_,rfl⟩:=hv
      obtain⟨v,r1,r2⟩:=F.load hτ (w:=w) (ad:=⟨g,0*N.sz t'+0,none⟩) hrep (fun j u hu=>by
       rw[<-ht,List.getElem?_take]at hu
       split at hu
       ·rw[show(⟨g,0*N.sz t'+0,none⟩:Addr).add j=⟨g,0*N.sz t'+0+j,none⟩from by unfold Addr.add;split<;>simp_all,cell_of_row w g _ cur _ _ hg,show 0*N.sz t'+0+j=j from by omega]
        simpa using hu
       ·cases hu)
      refine⟨v,?_,cells,hrep,r2⟩
      simp only[Instr.loadAt,Instr.sureAddr,Sem.run_bind,Sem.run_pure,Result.andThen_ok]at r1
      rw[qg0,g4]
      simpa[asAddr]using r1
    ·cases hr
   ·cases hr
  ·cases hr
  ·rename_i ti hn hτ
   obtain⟨ty,e⟩:=ti
   have hagg:(Go.isAgg t).run P w=.ok false w:=by
    rw[F.isAgg hτ w]
    cases ty with
    |nm n=>exact(hn n e rfl).elim
    |_=>rfl
   split at hr
   ·rename_i id hid
    have hev:=h.ev (.tmp d)
    rw[hid]at hev
    obtain⟨_,g,e1,e2⟩:=hev
    have e2:a.tmps.getD d undef=.pointer (some ⟨g,0,none⟩):=e2
    have run:∀u,w.cell? ⟨g,0,none⟩=some u->(qg0 a.tmps (.cell d t)).run P w=.ok u w:=by
     intro u hu
     simp[qg0,e2,asAddr,loadVar,hagg,hu]
    have cell:∀{T:TypeId} {arr:Array Value} {u:Value},w.heap[g]?=some (.cells arr T (0,0))->arr[0]?=some u->w.cell? ⟨g,0,none⟩=some u:=by
     intro T arr u hg hu
     have:=h.box (id:=0) hg 0 0 u (by simpa using hu)
     simpa[Addr.add]using this
    split at hr
    ·rename_i r' hlk
     cases hr
     obtain⟨g',T,arr,c1,c2,c3,c4⟩:=h.own id _ hlk
     rw[e1]at c1
     cases c1
     have hlt:0<arr.size:=by rw[c3];simp
     have hu:arr[0]?=some arr[0]:=Array.getElem?_eq_getElem hlt
     exact⟨_,run _ (cell c2 hu),c4 0 r _ rfl hu⟩
    ·rename_i ty' x bs hlk
     cases hm:qzt ty' with
     |true=>rw[hm]at hr;cases hr
     | false=>
      rw[hm]at hr
      cases hr
      obtain⟨g',T,arr,c1,c2,c3⟩:=h.own id _ hlk
      rw[e1]at c1
      cases c1
      have hlen:arr.size=1:=by
       have:=q05 c3
       rw[Array.length_toList]at this
       rw[this]
       cases ty' with
       |nm n=>cases hm
       |_=>rfl
      have hu:arr[0]?=some (arr[0]'(by omega)):=Array.getElem?_eq_getElem (by omega)
      refine⟨_,run _ (cell c2 hu),q21 c3 ?_⟩
      have hl:arr.toList=[arr[0]'(by omega)]:=by
       obtain⟨l⟩:=arr
       match l,hlen with
       |[v],_=>rfl
      cases ty' with
      |nm n=>cases hm
      |_=>exact hl
    ·cases hr
   ·cases hr
theorem qat {β:Type}:∀(a b l:List (Nat×β)),q0d (a++b) l=q0d a (q0d b l)
 |[],_,_=>rfl
 |(i,v)::a,b,l=>by simp only[List.cons_append,q0d,qat a b l]
theorem qv9 {τ:TypeId->Option TI}(F:Fits P N τ)(h:RelE io w0 σ E a w){rv:ResultVar}{n:Nat}{l:List (RV N)}(hr:z12p τ σ rv=some (n,l)):
  ∃arr:Array Value,(qg0 a.tmps rv).run P w=.ok (.agg arr) w/\arr.size=l.length/\(∀u∈arr.toList,u.oneCell'=true)/\∀(i:Nat) r u,l[i]?=some r->arr[i]?=some u->q0a w σ.own E r u:=by
 cases rv with
 |tmp t=>cases hr
 | cell d t=>
  simp only[z12p]at hr
  split at hr
  ·rename_i n' e hτ
   split at hr
   ·rename_i id hid
    split at hr
    ·rename_i l' hlk
     obtain⟨hc,hr⟩:=q02 hr
     cases hr
     simp only[Bool.and_eq_true]at hc
     have hlen:=Nat.eq_of_beq_eq_true hc.1
     have hev:=h.ev (.tmp d)
     rw[hid]at hev
     obtain⟨_,g,e1,e2⟩:=hev
     have e2:a.tmps.getD d undef=.pointer (some ⟨g,0,none⟩):=e2
     obtain⟨g',T,arr,c1,c2,c3,c4⟩:=h.own id _ hlk
     rw[e1]at c1
     cases c1
     have hl:=F.loadCells hτ (w:=w) (cs:=arr.toList) (ad:=⟨g,0,none⟩) (by simpa[hlen]using c3) (fun j u hu=>h.box (id:=id) c2 0 j u (by simpa using hu))
     refine⟨arr,?_,c3,fun u hu=>?_,c4⟩
     ·simp only[Instr.loadAt,Instr.sureAddr,Sem.run_bind,Sem.run_pure,Result.andThen_ok]at hl
      simpa[qg0,e2,asAddr]using hl
     ·obtain⟨i,hi⟩:=List.getElem?_of_mem hu
      have hi:arr[i]?=some u:=by simpa using hi
      have hlt:i<l.length:=by rw[<-c3];exact(Array.getElem?_eq_some_iff.1 hi).1
      exact h.cellOne (c4 i l[i] u (gE hlt) hi) (List.all_eq_true.1 hc.2 _ (gM hlt))
    ·cases hr
   ·cases hr
  ·cases hr
theorem q92 {τ:TypeId->Option TI}(F:Fits P N τ):∀{rvs:List ResultVar} {σ:St N} {E:Env} {i:Nat} {l:List (RV N)} {ad:List (Nat×Blk N)},RelE io w0 σ E a w->qh6 τ σ i rvs=some (l,ad)->
  ∃(E':Env) (us:List Value),RelE io w0 {σ with own:=q0d ad σ.own} E' a w/\(∀r v,q0a w σ.own E r v->q0a w (q0d ad σ.own) E' r v)/\us.length=l.length/\us.length=rvs.length/\(∀(i:Nat) rv u,rvs[i]?=some rv->us[i]?=some u->(qg0 a.tmps rv).run P w=.ok u w)/\
   ∀(i:Nat) r u,l[i]?=some r->us[i]?=some u->q0a w (q0d ad σ.own) E' r u
 |[],σ,E,i,l,ad,h,hl=>by
  cases hl
  exact⟨E,[],h,(fun _ _ h=>h),rfl,rfl,(fun i rv u hi _=>by simp at hi),fun i rv u hi _=>by simp at hi⟩
 | rv ::rvs,σ,E,i,l,ad,h,hl=>by
  simp only[qh6]at hl
  split at hl
  ·rename_i n cs hcs
   split at hl
   ·rename_i y ad' hno hy
    cases hl
    obtain⟨arr,k1,k2,k3,k4⟩:=qv9 F h hcs
    have hadd:=h.add (Ext.refl w) (V:=.agg arr) (b:=.vals n cs) hno (fun g hg=>by cases hg) ⟨arr,q06 _ _ _,k2,k3,fun i r u hi hu=>q28 (Ext.refl w) hno (fun g hg=>by cases hg) (k4 i r u hi hu)⟩
    obtain⟨E',us,q1,q2,q3,q4,q5,q6⟩:=q92 F hadd hy
    have hown:q0d (ad'++[(700000+i,Blk.vals n cs)]) σ.own=q0d ad' (ins (700000+i) (.vals n cs) σ.own):=by rw[qat];rfl
    refine⟨E',.agg arr::us,by rw[hown];exact q1,fun r v hr=>by rw[hown];exact q2 r v (q28 (Ext.refl w) hno (fun g hg=>by cases hg) hr),by simp[q3],by simp[q4],fun j rv u hj hu=>?_,fun j r u hj hu=>?_⟩
    ·cases j with
     |zero=>
      simp only[List.getElem?_cons_zero,Option.some.injEq]at hj hu
      subst hj hu
      exact k1
     |succ j=>exact q5 j rv u (by simpa using hj) (by simpa using hu)
    ·rw[hown]
     cases j with
     |zero=>
      simp only[List.getElem?_cons_zero,Option.some.injEq]at hj hu
      subst hj hu
      refine q2 _ _ ⟨.inr (.inr (.inr ⟨n,cs,?_⟩)),(q06 _ _ _).symm⟩
      show look (ins (700000+i) (Blk.vals n cs) σ.own) (700000+i)=_
      rw[q08,if_pos rfl]
     |succ j=>exact q6 j r u (by simpa using hj) (by simpa using hu)
   ·cases hl
  ·split at hl
   ·rename_i x y ad' hx hy
    cases hl
    obtain⟨v,v1,v2⟩:=qva F h hx
    obtain⟨E',us,q1,q2,q3,q4,q5,q6⟩:=q92 F h hy
    refine⟨E',v::us,q1,q2,by simp[q3],by simp[q4],fun j rv u hj hu=>?_,fun j r u hj hu=>?_⟩
    ·cases j with
     |zero=>
      simp only[List.getElem?_cons_zero,Option.some.injEq]at hj hu
      subst hj hu
      exact v1
     |succ j=>exact q5 j rv u (by simpa using hj) (by simpa using hu)
    ·cases j with
     |zero=>
      simp only[List.getElem?_cons_zero,Option.some.injEq]at hj hu
      subst hj hu
      exact q2 _ _ v2
     |succ j=>exact q6 j r u (by simpa using hj) (by simpa using hu)
   ·cases hl
theorem q6h {ok ok':Nat->Prop}{vs0:List Value}(h:∀g,ok g->ok' g):∀{l:List CK} {x:HC N.ρ l} {us:List Value},qe3 w ok vs0 l x us->qe3 w ok' vs0 l x us
 |[],_,_,hh=>hh
 |.c t::l,x,us,⟨u,rest,e,k1,k2⟩=>⟨u,rest,e,q09 (fun _ _ _ h=>h) h k1,q6h h k2⟩
 |.o el t::l,x,us,⟨u,rest,e,⟨cells,k1,k3⟩,k2⟩=>⟨u,rest,e,⟨cells,k1,q0p (fun x cs hx=>q09 (fun _ _ _ h=>h) h hx) k3⟩,q6h h k2⟩
 |.f f js::l,x,us,⟨u,rest,e,k1,k2⟩=>⟨u,rest,e,k1,q6h h k2⟩
theorem q4w (h:RelE io w0 σ E a w){okA:Nat->Prop}{B0:List Nat}{ps0:List PK}{vs0:List Value}(hfk:∀f js r u,qpw ps0 f js r=true->q0a w σ.own E r u->u=qbu vs0 f js)(hA:∀g,okb w.heap.size σ.own E B0 g->okA g):∀(ps:List PK) (i:Nat) (vs:List Value) (y:HOut N.ρ ps) (B R:List Nat),q9a ps0 σ.own i ps=some (y,B,R)->(∀k∈B,k∈B0)->vs.length=ps.length->
  (∀(j:Nat) p v,ps[j]?=some p->vs[j]?=some v->qiz p=true->E (pid (i+j))=v)->
  q6i w okA vs0 ps y vs (R.flatMap fun id=>q0t (E id))/\∀id∈R,∃b,look σ.own id=some b
 |[],i,vs,y,B,R,ho,hB,hl,hv=>by
  cases ho
  exact⟨rfl,fun id hid=>by cases hid⟩
 | .v t::ps,i,vs,y,B,R,ho,hB,hl,hv=>by
  match vs,hl with
  | v::vs,hl=>
   exact q4w h hfk hA ps (i+1) vs y B R ho hB (by simpa using hl) (fun j p v hp hv' hpin=>by
    rw[show i+1+j=i+(j+1)from by omega]
    exact hv (j+1) p v (by simpa using hp) (by simpa using hv') hpin)
 | .io el e::ps,i,vs,y,B,R,ho,hB,hl,hv=>by
  match vs,hl with
  | v ::vs,hl=>
   have hEv:E (pid i)=v:=hv 0 _ v rfl rfl rfl
   simp only[q9a]at ho
   split at ho
   ·rename_i el' e' xs bs p hlk
    obtain⟨hel,ho⟩:=q02 ho
    obtain⟨hel,hlt⟩:=q5y hel
    subst hel
    split at ho
    ·rename_i xs' y1 B1 R1 h1 h2
     cases ho
     obtain⟨et,rfl⟩:=q0b h1
     cases et
     obtain⟨q1,q2⟩:=q4w h hfk hA ps (i+1) vs y1 B1 R1 h2 (fun k hk=>hB k (mA.2 (.inr hk))) (by simpa using hl) (fun j p v hp hv' hpin=>by
      rw[show i+1+j=i+(j+1)from by omega]
      exact hv (j+1) p v (by simpa using hp) (by simpa using hv') hpin)
     obtain⟨cells,c1,c2⟩:=q6q (fun k hk=>hB k (mA.2 (.inl hk))) (h.ownAt hlk hlt)
     rw[hEv]at c1
     exact⟨⟨v,vs,q0t v,_,rfl,by rw[List.flatMap_cons,hEv],⟨⟨cells,c1,q0p (fun x cs hx=>q09 (fun _ _ _ h=>h) hA hx) c2⟩,rfl⟩,q1⟩,fun id hid=>by
      rcases List.mem_cons.1 hid with rfl|hid
      ·exact⟨_,hlk⟩
      ·exact q2 id hid⟩
    ·cases ho
   ·cases ho
 | .bw t::ps,i,vs,y,B,R,ho,hB,hl,hv=>by
  match vs,hl with
  | v ::vs,hl=>
   have hEv:E (pid i)=v:=hv 0 _ v rfl rfl rfl
   simp only[q9a]at ho
   split at ho
   ·rename_i t' x bs hlk
    split at ho
    ·rename_i x' y1 B1 R1 h1 h2
     cases ho
     obtain⟨rfl,rfl⟩:=q0b h1
     obtain⟨q1,q2⟩:=q4w h hfk hA ps (i+1) vs y1 B1 R1 h2 (fun k hk=>hB k (mA.2 (.inr hk))) (by simpa using hl) (fun j p v hp hv' hpin=>by
      rw[show i+1+j=i+(j+1)from by omega]
      exact hv (j+1) p v (by simpa using hp) (by simpa using hv') hpin)
     obtain⟨g,T,arr,c1,c2,c3⟩:=h.own _ _ hlk
     have c3:=q2k (fun k hk=>hB k (mA.2 (.inl hk))) c3
     rw[hEv]at c1
     exact⟨⟨v,vs,[g],_,rfl,by rw[List.flatMap_cons,hEv,c1];rfl,⟨g,T,arr,⟨c1,c2⟩,q09 (fun _ _ _ h=>h) hA c3,rfl⟩,q1⟩,fun id hid=>by
      rcases List.mem_cons.1 hid with rfl|hid
      ·exact⟨_,hlk⟩
      ·exact q2 id hid⟩
    ·cases ho
   ·cases ho
 | .ag n l::ps,i,vs,y,B,R,ho,hB,hl,hv=>by
  match vs,hl with
  | v::vs,hl=>
   exact q4w h hfk hA ps (i+1) vs y B R ho hB (by simpa using hl) (fun j p v hp hv' hpin=>by
    rw[show i+1+j=i+(j+1)from by omega]
    exact hv (j+1) p v (by simpa using hp) (by simpa using hv') hpin)
 | .go el e::ps,i,vs,y,B,R,ho,hB,hl,hv=>by
  match vs,hl with
  | v::vs,hl=>
   exact q4w h hfk hA ps (i+1) vs y B R ho hB (by simpa using hl) (fun j p v hp hv' hpin=>by
    rw[show i+1+j=i+(j+1)from by omega]
    exact hv (j+1) p v (by simpa using hp) (by simpa using hv') hpin)
 | .fn f js::ps,i,vs,y,B,R,ho,hB,hl,hv=>by
  match vs,hl with
  | v::vs,hl=>
   exact q4w h hfk hA ps (i+1) vs y B R ho hB (by simpa using hl) (fun j p v hp hv' hpin=>by
    rw[show i+1+j=i+(j+1)from by omega]
    exact hv (j+1) p v (by simpa using hp) (by simpa using hv') hpin)
 | .rp t::ps,i,vs,y,B,R,ho,hB,hl,hv=>by
  match vs,hl with
  | v::vs,hl=>
   exact q4w h hfk hA ps (i+1) vs y B R ho hB (by simpa using hl) (fun j p v hp hv' hpin=>by
    rw[show i+1+j=i+(j+1)from by omega]
    exact hv (j+1) p v (by simpa using hp) (by simpa using hv') hpin)
 | .fv f::ps,i,vs,y,B,R,ho,hB,hl,hv=>by
  match vs,hl with
  | v::vs,hl=>
   exact q4w h hfk hA ps (i+1) vs y B R ho hB (by simpa using hl) (fun j p v hp hv' hpin=>by
    rw[show i+1+j=i+(j+1)from by omega]
    exact hv (j+1) p v (by simpa using hp) (by simpa using hv') hpin)
 | .fb f::ps,i,vs,y,B,R,ho,hB,hl,hv=>by
  match vs,hl with
  | v ::vs,hl=>
   have hEv:E (pid i)=v:=hv 0 _ v rfl rfl rfl
   simp only[q9a]at ho
   split at ho
   ·rename_i rs hlk
    obtain⟨hf,ho⟩:=q02 ho
    rw[qg1 hf]at hlk
    split at ho
    ·rename_i y1 B1 R1 h2
     cases ho
     obtain⟨q1,q2⟩:=q4w h hfk hA ps (i+1) vs y1 B R1 h2 hB (by simpa using hl) (fun j p v hp hv' hpin=>by
      rw[show i+1+j=i+(j+1)from by omega]
      exact hv (j+1) p v (by simpa using hp) (by simpa using hv') hpin)
     obtain⟨g,T,arr,c1,c2,c3,c4⟩:=h.own _ _ hlk
     rw[hEv]at c1
     refine⟨⟨v,vs,[g],_,rfl,by rw[List.flatMap_cons,hEv,c1];rfl,⟨g,T,arr,⟨c1,c2⟩,?_,rfl⟩,q1⟩,fun id hid=>?_⟩
     ·obtain⟨l⟩:=arr
      match l,c3 with
      |[u],_=>
       have:=(c4 0 _ u rfl (by simp)).1
       rw[this,<-hEv]
       rfl
     ·rcases List.mem_cons.1 hid with rfl|hid
      ·exact⟨_,hlk⟩
      ·exact q2 id hid
    ·cases ho
   ·cases ho
 | .bc l::ps,i,vs,y,B,R,ho,hB,hl,hv=>by
  match vs,hl with
  | v ::vs,hl=>
   have hEv:E (pid i)=v:=hv 0 _ v rfl rfl rfl
   simp only[q9a]at ho
   split at ho
   ·rename_i rs hlk
    split at ho
    ·rename_i x b J y1 B1 R1 h1 h2
     cases ho
     obtain⟨q1,q2⟩:=q4w h hfk hA ps (i+1) vs y1 B1 R1 h2 (fun k hk=>hB k (mA.2 (.inr hk))) (by simpa using hl) (fun j p v hp hv' hpin=>by
      rw[show i+1+j=i+(j+1)from by omega]
      exact hv (j+1) p v (by simpa using hp) (by simpa using hv') hpin)
     obtain⟨g,T,arr,c1,c2,c3,c4⟩:=h.own _ _ hlk
     obtain⟨p1,p2,p3⟩:=q37 h (B0:=B0) hfk l rs arr.toList x b J h1 (by simpa using c3) (fun i r u hi hu=>c4 i r u hi (by simpa using hu)) (fun i hi=>hB i (mA.2 (.inl hi)))
     rw[hEv]at c1
     refine⟨⟨v,vs,g::q4y l arr.toList,_,rfl,?_,⟨g,T,arr,⟨c1,c2⟩,q6h hA p1,rfl⟩,q1⟩,fun id hid=>?_⟩
     ·rw[List.flatMap_cons,List.flatMap_append,hEv,c1,p2]
      simp[q0t,q0j]
     ·rcases List.mem_cons.1 hid with rfl|hid
      ·exact⟨_,hlk⟩
      ·rcases mA.1 hid with hid|hid
       ·obtain⟨b,hb,_⟩:=p3 id hid
        exact⟨b,hb⟩
       ·exact q2 id hid
    ·cases ho
   ·cases ho
theorem q6s (h:RelE io w0 σ E a w){okA:Nat->Prop}{B0:List Nat}(hA:∀g,okb w.heap.size σ.own E B0 g->okA g):∀(rs:List RK) (ds:List (RV N)) (us:List Value) (y:HRes N.ρ rs) (B R:List Nat),qj1 σ rs ds=some (y,B,R)->(∀k∈B,k∈B0)->
  us.length=ds.length->(∀(i:Nat) r u,ds[i]?=some r->us[i]?=some u->q0a w σ.own E r u)->
  qo1 w okA rs y us (R.flatMap fun id=>q0t (E id))/\∀id∈R,∃b,look σ.own id=some b
 |[],[],us,y,B,R,hr,hB,hl,hu=>by
  cases hr
  rw[List.eq_nil_of_length_eq_zero hl]
  exact⟨⟨rfl,rfl⟩,fun id hid=>by cases hid⟩
 |[],_::_,us,y,B,R,hr,hB,hl,hu=>by cases hr
 |.v t::rs,[],us,y,B,R,hr,hB,hl,hu=>by cases hr
 |.own el e::rs,[],us,y,B,R,hr,hB,hl,hu=>by cases hr
 |.ag n l::rs,[],us,y,B,R,hr,hB,hl,hu=>by cases hr
 | .ag n l::rs,d::ds,us,y,B,R,hr,hB,hl,hu=>by
  match us,hl with
  | u ::us,hl=>
   have hu0:=hu 0 d u rfl rfl
   have hus:∀(i:Nat) r u,ds[i]?=some r->us[i]?=some u->q0a w σ.own E r u:=fun i r u hi hu'=>hu (i+1) r u (by simpa using hi) (by simpa using hu')
   simp only[qj1]at hr
   split at hr
   ·rename_i _ id _
    split at hr
    ·rename_i m cs hlk
     obtain⟨hm,hr⟩:=q02 hr
     split at hr
     ·rename_i x b J y1 B1 R1 h1 h2
      cases hr
      obtain⟨q1,q2⟩:=q6s h hA rs ds us y1 B1 R1 h2 (fun k hk=>hB k (mA.2 (.inr hk))) (by simpa using hl) hus
      obtain⟨arr,c1,c2,c3,c4⟩:=h.own _ _ hlk
      obtain⟨p1,p2,p3⟩:=q37 h (B0:=B0) qxx l cs arr.toList x b J h1 (by simpa using c2) (fun i r u hi hu=>c4 i r u hi (by simpa using hu)) (fun i hi=>hB i (mA.2 (.inl hi)))
      refine⟨⟨u,us,q4y l arr.toList,_,rfl,?_,⟨arr.toList,by rw[hu0.2,c1],q6h hA p1,rfl⟩,q1⟩,fun id hid=>?_⟩
      ·rw[List.flatMap_append,p2]
      ·rcases mA.1 hid with hid|hid
       ·obtain⟨b,hb,_⟩:=p3 id hid
        exact⟨b,hb⟩
       ·exact q2 id hid
     ·cases hr
    ·cases hr
   ·cases hr
 | .v t::rs,d::ds,us,y,B,R,hr,hB,hl,hu=>by
  match us,hl with
  | u::us,hl=>
   have hu0:=hu 0 d u rfl rfl
   have hus:∀(i:Nat) r u,ds[i]?=some r->us[i]?=some u->q0a w σ.own E r u:=fun i r u hi hu'=>hu (i+1) r u (by simpa using hi) (by simpa using hu')
   simp only[qj1]at hr
   split at hr
   ·rename_i x b y1 B1 R1 h1 h2
    cases hr
    obtain⟨q1,q2⟩:=q6s h hA rs ds us y1 B1 R h2 (fun k hk=>hB k (mA.2 (.inr hk))) (by simpa using hl) hus
    obtain⟨cs,k1,k2⟩:=h.toDen h1 hu0
    exact⟨⟨_,_,[],_,rfl,rfl,⟨⟨cs,q09 (fun _ _ _ h=>h) hA (q2k (fun k hk=>hB k (mA.2 (.inl hk))) k1),k2⟩,rfl⟩,q1⟩,q2⟩
   ·cases hr
 | .own el e::rs,d::ds,us,y,B,R,hr,hB,hl,hu=>by
  match us,hl with
  | u ::us,hl=>
   have hev:=hu 0 d u rfl rfl
   have hus:∀(i:Nat) r u,ds[i]?=some r->us[i]?=some u->q0a w σ.own E r u:=fun i r u hi hu'=>hu (i+1) r u (by simpa using hi) (by simpa using hu')
   simp only[qj1]at hr
   split at hr
   ·rename_i _ j _
    split at hr
    ·rename_i el' e' xs bs hlk
     obtain⟨hel,hr⟩:=q02 hr
     obtain⟨hel,hlt⟩:=q5y hel
     subst hel
     split at hr
     ·rename_i xs' y1 B1 R1 h1 h2
      cases hr
      obtain⟨et,rfl⟩:=q0b h1
      cases et
      obtain⟨q1,q2⟩:=q6s h hA rs ds us y1 B1 R1 h2 (fun k hk=>hB k (mA.2 (.inr hk))) (by simpa using hl) hus
      obtain⟨cells,c1,c2⟩:=q6q (fun k hk=>hB k (mA.2 (.inl hk))) (h.ownAt hlk hlt)
      rw[<-hev.1]at c1
      refine⟨⟨_,_,q0t (E j),_,rfl,rfl,⟨⟨cells,c1,q0p (fun x cs hx=>q09 (fun _ _ _ h=>h) hA hx) c2⟩,by rw[<-hev.1]⟩,q1⟩,fun id hid=>?_⟩
      rcases List.mem_cons.1 hid with rfl|hid
      ·exact⟨_,hlk⟩
      ·exact q2 id hid
     ·cases hr
    ·cases hr
   ·split at hr
    ·rename_i y1 B1 R1 h2
     cases hr
     obtain⟨q1,q2⟩:=q6s h hA rs ds us y1 B R h2 hB (by simpa using hl) hus
     have hev:u=.slice none 0 0:=hev
     refine⟨⟨_,_,[],_,rfl,rfl,⟨⟨[],?_,rfl⟩,?_⟩,q1⟩,q2⟩
     ·show _/\w.ownsRow 0 el (N.sz e) u 0 []
      rw[hev]
      exact⟨.inl rfl,by simp,.inl ⟨rfl,rfl⟩⟩
     ·show[]=q0t u
      rw[hev]
      rfl
    ·cases hr
   ·cases hr
end Go.Eng

set_option linter.unusedVariables false
set_option linter.unusedSimpArgs false
namespace Go.Eng
variable {N:Names} {P:Program}
theorem qft {fn:Func}{ds:List ResultVar}(h:fn.results.toList=ds)(hl:ds.length<=5)(tmps:Array Value)(w:World)(us:List Value)(hlen:us.length=ds.length)
  (hus:∀(i:Nat) rv u,ds[i]?=some rv->us[i]?=some u->(qg0 tmps rv).run P w=.ok u w):(results fn tmps).run P w=.ok (qb1 us) w:=by
 have hr:fn.results=ds.toArray:=Array.ext' h
 have e:results fn tmps=(do let vs<-fn.results.mapM (qg0 tmps);pure (if h:vs.size=1 then vs[0]else .tuple vs)):=by
  have hf:qg0 tmps=fun rv=>match rv with
    |.tmp t=>pure (tmps.getD t undef)
    |.cell a t=>(do loadVar t (<-asAddr (tmps.getD a undef)):Sem Value):=(funext fun rv=>by cases rv<;>rfl)
  rw[hf]
  rfl
 rw[e,hr]
 clear e
 match ds,hl,us,hlen with
 |[],_,[],_=>simp[qb1]
 |[d1],_,[u1],_=>
  have h1:=hus 0 d1 u1 rfl rfl
  simp[qb1,h1]
 |[d1,d2],_,[u1,u2],_=>
  have h1:=hus 0 d1 u1 rfl rfl
  have h2:=hus 1 d2 u2 rfl rfl
  simp[qb1,h1,h2]
 |[d1,d2,d3],_,[u1,u2,u3],_=>
  have h1:=hus 0 d1 u1 rfl rfl
  have h2:=hus 1 d2 u2 rfl rfl
  have h3:=hus 2 d3 u3 rfl rfl
  simp[qb1,h1,h2,h3]
 |[d1,d2,d3,d4],_,[u1,u2,u3,u4],_=>
  have h1:=hus 0 d1 u1 rfl rfl
  have h2:=hus 1 d2 u2 rfl rfl
  have h3:=hus 2 d3 u3 rfl rfl
  have h4:=hus 3 d4 u4 rfl rfl
  simp[qb1,h1,h2,h3,h4]
 |[d1,d2,d3,d4,d5],_,[u1,u2,u3,u4,u5],_=>
  have h1:=hus 0 d1 u1 rfl rfl
  have h2:=hus 1 d2 u2 rfl rfl
  have h3:=hus 2 d3 u3 rfl rfl
  have h4:=hus 3 d4 u4 rfl rfl
  have h5:=hus 4 d5 u5 rfl rfl
  simp[qb1,h1,h2,h3,h4,h5]
structure Fn (N:Names)where
 X:Ctx N
 body:Code
 ds:List ResultVar
 ntmps:Nat
abbrev U:Slot N:=.one .undef
def qgt (f:Func):Code:=match f.body with
 |some c=>c
 |none=>.skip
def Fn.C (f:Fn N)(ps:List PK)(rs:List RK):Conts N (HRes N.ρ rs×HOut N.ρ ps):=⟨qoo f.X.τ ps rs f.ds,fun _ _=>none,qoo f.X.τ ps rs f.ds⟩
def Fn.at (f:Fn N)(ps:List PK)(rs:List RK)(n id:Nat)(σ:St N):Option (HRes N.ρ rs×HOut N.ρ ps):=tbl f.X f.body (f.C ps rs) n id σ
def Fn.from (f:Fn N)(ps:List PK)(rs:List RK)(n:Nat)(σ:St N):Option (HRes N.ρ rs×HOut N.ρ ps):=qet f.X (f.at ps rs n) f.body (f.C ps rs) σ
def Fn.run (f:Fn N)(ps:List PK)(rs:List RK)(n:Nat)(x:HIn N.ρ ps):Option (HRes N.ρ rs×HOut N.ρ ps):=f.from ps rs n (qgz ps f.ntmps f.X.gh x)
theorem q4e {P : Program}{f : FuncId}{fn : Func}{c : Code}(hf : P.funcs[f]? = some fn)(hb : fn.body = some c)(hn : (fn.name == "runtime.NumGoroutine") = false)(w : World)(args : Array Value) :
  (callFunc f args).run P w=.ok (.enter f args) w:=by
 unfold callFunc
 simp only[Sem.run_bind,run_program,Result.andThen_ok,hf,hb,hn,Option.isNone_some,Bool.false_eq_true,if_false,Sem.run_pure]
theorem q8z:∀(ps:List PK) (i j:Nat) (p:PK),ps[j]?=some p->qiz p=true->pid (i+j)∈q4s i ps
 |[],i,j,p,hp,_=>by simp at hp
 |q::ps,i,0,p,hp,hpin=>by
  simp only[List.getElem?_cons_zero,Option.some.injEq]at hp
  subst hp
  cases q with
  |v t=>cases hpin
  |fv f=>cases hpin
  |ag n l=>cases hpin
  |go el e=>cases hpin
  |fn f js=>cases hpin
  |rp t=>cases hpin
  |_=>exact mS
 |q::ps,i,j+1,p,hp,hpin=>by
  have:=q8z ps (i+1) j p (by simpa using hp) hpin
  rw[show i+1+j=i+(j+1)from by omega]at this
  cases q with
  |v t=>exact this
  |fv f=>exact this
  |ag n l=>exact this
  |go el e=>exact this
  |fn f js=>exact this
  |rp t=>exact this
  |_=>exact mC _ this
theorem qu2 {f : Fn N}(F : Fits P N f.X.τ)(hm : P.follows .mixedOrders = true)(hΦ : ∀ g S, f.X.Φ g = some S -> Good P (g % 1000000) S)(hI : ∀ g J, f.X.inl g = some J -> InlOk P g J){id : FuncId}{fn : Func}(hf : P.funcs[id]? = some fn)(hb : fn.body = some f.body)(hn : (fn.name == "runtime.NumGoroutine") = false)
  (hres:fn.results.toList=f.ds) (hl:f.ds.length<=5) (ht:fn.ntmps=f.ntmps) (hocc:q3g (occ f.X f.body)=true)
  (S:Spec N) (hgh:f.X.gh=S.gh) (hids:(q3g (q1s 0 S.ps)&&qs4 S.ps S.ps)=true) (hpins:f.X.pins=q4s 0 S.ps)
  (hrun:∀x r,S.f x=some r->∃n,f.run S.ps S.rs n x=some (S.out r)):Good P id S where
 enter w args:=q4e hf hb hn w args
 calls w ok x vs bl r hok hin hbl hblk hr:=by
  obtain⟨n,hrun⟩:=hrun x r hr
  rw[Bool.and_eq_true]at hids
  obtain⟨hids,hjs⟩:=hids
  obtain⟨L,l1,l2,l3,l4,l4',l5,l6,l7⟩:=q3s (ps0:=S.ps) S.ps 0 x vs bl hin hjs
  have hLids:(L.map (·.1)).Nodup:=by rw[l2];exact q1u hids
  let E0:Env:=⟨q7l L,fun b=>ok b\/b∈bl\/w.heap.size<=b⟩
  let io:Io:=⟨fun g=>g∈bl,fun b=>ok b\/b∈bl\/w.heap.size<=b,f.X.pins,q7l L⟩
  have hst:qge L (q1f 0 S.ps x) E0:=fun e he=>by
   have:=q8x hLids e he
   rw[l1]at this
   exact this
  have hof:∀id b,look (q1f 0 S.ps x) id=some b->∃e∈L,e.1=id/\e.2.1=b/\q7l L id=e.2.2:=by
   intro id b hb
   rw[<-l1]at hb
   obtain⟨e,he,rfl,rfl⟩:=qio hb
   exact⟨e,he,rfl,rfl,(q8x hLids e he).2⟩
  have hbof:∀id b,look (q1f 0 S.ps x) id=some b->∀g,q0j (q7l L id)=some g->g∈bl:=by
   intro id b hb g hg
   obtain⟨e,he,rfl,rfl,hv⟩:=hof id b hb
   rw[hv]at hg
   rw[l3]
   exact List.mem_flatMap.2 ⟨e,he,q11.2 hg⟩
  have hok0:∀g,ok g->okb w.heap.size (q1f 0 S.ps x) E0 [] g:=fun g hg=>⟨⟨hok g hg,.inl hg⟩,fun id hid _ hg2=>by
   obtain⟨b,hb⟩:=Option.isSome_iff_exists.1 hid
   exact(hblk g (hbof id b hb g hg2)).1 hg⟩
  have hbx:qhj S.ps vs (q1f 0 S.ps x) E0:=by
   intro j hj
   unfold qm9 at hj
   split at hj
   ·rename_i p hp
    have hlt:j<vs.length:=by
     have:=(List.getElem?_eq_some_iff.1 hp).1
     omega
    have hpin:qiz p=true:=by cases p<;>first|rfl|cases hj
    obtain⟨e,he,e1,e2,e3⟩:=l5 j p vs[j] hp (gE hlt) hpin
    rw[Nat.zero_add]at e1
    obtain⟨s1,s2⟩:=hst e he
    obtain⟨k1,g,k2⟩:=e3 hj
    have hv:E0 (pid j)=vs[j]:=by rw[<-e1,<-e2];exact s2
    refine⟨?_,?_,g,hv.trans k2⟩
    ·rw[<-e1]
     rcases k1 with⟨t,y,bs,k1⟩|⟨l,k1⟩
     ·exact .inl ⟨t,y,bs,by rw[s1,k1]⟩
     ·exact .inr (.inl ⟨l,by rw[s1,k1]⟩)
    ·rw[hv,gQ,gE hlt]
     rfl
   ·cases hj
  obtain⟨hblkR,hregs⟩:=l7 _ E0 hst hbx hok0
  have hvl:(vs.take (S.ps.length-S.gh)).length=S.ps.length-S.gh:=by rw[lT];omega
  have hrel:Rel io w (qgz S.ps f.ntmps f.X.gh x) {tmps:=(vs.take (S.ps.length-S.gh)).toArray++Array.replicate (fn.ntmps-(vs.take (S.ps.length-S.gh)).toArray.size) undef,defers:=[]} w:=by
   refine⟨E0,⟨⟨rfl,rfl,rfl,nR _,fun _ _ _=>rfl⟩,?_,rfl,?_,?_,?_,?_,rfl,?_,?_⟩⟩
   ·simp[qgz,l4',ht,l4,hgh]
   ·intro t s hs
    simp only[qgz,hgh]at hs
    rcases Nat.lt_or_ge t (S.ps.length-S.gh)with hlt|hge
    ·rw[List.getElem?_append_left (by simp[l4',hlt]),List.getElem?_map,List.getElem?_take,if_pos hlt]at hs
     obtain⟨r0,hr0,rfl⟩:=Option.map_eq_some_iff.1 hs
     have hlt':t<vs.length:=by omega
     have hv:((vs.take (S.ps.length-S.gh)).toArray++Array.replicate (fn.ntmps-(vs.take (S.ps.length-S.gh)).toArray.size) undef).getD t undef=vs[t]:=by
      rw[Array.getD_eq_getD_getElem?,Array.getElem?_append_left (by rw[List.size_toArray,hvl];exact hlt)]
      rw[List.getElem?_toArray,List.getElem?_take,if_pos hlt,gE hlt']
      rfl
     rw[hv]
     exact hregs t r0 _ hr0 (gE hlt')
    ·rw[List.getElem?_append_right (by simp[l4',hge]),List.getElem?_replicate]at hs
     split at hs
     ·cases hs
      rename_i hlt
      refine⟨[],?_,rfl,fun i r u hi _=>by simp at hi⟩
      have:((vs.take (S.ps.length-S.gh)).toArray++Array.replicate (fn.ntmps-(vs.take (S.ps.length-S.gh)).toArray.size) undef).getD t undef=undef:=by
       rw[Array.getD_eq_getD_getElem?,Array.getElem?_append_right (by rw[List.size_toArray,hvl];exact hge)]
       rw[Array.getElem?_replicate]
       split<;>rfl
      rw[this]
      rfl
     ·cases hs
   ·intro id b hb
    obtain⟨e,he,rfl,rfl,_⟩:=hof id b hb
    exact hblkR e he
   ·intro id b hb g hg
    have:=hbof id b hb g hg
    exact⟨(hblk g this).2,.inr this⟩
   ·intro id id' b b' h1 h2 hne g hg
    obtain⟨e,he,rfl,rfl,hv⟩:=hof id b h1
    obtain⟨e',he',rfl,rfl,hv'⟩:=hof id' b' h2
    show q0j (q7l L e'.1)≠some g
    have hg:q0j (q7l L e.1)=some g:=hg
    rw[hv]at hg
    rw[hv']
    exact qmf (by rw[<-l3];exact hbl) e he e' he' hne g hg
   ·rintro b (hb|hb)
    ·exact .inr (.inr hb)
    ·exact .inr (.inl hb)
   ·intro i hi
    obtain⟨e,he,rfl,hp⟩:=l6 i (by rw[<-hpins];exact hi)
    obtain⟨s1,s2⟩:=hst e he
    exact⟨e.2.1,s1,rfl,hp⟩
  have hcon:ConOk io w (S.out r) (f.C S.ps S.rs) (bodyPost P fn fun e w'=>∃us bl' rl,e=.returned (qb1 us)/\AfterCall S ok vs bl w w' r us bl' rl):=by
   have key:∀σ a w',qoo f.X.τ S.ps S.rs f.ds σ=some (S.out r)->Rel io w σ a w'->a.defers=[]/\∃v,(results fn a.tmps).run P w'=.ok v w'/\∃us bl' rl,Ending.returned v=.returned (qb1 us)/\AfterCall S ok vs bl w w' r us bl' rl:=by
    rintro σ a w' hfin ⟨E,hR⟩
    unfold qoo at hfin
    split at hfin
    ·cases hfin
    rename_i rvs ad hrvs
    obtain⟨E1,us,hR1,_,u1,u2,u3,u4⟩:=q92 F hR hrvs
    refine⟨hR.defers,_,qft hres hl _ _ us u2 u3,?_⟩
    have hfk:∀f' js r u,qpw S.ps f' js r=true->q0a w' (q0d ad σ.own) E1 r u->u=qbu vs f' js:=by
     intro f' js r' u hf' hr'
     unfold qpw at hf'
     split at hf'
     ·simp only[Bool.and_eq_true]at hf'
      obtain⟨⟨hf1,hf2⟩,hf3⟩:=hf'
      obtain rfl:=Nat.eq_of_beq_eq_true hf1
      obtain rfl:=q9t hf2
      have hf3:=List.all_eq_true.1 hf3
      rw[hr'.1]
      unfold qbu
      congr 2
      rw[List.map_map]
      refine List.map_congr_left (fun j hj=>?_)
      have hjb:=hf3 j hj
      obtain⟨_,b2,_⟩:=hbx j hjb
      have hpm:pid j∈io.ids:=by
       show pid j∈f.X.pins
       rw[hpins]
       unfold qm9 at hjb
       split at hjb
       ·rename_i p hp
        have:=q8z S.ps 0 j p hp (by cases p<;>first|rfl|cases hjb)
        rwa [Nat.zero_add]at this
       ·cases hjb
      obtain⟨b,_,f2,_⟩:=hR1.fx _ hpm
      show E1 (pid j)=_
      rw[f2]
      exact b2
     ·cases hf'
    split at hfin
    ·rename_i y B R z B' R' h1 h2
     obtain⟨hcond,hfin⟩:=q02 hfin
     simp only[Bool.and_eq_true,Bool.not_eq_true']at hcond
     have hout:=Option.some.inj hfin
     have hnd:=q1u hcond.1
     have hmt:=q1t hcond.2
     have hall:∀id∈R'++R,∃b,look (q0d ad σ.own) id=some b:=by
      intro id hid
      rcases mA.1 hid with hid|hid
      ·exact(q4w hR1 hfk (okA:=fun _=>True) (B0:=B') (fun _ _=>trivial) S.ps 0 vs z B' R' h2 (fun _ h=>h) l4 (fun j p v hp hv hpin=>by
        obtain⟨e,he,e1,e2,_⟩:=l5 j p v hp hv hpin
        have hpm:pid (0+j)∈io.ids:=by
         show pid (0+j)∈f.X.pins
         rw[hpins]
         exact q8z S.ps 0 j p hp hpin
        obtain⟨b,_,f2,_⟩:=hR1.fx _ hpm
        rw[f2]
        show q7l L (pid (0+j))=v
        rw[<-e1,(q8x hLids e he).2,e2])).2 id hid
      ·exact(q6s hR1 (okA:=fun _=>True) (B0:=B) (fun _ _=>trivial) S.rs rvs us y B R h1 (fun _ h=>h) u1 u4).2 id hid
     have hA:∀g,okb w'.heap.size (q0d ad σ.own) E1 (B++B') g->qis ok w w' bl (((R'.flatMap fun id=>q0t (E1 id)))++(R.flatMap fun id=>q0t (E1 id))) g:=by
      rintro g ⟨⟨g1,g2⟩,g3⟩
      refine⟨g1,by rw[hR1.sc]at g2;exact g2,fun hm=>?_⟩
      rw[<-List.flatMap_append]at hm
      obtain⟨id,hid,hg⟩:=List.mem_flatMap.1 hm
      obtain⟨b,hb⟩:=hall id hid
      exact g3 id (by rw[hb];rfl) (fun hm=>hmt id hm hid) (q11.1 hg)
     obtain⟨q1,_⟩:=q4w hR1 hfk hA S.ps 0 vs z B' R' h2 (fun _ h=>mA.2 (.inr h)) l4 (fun j p v hp hv hpin=>by
        obtain⟨e,he,e1,e2,_⟩:=l5 j p v hp hv hpin
        have hpm:pid (0+j)∈io.ids:=by
         show pid (0+j)∈f.X.pins
         rw[hpins]
         exact q8z S.ps 0 j p hp hpin
        obtain⟨b,_,f2,_⟩:=hR1.fx _ hpm
        rw[f2]
        show q7l L (pid (0+j))=v
        rw[<-e1,(q8x hLids e he).2,e2])
     obtain⟨q2,_⟩:=q6s hR1 hA S.rs rvs us y B R h1 (fun _ h=>mA.2 (.inl h)) u1 u4
     refine⟨us,R'.flatMap fun id=>q0t (E1 id),R.flatMap fun id=>q0t (E1 id),rfl,?_⟩
     refine⟨⟨hR1.kept.os,hR1.kept.tape,hR1.kept.output,hR1.kept.size,hR1.kept.block⟩,?_,?_,?_,?_⟩
     ·rw[<-hout]
      exact q1
     ·rw[<-hout]
      exact q2
     ·rw[<-List.flatMap_append]
      exact qc9 hR1 hnd hall
     ·intro g hg
      rw[<-List.flatMap_append]at hg
      obtain⟨id,hid,hg⟩:=List.mem_flatMap.1 hg
      obtain⟨b,hb⟩:=hall id hid
      obtain⟨k1,k2⟩:=hR1.blk id b hb g (q11.1 hg)
      exact⟨k2.symm,k1⟩
    ·cases hfin
   refine⟨fun σ a w' h1 h2=>?_,fun i σ a w' h1 _=>(by cases h1),fun σ a w' h1 h2=>?_⟩
   ·exact key σ a w' h1 h2
   ·exact key σ a w' h1 h2
  exact calls_of_wp hf hb (qqq F hΦ hI hm rfl (q1u hocc) hcon hrun hrel)
def Fn.spec (f:Fn N)(ps:List PK)(rs:List RK)(n:Nat):Spec N:=⟨ps,rs,HRes N.ρ rs×HOut N.ρ ps,f.run ps rs n,fun r=>r,f.X.gh⟩
def Fn.specG (f:Fn N)(gh:Nat)(ps:List PK)(rs:List RK)(n:Nat):Spec N:=⟨ps,rs,HRes N.ρ rs×HOut N.ρ ps,f.run ps rs n,fun r=>r,gh⟩
def qdf:List (Nat×Spec N)->FuncId->Option (Spec N)
 |[],_=>none
 |(k,v)::r,i=>bif k==i then some v else qdf r i
inductive Goods (P:Program):List (Nat×Spec N)->Prop
 |nil:Goods P []
 |cons' {k:Nat} {S:Spec N} {l:List (Nat×Spec N)}:Good P (k%1000000) S->Goods P l->Goods P ((k,S)::l)
theorem Goods.cons {P:Program}{j:Nat}{S:Spec N}{l:List (Nat×Spec N)}(h:Good P j S)(hl:Goods P l)(e:j=j%1000000:=by rfl):Goods P ((j,S)::l):=.cons' (e▸h) hl
theorem Goods.look {P:Program}{l:List (Nat×Spec N)}(h:Goods P l):∀f S,qdf l f=some S->Good P (f%1000000) S:=by
 induction h with
 |nil=>intro f S hf;cases hf
 | @cons' k S' l hg _ ih=>
  intro f S hf
  simp only[qdf]at hf
  cases hk:(k==f)with
  |true=>
   rw[hk]at hf
   cases hf
   have:k=f:=by simpa using hk
   rw[<-this]
   exact hg
  |false=>
   rw[hk]at hf
   exact ih f S hf
theorem qxz {P:Program}:∀g J,qra (N:=N) g=some J->InlOk P g J:=fun g J h=>by cases h
theorem z11y {f : Fn N}{ps : List PK}{rs : List RK}{k : Nat}{l : List (Nat × Spec N)}{τ : TypeId -> Option TI}(F : Fits P N τ)(hτ : f.X.τ = τ)(hm : P.follows .mixedOrders = true)(hΦ : f.X.Φ = qdf l)(hg : Goods P l){id : FuncId}{fn : Func}(hf : P.funcs[id]? = some fn)(hb : fn.body = some f.body)(hn : (fn.name == "runtime.NumGoroutine") = false)
  (hres:fn.results.toList=f.ds) (hl:Nat.ble f.ds.length 5=true) (ht:fn.ntmps=f.ntmps) (hocc:q3g (occ f.X f.body)=true)
  (hids:(q3g (q1s 0 ps)&&qs4 ps ps)=true) (hpins:f.X.pins=q4s 0 ps) (hinl:f.X.inl=qra:=by rfl):Good P id (f.spec ps rs k):=
 qu2 (by rw[hτ];exact F) hm (by rw[hΦ];exact hg.look) (by rw[hinl];exact qxz) hf hb hn hres (Nat.le_of_ble_eq_true hl) ht hocc _ rfl hids hpins (fun x r h=>⟨k,h⟩)
def q66 (ps:List PK)(rs:List RK)(gh:Nat)(g:HIn N.ρ ps->Option (HRes N.ρ rs×HOut N.ρ ps)):Spec N:=⟨ps,rs,HRes N.ρ rs×HOut N.ρ ps,g,fun r=>r,gh⟩
theorem z15k {id : FuncId}{fn : Func}{c : Code}(hf : P.funcs[id]? = some fn)(hb : fn.body = some c)(hn : (fn.name == "runtime.NumGoroutine") = false)(ps : List PK)(rs : List RK)(gh : Nat) : Good P id (q66 (N := N) ps rs gh fun _ => none) where
 enter w args:=q4e hf hb hn w args
 calls w ok x vs bl r _ _ _ _ hr:=by cases hr
theorem qxm {f:Fn N}{ps:List PK}{rs:List RK}{k:Nat}{g:HIn N.ρ ps->Option (HRes N.ρ rs×HOut N.ρ ps)}{id:FuncId}(h:Good P id (f.spec ps rs k))(he:∀x,g x=f.run ps rs k x):Good P id (q66 ps rs f.X.gh g):=by
 have:g=f.run ps rs k:=funext he
 subst this
 exact h
end Go.Eng

set_option linter.unusedVariables false
set_option linter.unusedSimpArgs false
namespace Go.Eng
variable {N:Names} {P:Program}
def qhb:Slot N->RV N
 |.one r=>bif qhp r then r else .undef
 |.tup _=>.undef
def qwt (s:Slot N)(r:RV N):Slot N:=match s with
 |.one r0=>bif qhp r0 then .one r else .one .undef
 |.tup _=>.one .undef
def q8y (own:List (Nat×Blk N)):Nat->Option Nat
 |0=>none
 |n+1=>match look own (800000+n)with
  |none=>some (800000+n)
  |some _=>q8y own n
theorem q8f {own:List (Nat×Blk N)}:∀{n s:Nat},q8y own n=some s->look own s=none
 |0,s,h=>by cases h
 | n+1,s,h=>by
  simp only[q8y]at h
  split at h
  ·rename_i hl
   cases h
   exact hl
  ·exact q8f h
def Fn.fin {β:Type}(f:Fn N)(σ:St N)(s:Nat)(k:List (RV N)->St N->Option β)(σ1:St N):Option β:=
 match qh6 f.X.τ σ1 0 f.ds with
 |none=>none
 |some (rvs,ad)=>match look (q0d ad σ1.own) s with
  |some (.vals _ l)=>k rvs {regs:=List.zipWith qwt σ.regs l,own:=q0d ad σ1.own}
  |_=>none
def qr3 (f:Fn N):Inl N:=⟨fun{β} pins σ rs k=>match q8y σ.own 4 with
 |none=>none
 |some s=>qet ⟨f.X.τ,f.X.Φ,fun _=>none,s::pins,0,f.X.inl⟩ (fun _ _=>none) f.body ⟨f.fin σ s k,fun _ _=>none,f.fin σ s k⟩ {regs:=rs.map Slot.one++List.replicate (f.ntmps-rs.length) (.tup []),own:=ins s (.vals 0 (σ.regs.map qhb)) σ.own}⟩
theorem q64 {X:Ctx N}(hK:X.K=fun _=>none):∀c:Code,occ X c=[]
 |.seq a b=>by
  have h1:X.cutOf b=none:=by unfold Ctx.cutOf;split<;>simp[hK]
  simp[occ,q64 hK a,q64 hK b,h1]
 |.cond _ t e=>by simp[occ,q64 hK t,q64 hK e]
 |.block _ c=>by simp[occ,q64 hK c]
 |.loop c=>by
  have h1:X.cutOf c=none:=by unfold Ctx.cutOf;split<;>simp[hK]
  simp[occ,q64 hK c,h1]
 |.scope c=>by simp[occ,q64 hK c]
 |.skip=>rfl
 |.label _=>rfl
 |.region .. =>rfl
 |.exit _=>rfl
 |.ret=>rfl
 |.rangeFunc .. =>rfl
 |.goto _=>rfl
 |.refuse _=>rfl
def qww (v:Value):Option (Slot N)->Value
 |some (.one r)=>bif qhp r then v else .bool false
 |_=>.bool false
theorem Kept.turn {io io':Io}{w0 w:World}(hp:io'.p=io.p)(h:Kept io w0 w):Kept io' w0 w:=⟨h.os,h.tape,h.output,h.size,by rw[hp];exact h.block⟩
theorem qnt {io:Io}{w0 w:World}{σ:St N}{E:Env}{a:Act}(h:RelE io w0 σ E a w):∃arr:List Value,arr.length=σ.regs.length/\(∀u∈arr,u.oneCell'=true)/\
  ∀(i:Nat) s u,σ.regs[i]?=some s->arr[i]?=some u->q0a w σ.own E (qhb s) u/\((∃r,s=.one r/\qhp r=true/\u=a.tmps.getD i undef)\/∀r,qwt s r=.one .undef):=by
 refine⟨(List.range σ.regs.length).map fun i=>qww (a.tmps.getD i undef) σ.regs[i]?,by simp,?_,?_⟩
 ·intro u hu
  obtain⟨i,hi,rfl⟩:=List.mem_map.1 hu
  unfold qww
  split
  ·rename_i r hr
   cases hc:qhp r with
   |true=>exact h.cellOne (h.regs i _ hr) hc
   |false=>rfl
  ·rfl
 ·intro i s u hs hu
  have hi:i<σ.regs.length:=(List.getElem?_eq_some_iff.1 hs).1
  rw[List.getElem?_map,List.getElem?_range hi]at hu
  simp only[Option.map_some,Option.some.injEq,hs]at hu
  subst hu
  cases s with
  |tup l=>exact⟨trivial,.inr fun r=>rfl⟩
  | one r=>
   cases hc:qhp r with
   |true=>
    have h1:=h.regs i _ hs
    refine⟨?_,.inl ⟨r,rfl,hc,by simp only[qww,hc,cT]⟩⟩
    simp only[qhb,qww,hc,cT]
    exact h1
   |false=>exact⟨by simp only[qhb,hc,cF];trivial,.inr fun r'=>by simp only[qwt,hc,cF]⟩
theorem z15p {f : Fn N}(F : Fits P N f.X.τ)(hm : P.follows .mixedOrders = true)(hΦ : ∀ g S, f.X.Φ g = some S -> Good P (g % 1000000) S)(hI : ∀ g J, f.X.inl g = some J -> InlOk P g J){id : FuncId}{fn : Func}(hf : P.funcs[id]? = some fn)(hb : fn.body = some f.body)(hn : (fn.name == "runtime.NumGoroutine") = false)
  (hres:fn.results.toList=f.ds) (hl:f.ds.length<=5) (ht:fn.ntmps=f.ntmps):InlOk P id (qr3 f)where
 enter w args:=q4e hf hb hn w args
 calls {β} σ rs k r io w0 E a w vals h hE hv:=by
  simp only[qr3]at h
  split at h
  ·cases h
  rename_i s hs
  have hs:=q8f hs
  obtain⟨arr,a1,a2,a3⟩:=qnt hE
  have hadd:=hE.add (Ext.refl w) (V:=.agg arr.toArray) (b:=.vals 0 (σ.regs.map qhb)) hs (fun g hg=>by cases hg)
   ⟨arr.toArray,q06 _ _ _,by simp[a1],(fun u hu=>a2 u (by simpa using hu)),fun i r u hi hu=>by
    rw[List.getElem?_map]at hi
    obtain⟨s0,hs0,rfl⟩:=Option.map_eq_some_iff.1 hi
    exact q28 (Ext.refl w) hs (fun g hg=>by cases hg) (a3 i s0 u hs0 (by simpa using hu)).1⟩
  let io':Io:={io with ids:=s::io.ids,fix:=fun i=>if i=s then .agg arr.toArray else io.fix i}
  have hids:∀i∈io.ids,i≠s:=fun i hi e=>by
   obtain⟨b,hb,_⟩:=hE.fx i hi
   rw[e,hs]at hb
   cases hb
  have hrel:Rel io' w0 {regs:=rs.map Slot.one++List.replicate (f.ntmps-rs.length) (.tup []),own:=ins s (.vals 0 (σ.regs.map qhb)) σ.own} {tmps:=vals.toArray++Array.replicate (fn.ntmps-vals.toArray.size) undef,defers:=[]} w:=by
   refine⟨qa7 E s (.agg arr.toArray),Kept.turn (io:=io) (io':=io') rfl hadd.kept,?_,rfl,?_,hadd.own,hadd.blk,hadd.sep,hadd.sc,hadd.nw,?_⟩
   ·simp[hv.1,ht]
   ·intro t s0 hs0
    rcases Nat.lt_or_ge t rs.length with hlt|hge
    ·rw[List.getElem?_append_left (by simpa using hlt),List.getElem?_map]at hs0
     obtain⟨r0,hr0,rfl⟩:=Option.map_eq_some_iff.1 hs0
     have hlt':t<vals.length:=by rw[hv.1];exact hlt
     have hval:(vals.toArray++Array.replicate (fn.ntmps-vals.toArray.size) undef).getD t undef=vals[t]:=by
      rw[Array.getD_eq_getD_getElem?,Array.getElem?_append_left (by simpa using hlt')]
      rw[List.getElem?_toArray,gE hlt']
      rfl
     rw[hval]
     exact q28 (Ext.refl w) hs (fun g hg=>by cases hg) (hv.2 t r0 _ hr0 (gE hlt'))
    ·rw[List.getElem?_append_right (by simpa using hge),List.getElem?_replicate]at hs0
     split at hs0
     ·cases hs0
      refine⟨[],?_,rfl,fun i r u hi _=>by simp at hi⟩
      have:(vals.toArray++Array.replicate (fn.ntmps-vals.toArray.size) undef).getD t undef=undef:=by
       rw[Array.getD_eq_getD_getElem?,Array.getElem?_append_right (by rw[List.size_toArray,hv.1];exact hge)]
       rw[Array.getElem?_replicate]
       split<;>rfl
      rw[this]
      rfl
     ·cases hs0
   ·intro i hi
    by_cases his:i=s
    ·subst his
     exact⟨_,by rw[q08,if_pos rfl],by rw[q06];simp[io'],rfl⟩
    ·have hi':i∈io.ids:=by
      rcases List.mem_cons.1 hi with h|h
      ·exact absurd h his
      ·exact h
     obtain⟨b0,h1,h2,h3⟩:=hadd.fx i hi'
     exact⟨b0,h1,by simp only[io',if_neg his];exact h2,h3⟩
  have hcon:ConOk io' w0 r ⟨f.fin σ s k,fun _ _=>none,f.fin σ s k⟩ (bodyPost P fn fun e w'=>∃us E' rs' σ',e=.returned (qb1 us)/\k rs' σ'=some r/\RelE io w0 σ' E' a w'/\qe4 w' σ'.own E' rs' us):=by
   have key:∀σ1 ac w1,f.fin σ s k σ1=some r->Rel io' w0 σ1 ac w1->ac.defers=[]/\∃v,(results fn ac.tmps).run P w1=.ok v w1/\∃us E' rs' σ',Ending.returned v=.returned (qb1 us)/\k rs' σ'=some r/\RelE io w0 σ' E' a w1/\qe4 w1 σ'.own E' rs' us:=by
    rintro σ1 ac w1 hfin ⟨E2,hR⟩
    unfold Fn.fin at hfin
    split at hfin
    ·cases hfin
    rename_i rvs ad hrvs
    obtain⟨E3,us,hR3,_,u1,u2,u3,u4⟩:=q92 F hR hrvs
    split at hfin
    ·rename_i n l hlk
     refine⟨hR.defers,_,qft hres hl _ _ us u2 u3,us,E3,rvs,_,rfl,hfin,?_,u1,u4⟩
     obtain⟨arr',b1,b2,b3,b4⟩:=hR3.own s _ hlk
     obtain⟨_,_,f2,_⟩:=hR3.fx s mS
     have hEs:E3 s=.agg arr.toArray:=by rw[f2];simp[io']
     rw[b1]at hEs
     cases hEs
     have hll:l.length=σ.regs.length:=by rw[<-b2];simpa using a1
     refine⟨Kept.turn (io:=io') (io':=io) rfl hR3.kept,?_,hE.defers,?_,hR3.own,hR3.blk,hR3.sep,hR3.sc,hR3.nw,?_⟩
     ·simp[hE.size,hll]
     ·intro t s0 hs0
      rw[List.getElem?_zipWith]at hs0
      cases hreg:σ.regs[t]? with
      |none=>rw[hreg]at hs0;simp at hs0
      | some s1=>
       cases hlt:l[t]? with
       |none=>rw[hreg,hlt]at hs0;simp at hs0
       | some r1=>
        rw[hreg,hlt]at hs0
        simp only[Option.some.injEq]at hs0
        subst hs0
        have htl:t<arr.length:=by rw[a1];exact(List.getElem?_eq_some_iff.1 hreg).1
        have hval:=b4 t r1 arr[t] hlt (by simp[htl])
        rcases(a3 t s1 arr[t] hreg (gE htl)).2 with⟨r0,rfl,hc,hu⟩|hu
        ·simp only[qwt,hc,cT]
         rw[<-hu]
         exact hval
        ·rw[hu];trivial
     ·intro i hi
      obtain⟨b0,h1,h2,h3⟩:=hR3.fx i (mC _ hi)
      exact⟨b0,h1,by rw[h2];simp only[io',if_neg (hids i hi)],h3⟩
    ·cases hfin
   exact⟨fun σ a w' h1 h2=>key σ a w' h1 h2,fun i σ a w' h1 _=>(by cases h1),fun σ a w' h1 h2=>key σ a w' h1 h2⟩
  have hocc:=q64 (X:=(⟨f.X.τ,f.X.Φ,fun _=>none,s::io.ids,0,f.X.inl⟩:Ctx N)) rfl f.body
  exact calls_of_wp hf hb (q1z (X:=⟨f.X.τ,f.X.Φ,fun _=>none,s::io.ids,0,f.X.inl⟩) F hΦ hI hm rfl f.body _ _ _ (fun id hid=>by rw[hocc]at hid;cases hid) (by rw[hocc];exact List.nodup_nil) hcon h _ _ hrel)
def z18n (τ:TypeId->Option TI)(Φ:FuncId->Option (Spec N))(I:FuncId->Option (Inl N))(f:Func):Fn N:=⟨⟨τ,Φ,fun _=>none,[],0,I⟩,qgt f,f.results.toList,f.ntmps⟩
def qn5:List (Nat×Inl N)->FuncId->Option (Inl N)
 |[],_=>none
 |(k,v)::r,i=>bif k==i then some v else qn5 r i
inductive Inls (P:Program):List (Nat×Inl N)->Prop
 |nil:Inls P []
 |cons {k:Nat} {J:Inl N} {l:List (Nat×Inl N)}:InlOk P k J->Inls P l->Inls P ((k,J)::l)
theorem Inls.look {P:Program}{l:List (Nat×Inl N)}(h:Inls P l):∀f J,qn5 l f=some J->InlOk P f J:=by
 induction h with
 |nil=>intro f J hf;cases hf
 | @cons k J' l hg _ ih=>
  intro f J hf
  simp only[qn5]at hf
  cases hk:(k==f)with
  |true=>
   rw[hk]at hf
   cases hf
   have:k=f:=by simpa using hk
   rw[<-this]
   exact hg
  |false=>
   rw[hk]at hf
   exact ih f J hf
theorem z15o {f : Fn N}{l : List (Nat × Spec N)}{li : List (Nat × Inl N)}{τ : TypeId -> Option TI}(F : Fits P N τ)(hτ : f.X.τ = τ)(hm : P.follows .mixedOrders = true)(hΦ : f.X.Φ = qdf l)(hg : Goods P l)(hi : f.X.inl = qn5 li)(hli : Inls P li){id : FuncId}{fn : Func}(hf : P.funcs[id]? = some fn)(hb : fn.body = some f.body)(hn : (fn.name == "runtime.NumGoroutine") = false)
  (hres:fn.results.toList=f.ds) (hl:Nat.ble f.ds.length 5=true) (ht:fn.ntmps=f.ntmps):InlOk P id (qr3 f):=
 z15p (by rw[hτ];exact F) hm (by rw[hΦ];exact hg.look) (by rw[hi];exact hli.look) hf hb hn hres (Nat.le_of_ble_eq_true hl) ht
theorem qox {f : Fn N}{ps : List PK}{rs : List RK}{k : Nat}{l : List (Nat × Spec N)}{li : List (Nat × Inl N)}{τ : TypeId -> Option TI}(F : Fits P N τ)(hτ : f.X.τ = τ)(hm : P.follows .mixedOrders = true)(hΦ : f.X.Φ = qdf l)(hg : Goods P l)(hi : f.X.inl = qn5 li)(hli : Inls P li){id : FuncId}{fn : Func}(hf : P.funcs[id]? = some fn)(hb : fn.body = some f.body)(hn : (fn.name == "runtime.NumGoroutine") = false)
  (hres:fn.results.toList=f.ds) (hl:Nat.ble f.ds.length 5=true) (ht:fn.ntmps=f.ntmps) (hocc:q3g (occ f.X f.body)=true)
  (hids:(q3g (q1s 0 ps)&&qs4 ps ps)=true) (hpins:f.X.pins=q4s 0 ps):Good P id (f.spec ps rs k):=
 qu2 (by rw[hτ];exact F) hm (by rw[hΦ];exact hg.look) (by rw[hi];exact hli.look) hf hb hn hres (Nat.le_of_ble_eq_true hl) ht hocc _ rfl hids hpins (fun x r h=>⟨k,h⟩)
end Go.Eng

set_option linter.unusedVariables false
set_option linter.unusedSimpArgs false
namespace Go.Eng
variable {N:Names} {P:Program}
def qsu (N:Names):(ts:List Ty)->HL N.ρ ts
 |[]=>()
 |t::ts=>(N.dflt t,qsu N ts)
theorem qry (hdv:∀n,N.un n (N.dv n)=qsu N (N.body n))(w:World)(ok:Nat->Prop):∀(f:Nat) (t:Ty) (cs:List Value),q3z N f t cs=true->Rep w ok t (N.dflt t) cs:=by
 have one:∀(g:Ty->List Value->Bool) (hg:∀t cs,g t cs=true->Rep w ok t (N.dflt t) cs) (ts:List Ty) (cs:List Value),qbm g N.sz ts cs=true->q98 w ok (q9l w ok) ts (qsu N ts) cs:=by
  intro g hg ts
  induction ts with
  |nil=>
   intro cs h
   simp only[qbm,List.isEmpty_iff]at h
   exact h
  |cons t ts ih=>
   intro cs h
   simp only[qbm,Bool.and_eq_true]at h
   exact⟨_,_,(List.take_append_drop _ cs).symm,hg _ _ h.1,ih _ h.2⟩
 intro f
 induction f with
 | zero=>
  intro t cs h
  unfold q3z at h
  split at h
  ·simp only[Bool.and_eq_true,decide_eq_true_eq]at h
   obtain⟨rfl,rfl⟩:=h
   rfl
  ·rename_i b
   cases b with
   |true=>cases h
   |false=>rfl
  ·rename_i s
   refine⟨s,rfl,?_⟩
   simp only[List.isEmpty_iff]at h
   unfold q0o
   rw[h]
   rfl
  ·exact⟨none,0,rfl,nR _,fun _=>rfl,fun i x hx=>by simp[Names.dflt]at hx⟩
  ·exact⟨_,rfl,h⟩
  ·rename_i h0
   cases h0
  ·cases h
 | succ f ih=>
  intro t cs h
  unfold q3z at h
  split at h
  ·simp only[Bool.and_eq_true,decide_eq_true_eq]at h
   obtain⟨rfl,rfl⟩:=h
   rfl
  ·rename_i b
   cases b with
   |true=>cases h
   |false=>rfl
  ·rename_i s
   refine⟨s,rfl,?_⟩
   simp only[List.isEmpty_iff]at h
   unfold q0o
   rw[h]
   rfl
  ·exact⟨none,0,rfl,nR _,fun _=>rfl,fun i x hx=>by simp[Names.dflt]at hx⟩
  ·exact⟨_,rfl,h⟩
  ·rename_i n hf
   cases hf
   refine q3d ?_
   rw[show N.un n (N.dflt (.nm n))=qsu N (N.body n)from hdv n]
   exact one _ ih _ _ h
  ·cases h
def qcx (P:Program)(t:TypeId)(n:Nat)(z:Value->Bool):Bool:=match P.info? t with
 |some i=>(match i.zero with|some v=>z v|none=>false)&&decide (i.size=n)&&Nat.ble i.bytes 32768
 |none=>false
theorem q39 {t:TypeId}{n:Nat}{z:Value->Bool}(h:qcx P t n z=true):∃v,z v=true/\qyj P t v n:=by
 unfold qcx at h
 split at h
 ·rename_i i hi
  simp only[Bool.and_eq_true,decide_eq_true_eq]at h
  obtain⟨⟨h1,h2⟩,h3⟩:=h
  split at h1
  ·rename_i v hv
   exact⟨v,h1,i,hi,hv,h2,Nat.le_of_ble_eq_true h3⟩
  ·cases h1
 ·cases h
def qal (N:Names)(τ:TypeId->Option TI):List Ty->Nat->List Field->Bool
 |[],_,[]=>true
 | ty :: tys, off, f :: fs => decide (f.offset = off) && (match τ f.type with | some ti => decide (ti.ty = ty) | none => false) && !(decide (N.sz ty = 0)) && !(decide (f.name = "_")) && qal N τ tys (off + N.sz ty) fs
 |_,_,_=>false
theorem q76 {τ:TypeId->Option TI}:∀(tys:List Ty) (off:Nat) (fs:List Field),qal N τ tys off fs=true->q2o N τ tys off fs
 |[],_,[],_=>trivial
 |[],_,_::_,h=>by cases h
 |_::_,_,[],h=>by cases h
 | ty::tys,off,f::fs,h=>by
  simp only[qal,Bool.and_eq_true,decide_eq_true_eq,Bool.not_eq_true',decide_eq_false_iff_not]at h
  obtain⟨⟨⟨⟨h1,h2⟩,h3⟩,h4⟩,h5⟩:=h
  refine⟨h1,?_,h3,h4,q76 tys _ fs h5⟩
  split at h2
  ·rename_i ti hti
   have:ti.ty=ty:=by simpa using h2
   exact⟨ti.el,by rw[hti,<-this]⟩
  ·cases h2
def z1bk (k:Value->Bool):Value->Bool:=k
def q8b (P:Program)(N:Names)(τ:TypeId->Option TI)(t:TypeId)(ti:TI):Bool:=
 match ti.ty with
 |.int k=>(match P.underlying t with|some (.int k')=>decide (k'=k)|_=>false)&&qcx P t 1 fun v=>match v with|.int k' n=>decide (k'=k)&&decide (n=0)|_=>false
 |.bool=>(match P.underlying t with|some .bool=>true|_=>false)&&qcx P t 1 fun v=>match v with|.bool b=>!b|_=>false
 |.str=>(match P.underlying t with|some .string=>true|_=>false)&&qcx P t 1 fun v=>match v with|.string s=>s.data.toList.isEmpty|_=>false
 |.sl e=>Nat.blt ti.el qgb&&(match P.underlying t with|some (.slice el)=>decide (el=ti.el)|_=>false)&&(match τ ti.el with|some te=>decide (te.ty=e)|none=>false)&&qcx P t 1 fun v=>match v with|.slice none 0 0=>true|_=>false
 |.opq=>(match P.underlying t with|some (.struct _)=>false|some (.array _ _)=>false|some _=>true|none=>false)&&(decide (ti.el=0)||(decide (ti.el=1)&&(match P.underlying t with|some (.func _ _ _)=>true|_=>false))||Nat.blt 1 ti.el&&(match P.underlying t with|some (.map k v)=>decide (k=ti.el/100000)&&decide (v=ti.el%100000)|_=>false))&&qcx P t 1 fun v=>v.oneCell'
 | .nm n=>(match P.underlying t with|some (.struct fs)=>decide (ti.el=0)&&qal N τ (N.body n) 0 fs.toList|some (.array len el)=>decide (ti.el=el+1)&&(match P.info? el with|some i=>qal N τ (N.body n) 0 (qrv len el i.size)|none=>false)|_=>false)&&!P.stoodInHeld t&&!P.eqGuardType P.depth t&&Nat.blt 0 (N.size n)&&
   qcx P t (N.size n) fun v=>match v with|.agg zc=>q3z N 8 (.nm n) zc.toList|_=>false
theorem z114 {l:List (TypeId×TI)}(hdv:∀n,N.un n (N.dv n)=qsu N (N.body n))(h:(l.all fun p=>q8b P N (look l) p.1 p.2)=true):Fits P N (look l):=by
 have key:∀t ti,look l t=some ti->q8b P N (look l) t ti=true:=fun t ti ht=>List.all_eq_true.1 h _ (q3t ht)
 constructor
 ·intro t k e ht
  have:=key t _ ht
  simp only[q8b,Bool.and_eq_true]at this
  obtain⟨h1,h2⟩:=this
  obtain⟨v,hv,hi⟩:=q39 h2
  constructor
  ·split at h1
   ·rename_i k' hk
    rw[hk]
    have:k'=k:=by simpa using h1
    rw[this]
   ·cases h1
  ·split at hv
   ·simp only[Bool.and_eq_true,decide_eq_true_eq]at hv
    obtain⟨rfl,rfl⟩:=hv
    exact hi
   ·cases hv
 ·intro t e ht
  have:=key t _ ht
  simp only[q8b,Bool.and_eq_true]at this
  obtain⟨h1,h2⟩:=this
  obtain⟨v,hv,hi⟩:=q39 h2
  constructor
  ·split at h1
   ·assumption
   ·cases h1
  ·split at hv
   ·rename_i b
    cases b with
    |true=>cases hv
    |false=>exact hi
   ·cases hv
 ·intro t e ht
  have:=key t _ ht
  simp only[q8b,Bool.and_eq_true]at this
  obtain⟨h1,h2⟩:=this
  obtain⟨v,hv,hi⟩:=q39 h2
  constructor
  ·split at h1
   ·assumption
   ·cases h1
  ·split at hv
   ·rename_i s
    obtain⟨⟨l⟩⟩:=s
    have:l=[]:=by simpa using hv
    subst this
    exact hi
   ·cases hv
 ·intro t ty e ht
  have:=key t _ ht
  simp only[q8b,Bool.and_eq_true]at this
  obtain⟨⟨⟨_,h1⟩,h3⟩,h2⟩:=this
  obtain⟨v,hv,hi⟩:=q39 h2
  refine⟨?_,?_,?_⟩
  ·split at h1
   ·rename_i el hel
    rw[hel]
    have:el=e:=by simpa using h1
    rw[this]
   ·cases h1
  ·split at h3
   ·rename_i te hte
    have:te.ty=ty:=by simpa using h3
    exact⟨te.el,by rw[hte,<-this]⟩
   ·cases h3
  ·split at hv
   ·exact hi
   ·cases hv
 ·intro t e ht
  have:=key t _ ht
  simp only[q8b,Bool.and_eq_true]at this
  obtain⟨⟨h1,_⟩,h2⟩:=this
  obtain⟨v,hv,hi⟩:=q39 h2
  refine⟨?_,v,hi,hv⟩
  split at h1
  ·cases h1
  ·cases h1
  ·rename_i d hn1 hn2 hd
   refine⟨_,hd,?_⟩
   split
   ·rename_i fs
    exact(hn1 fs rfl).elim
   ·rename_i n e
    exact(hn2 n e rfl).elim
   ·rfl
  ·cases h1
 ·intro t e ht
  have:=key t _ ht
  simp only[q8b,Bool.and_eq_true,Bool.or_eq_true,decide_eq_true_eq]at this
  obtain⟨⟨_,h1⟩,_⟩:=this
  rcases h1 with(h1|⟨h1,h2⟩)|⟨h0,h1⟩
  ·exact .inl h1
  ·refine .inr (.inl ⟨h1,?_⟩)
   split at h2
   ·rename_i ps rs v hv
    exact⟨ps,rs,v,hv⟩
   ·cases h2
  ·refine .inr (.inr ⟨Nat.le_of_ble_eq_true h0,?_⟩)
   split at h1
   ·rename_i k v hkv
    simp only[Bool.and_eq_true,decide_eq_true_eq]at h1
    rw[hkv,h1.1,h1.2]
   ·cases h1
 ·intro t n e ht
  have:=key t _ ht
  simp only[q8b,Bool.and_eq_true,Bool.not_eq_true']at this
  obtain⟨⟨⟨⟨h1,h2⟩,h3⟩,h4⟩,h5⟩:=this
  obtain⟨v,hv,hi⟩:=q39 h5
  have hz:∃zc:Array Value,qyj P t (.agg zc) (N.size n)/\0<N.size n/\∀w ok,Rep w ok (.nm n) (N.dv n) zc.toList:=by
   split at hv
   ·rename_i zc
    exact⟨zc,hi,Nat.le_of_ble_eq_true h4,fun w ok=>qry hdv w ok 8 (.nm n) _ hv⟩
   ·cases hv
  split at h1
  ·rename_i fs hfs
   simp only[Bool.and_eq_true,decide_eq_true_eq]at h1
   exact⟨fs,.inl ⟨h1.1,hfs⟩,q76 _ _ _ h1.2,h2,h3,hz⟩
  ·rename_i len el hfs
   simp only[Bool.and_eq_true,decide_eq_true_eq]at h1
   obtain⟨h0,h1⟩:=h1
   split at h1
   ·rename_i i hi'
    exact⟨_,.inr ⟨len,el,i,h0,hfs,hi',rfl⟩,q76 _ _ _ (by simpa using h1),h2,h3,hz⟩
   ·cases h1
  ·cases h1
 ·intro t n e i zc ht hi hz
  have:=key t _ ht
  simp only[q8b,Bool.and_eq_true]at this
  obtain⟨v,hv,j,hj1,hj2,_⟩:=q39 this.2
  rw[hi]at hj1
  cases hj1
  rw[hz]at hj2
  cases hj2
  exact hv
 ·intro t ty e ht
  have:=key t _ ht
  simp only[q8b,Bool.and_eq_true]at this
  exact Nat.le_of_ble_eq_true this.1.1.1
end Go.Eng

set_option linter.unusedVariables false
set_option linter.unusedSimpArgs false
namespace Go.Eng
variable {N:Names} {P:Program} {H:Type} {enc:TypeId×Value->H} {w:World} {τ:TypeId->Option TI}
/-! How great a value is; whether its numbers are of their kinds. -/
def qru {α:Type}(f:α->Nat):List α->Nat
 |[]=>0
 |x::r=>f x+qru f r
def qxt (g:(n:Nat)->N.ρ n->Nat):(t:Ty)->t.den N.ρ->Nat
 |.int _,_=>1
 |.bool,_=>1
 |.str,l=>l.length+1
 |.sl e,xs=>qru (qxt g e) xs+1
 |.nm n,x=>g n x
 |.opq,_=>1
def quh (g:(n:Nat)->N.ρ n->Nat):(ts:List Ty)->HL N.ρ ts->Nat
 |[],_=>0
 |t::ts,x=>qxt g t x.1+quh g ts x.2
def qr6 (N:Names):Nat->(n:Nat)->N.ρ n->Nat
 |0,_,_=>1
 |k+1,n,x=>quh (qr6 N k) (N.body n) (N.un n x)+1
def meas (k:Nat)(t:Ty)(x:t.den N.ρ):Nat:=qxt (qr6 N k) t x
def okT (g:(n:Nat)->N.ρ n->Prop):(t:Ty)->t.den N.ρ->Prop
 |.int k,n=>(Lit.int k n).wf=true
 |.bool,_=>True
 |.str,l=>∀b∈l,0<=b/\b<256
 |.sl e,xs=>∀x∈xs,okT g e x
 |.nm n,x=>g n x
 |.opq,_=>True
def okL (g:(n:Nat)->N.ρ n->Prop):(ts:List Ty)->HL N.ρ ts->Prop
 |[],_=>True
 |t::ts,x=>okT g t x.1/\okL g ts x.2
def okK (N:Names):Nat->(n:Nat)->N.ρ n->Prop
 |0,_,_=>True
 |k+1,n,x=>okL (okK N k) (N.body n) (N.un n x)
def okV (k:Nat)(t:Ty)(x:t.den N.ρ):Prop:=okT (okK N k) t x
mutual
def bulk {H:Type}:DataW H->Nat
 |.lit (.string bytes)=>bytes.length+1
 |.lit _=>1
 |.nil=>1
 |.ptr d=>bulk d+1
 |.slice elems spare=>bulkAll elems+bulkAll spare+1
 |.agg parts=>bulkAll parts+1
 |.iface _ d=>bulk d+1
 |.map entries=>bulkEntries entries+1
 |.held _=>1
def bulkAll {H:Type}:List (DataW H)->Nat
 |[]=>0
 |d::r=>bulk d+bulkAll r
def bulkEntries {H:Type}:List (Lit×DataW H)->Nat
 |[]=>0
 |x::r=>bulkEntry x+bulkEntries r
def bulkEntry {H:Type}:Lit×DataW H->Nat
 |(.string bytes,d)=>bytes.length+bulk d+1
 |(_,d)=>bulk d+1
end
theorem qo5 (d:DataW H):1<=bulk d:=by
 cases d with
 |lit l=>cases l<;>simp[bulk]
 |_=>simp[bulk]
theorem qvx {α:Type}{f:α->Nat}:∀(xs:List α) (ds:List (DataW H)),xs.length=ds.length->(∀(i:Nat) x d,xs[i]?=some x->ds[i]?=some d->f x<=bulk d)->qru f xs<=bulkAll ds
 |[],_,_,_=>Nat.zero_le _
 |x::xs,[],h,_=>by simp at h
 |x::xs,d::ds,h,hx=>by
  have h1:=hx 0 x d rfl rfl
  have h2:=qvx (f:=f) xs ds (by simpa using h) (fun i x d hi hd=>hx (i+1) x d (by simpa using hi) (by simpa using hd))
  simp only[qru,bulkAll]
  omega
theorem qef {α:Type}{Q:Nat->α->Prop}:∀(n:Nat),(∀i,i<n->∃x,Q i x)->∃xs:List α,xs.length=n/\∀(i:Nat) x,xs[i]?=some x->Q i x
 |0,_=>⟨[],rfl,fun i x h=>by simp at h⟩
 | n+1,h=>by
  obtain⟨xs,h1,h2⟩:=qef n (fun i hi=>h i (by omega))
  obtain⟨x,hx⟩:=h n (by omega)
  refine⟨xs++[x],by simp[h1],fun i y hy=>?_⟩
  rcases Nat.lt_or_ge i n with hi|hi
  ·rw[List.getElem?_append_left (by omega)]at hy
   exact h2 i y hy
  ·rw[List.getElem?_append_right (by omega)]at hy
   rcases Nat.eq_or_lt_of_le (show 0<=i-xs.length from Nat.zero_le _)with h0|h0
   ·rw[<-h0]at hy
    simp only[List.getElem?_cons_zero,Option.some.injEq]at hy
    subst hy
    rw[show i=n from by omega]
    exact hx
   ·obtain⟨m,hm⟩:∃m,i-xs.length=m+1:=⟨i-xs.length-1,by omega⟩
    rw[hm]at hy
    simp at hy
theorem qbt (F:Fits P N τ){t e:TypeId}{ty:Ty}(h:τ t=some ⟨ty,e⟩):P.cellsOf t=N.sz ty:=by
 obtain⟨i,z,zc,h1,h2,h3,_⟩:=F.info h
 simp[Program.cellsOf,h1,h3]
theorem qjs (s:ByteArray):∀b∈q0o s,0<=b/\b<256:=by
 intro b hb
 unfold q0o at hb
 obtain⟨u,_,rfl⟩:=List.mem_map.1 hb
 have:=u.toNat_lt
 omega
theorem z129 {sp:Nat->Bool}{held:Bool}{fuel:Nat}{t:TypeId}{d0:TypeDesc}{cs:List Value}{x:DataW H×List MemPlace}(hn:(match d0 with|.struct _|.array _ _=>true|_=>false)=false)(hu:P.underlying t=some d0)
  (h:DataW.trod enc P w 0 sp held fuel t cs=some x):∃v,cs=[v]/\v.oneCell'=true:=by
 cases fuel with
 |zero=>simp[DataW.trod]at h
 |succ n=>
  unfold DataW.trod at h
  rw[hu]at h
  split at h<;>first|exact⟨_,rfl,rfl⟩|(simp_all;done)|(rename_i heq;cases heq;cases hn)
theorem qnk (F:Fits P N τ){sp:Nat->Bool}{held:Bool}:∀(fuel:Nat) (t:TypeId) (ty:Ty) (e:TypeId) (cs:List Value) (d:DataW H) (ps:List MemPlace),τ t=some ⟨ty,e⟩->DataW.trod enc P w 0 sp held fuel t cs=some (d,ps)->
  ∃x:ty.den N.ρ,Rep w (fun b=>b<w.heap.size) ty x cs/\(∀k,meas k ty x<=bulk d)/\∀k,okV k ty x:=by
 intro fuel
 induction fuel with
 |zero=>intro t ty e cs d ps _ h;simp[DataW.trod]at h
 | succ fuel ih=>
  intro t ty e cs d ps hτ h
  cases ty with
  |int k=>
   obtain⟨n,h1,h2,h3⟩:=DataW.trod_int (F.int t k e hτ).1 h
   cases h2
   exact⟨n,h1,fun _=>nR _,fun _=>h3⟩
  |bool=>
   obtain⟨b,h1,h2⟩:=DataW.trod_bool (F.bool t e hτ).1 h
   cases h2
   exact⟨b,h1,fun _=>nR _,fun _=>trivial⟩
  |str=>
   obtain⟨s,h1,h2,h3⟩:=DataW.trod_string (F.str t e hτ).1 h
   cases h2
   refine⟨q0o s,⟨s,h1,rfl⟩,fun _=>?_,fun _=>qjs s⟩
   simp[meas,qxt,bulk,q0o]
  |opq=>
   obtain⟨⟨d0,u1,u2⟩,_⟩:=F.opq t e hτ
   obtain⟨v,hv,hv1⟩:=z129 u2 u1 h
   exact⟨(),⟨v,hv,hv1⟩,fun _=>qo5 d,fun _=>trivial⟩
  | sl ty'=>
   obtain⟨u1,⟨e',u2⟩,_⟩:=F.sl t ty' e hτ
   rcases DataW.trod_slice u1 h with⟨rfl,hx⟩|⟨a,len,cap,elems,rest,n,hn,rfl,hx,_,hlc,_,hlen,hel,_,_⟩
   ·cases hx
    exact⟨[],⟨none,0,rfl,nR _,fun _=>rfl,fun i x hi=>by simp at hi⟩,fun _=>nR _,fun _ x hx=>by cases hx⟩
   ·cases hn
    have hc:=qbt F u2
    have hpos:=F.pos u2
    have each:∀i,i<len->∃x:ty'.den N.ρ,∃ccs d',w.cells? 0 (a.add (i*N.sz ty')) (N.sz ty')=some ccs/\(elems.map (·.1))[i]?=some d'/\Rep w (fun b=>b<w.heap.size) ty' x ccs/\(∀k,meas k ty' x<=bulk d')/\∀k,okV k ty' x:=by
     intro i hi
     have h1:=hel i hi
     rw[hc]at h1
     obtain⟨y,hy⟩:∃y,elems[i]?=some y:=⟨_,gE (by omega)⟩
     rw[hy]at h1
     obtain⟨ccs,h2,h3⟩:=Option.bind_eq_some_iff.1 h1
     obtain⟨x,x1,x2,x3⟩:=ih e ty' e' ccs y.1 y.2 u2 h3
     exact⟨x,ccs,y.1,h2,by simp[hy],x1,x2,x3⟩
    obtain⟨xs,hxl,hxs⟩:=qef len each
    cases hx
    refine⟨xs,⟨some a,cap,by rw[hxl],by omega,(fun h=>by cases h),fun i x hi=>?_⟩,fun k=>?_,fun k x hx=>?_⟩
    ·obtain⟨ccs,d',q1,q2,q3,_⟩:=hxs i x hi
     obtain⟨_,r1,r2⟩:=World.cells?_some q1
     have hb:a.block<w.heap.size:=by
      have:=r2 0 hpos
      obtain⟨u,hu⟩:∃u,ccs[0]?=some u:=⟨_,gE (by omega)⟩
      rw[hu]at this
      have:=World.block_lt_of_cell? w _ this
      rwa [q1e,q1e]at this
     refine⟨a,ccs,rfl,hb,q3,fun j u hu=>?_⟩
     have hj:j<N.sz ty':=by
      have:=(List.getElem?_eq_some_iff.1 hu).1
      omega
     rw[<-q4m,r2 j hj,hu]
    ·have:=qvx (f:=meas k ty') xs (elems.map (·.1)) (by simp[hxl,hlen]) (fun i x d hi hd=>by
      obtain⟨ccs,d',_,q2,_,q4,_⟩:=hxs i x hi
      rw[q2]at hd
      cases hd
      exact q4 k)
     show qru (meas k ty') xs+1<=_
     simp only[bulk]
     omega
    ·obtain⟨i,hi⟩:=List.mem_iff_getElem?.1 hx
     obtain⟨ccs,d',_,_,_,_,q5⟩:=hxs i x hi
     exact q5 k
  | nm n=>
   obtain⟨fs,u1,u2,_,_,zc,u5,_⟩:=F.nm t n e hτ
   obtain⟨xs,m,hm,hx,hl,hxl,hf⟩:∃(xs:List (DataW H×List MemPlace)) (n:Nat),fuel+1=n+1/\(d,ps)=(DataW.agg (xs.map (·.1)),xs.flatMap (·.2))/\cs.length=P.cellsOf t/\xs.length=fs.size/\
     ∀(i:Nat) (f:Field),fs[i]?=some f->DataW.trod enc P w 0 sp held n f.type ((cs.drop f.offset).take (P.cellsOf f.type))=xs[i]?:=by
    rcases u1 with⟨_,u1⟩|⟨len,el,ie,_,u1,ui,rfl⟩
    ·exact DataW.trod_struct u1 h
    ·obtain⟨xs,m,hm,hx,hl,hxl,hf⟩:=DataW.trod_array u1 h
     refine⟨xs,m,hm,hx,hl,by simp[qrv,hxl],fun i f hif=>?_⟩
     obtain⟨hlt,rfl⟩:=Array.getElem?_eq_some_iff.1 hif
     simp only[qrv,List.getElem_toArray,List.getElem_map,List.getElem_range',Nat.zero_add,Nat.one_mul]
     have hcel:P.cellsOf el=ie.size:=by simp[Program.cellsOf,ui]
     rw[hcel]
     rw[hcel]at hf
     exact hf i (by simpa[qrv]using hlt)
   cases hm
   cases hx
   have hcl:=qbt F hτ
   have fields:∀(tys:List Ty) (off:Nat) (fl:List Field) (ys:List (DataW H×List MemPlace)),q2o N τ tys off fl->ys.length=fl.length->
     (∀(i:Nat) f,fl[i]?=some f->DataW.trod enc P w 0 sp held fuel f.type ((cs.drop f.offset).take (P.cellsOf f.type))=ys[i]?)->
     ∃y:HL N.ρ tys,q98 w (fun b=>b<w.heap.size) (q9l w fun b=>b<w.heap.size) tys y ((cs.drop off).take (szL N.size tys))/\(∀k,quh (qr6 N k) tys y<=bulkAll (ys.map (·.1)))/\∀k,okL (okK N k) tys y:=by
    intro tys
    induction tys with
    |nil=>
     intro off fl ys hfit hyl hy
     exact⟨(),by simp[szL,q98],fun _=>Nat.zero_le _,fun _=>trivial⟩
    | cons ty tys ihf=>
     intro off fl ys hfit hyl hy
     match fl,ys,hfit,hyl with
     | f::fl,y::ys,hfit,hyl=>
      obtain⟨f1,⟨e1,f2⟩,_,_,f5⟩:=hfit
      have h0:=hy 0 f rfl
      rw[qbt F f2,f1]at h0
      obtain⟨x,x1,x2,x3⟩:=ih f.type ty e1 _ y.1 y.2 f2 h0
      obtain⟨z,z1,z2,z3⟩:=ihf (off+N.sz ty) fl ys f5 (by simpa using hyl) (fun i f hf=>by simpa using hy (i+1) f (by simpa using hf))
      refine⟨(x,z),⟨_,_,?_,x1,z1⟩,fun k=>?_,fun k=>⟨x3 k,z3 k⟩⟩
      ·rw[qq7,<-List.drop_drop,List.take_add]
      ·have a1:=x2 k
       have a2:=z2 k
       simp only[meas]at a1
       simp only[quh,List.map_cons,bulkAll]
       omega
   obtain⟨y,y1,y2,y3⟩:=fields (N.body n) 0 fs.toList xs u2 (by simpa using hxl) (fun i f hf'=>hf i f (by simpa using hf'))
   have hcs:(cs.drop 0).take (szL N.size (N.body n))=cs:=by
    rw[List.drop_zero,tL]
    rw[hl,hcl]
    exact Nat.le_of_eq (N.size_eq n)
   rw[hcs]at y1
   refine⟨N.re n y,q3d (by rw[N.un_re];exact y1),fun k=>?_,fun k=>?_⟩
   ·cases k with
    |zero=>exact qo5 _
    |succ k=>
     have:=y2 k
     show quh (qr6 N k) (N.body n) (N.un n (N.re n y))+1<=_
     rw[N.un_re]
     simp only[bulk]
     omega
   ·cases k with
    |zero=>trivial
    |succ k=>
     show okL (okK N k) (N.body n) (N.un n (N.re n y))
     rw[N.un_re]
     exact y3 k
/-! The arguments of a law. -/
open Go.ChangeShapes Go.WideShapes Go.ChangeAt Go.RowKit
def qav (k:Nat):(ps:List PK)->HIn N.ρ ps->Nat
 |[],_=>0
 |.v t::ps,x=>meas k t x.1+qav k ps x.2
 |.io _ _::ps,x=>qav k ps x.2
 |.bw _::ps,x=>qav k ps x.2
 |.bc _::ps,x=>qav k ps x.2
 |.fv _::ps,x=>qav k ps x.2
 |.fb _::ps,x=>qav k ps x.2
 |.ag _ _::ps,x=>qav k ps x.2
 |.go _ _::ps,x=>qav k ps x.2
 |.fn _ _::ps,x=>qav k ps x.2
 |.rp _::ps,x=>qav k ps x.2
def okI (k:Nat):(ps:List PK)->HIn N.ρ ps->Prop
 |[],_=>True
 |.v t::ps,x=>okV k t x.1/\okI k ps x.2
 |.io _ _::ps,x=>okI k ps x.2
 |.bw _::ps,x=>okI k ps x.2
 |.bc _::ps,x=>okI k ps x.2
 |.fv _::ps,x=>okI k ps x.2
 |.fb _::ps,x=>okI k ps x.2
 |.ag _ _::ps,x=>okI k ps x.2
 |.go _ _::ps,x=>okI k ps x.2
 |.fn _ _::ps,x=>okI k ps x.2
 |.rp _::ps,x=>okI k ps x.2
def lawPs (P:Program)(τ:TypeId->Option TI):List TypeId->List PK->Bool
 |[],[]=>true
 |t::ts,.v ty::ps=>(match τ t with|some ti=>decide (ti.ty=ty)|none=>false)&&(match ty with|.opq=>false|_=>true)&&P.readableRec t&&decide (t<P.types.size)&&lawPs P τ ts ps
 |_,_=>false
theorem qws (F:Fits P N τ){t e:TypeId}{ty:Ty}(hτ:τ t=some ⟨ty,e⟩)(hno:ty≠.opq){r:Reach}{b0:Nat}{v:Value}(hv:Value.okWide P w r b0 t v):AsV ty v v.cells.toList:=by
 cases ty with
 |int k=>obtain⟨n,rfl⟩:=okWide_int (F.int t k e hτ).1 hv;rfl
 |bool=>obtain⟨b,rfl⟩:=okWide_bool (F.bool t e hτ).1 hv;rfl
 |str=>obtain⟨s,rfl⟩:=okWide_string (F.str t e hτ).1 hv;rfl
 |sl ty'=>obtain⟨a,len,cap,rfl⟩:=okWide_slice (F.sl t ty' e hτ).1 hv;rfl
 | nm n=>
  obtain⟨fs,u1,_⟩:=F.nm t n e hτ
  rcases u1 with⟨_,u1⟩|⟨len,el,ie,_,u1,_,_⟩
  ·obtain⟨cs,rfl,_⟩:=okWide_struct u1 hv
   rfl
  ·simp only[Value.okWide,u1]at hv
   obtain⟨cs,rfl,_⟩:=hv
   rfl
 |opq=>exact absurd rfl hno
theorem qhf (F:Fits P N τ){b0:Nat}{vs0:List Value}:∀(ts:List TypeId) (ps:List PK) (vs:List Value) (ds:List (DataW H)) (p:List MemPlace),lawPs P τ ts ps=true->(∀(j:Nat) t v,ts[j]?=some t->vs[j]?=some v->Value.okWide P w .any b0 t v)->
  DataW.TrodAll enc P w 0 (fun _=>true) true ts vs ds p->∃x:HIn N.ρ ps,qm5 w (fun b=>b<w.heap.size) vs0 ps x vs []/\(∀k,qav k ps x<=bulkAll ds)/\(∀k,okI k ps x)/\∀y∈p,y.block<w.heap.size
 |[],[],vs,ds,p,hl,hv,hA=>by
  obtain⟨rfl,rfl,rfl⟩:=trodAll_nil hA
  exact⟨(),⟨rfl,rfl⟩,fun _=>nR _,fun _=>trivial,fun y hy=>by cases hy⟩
 |[],_::_,vs,ds,p,hl,hv,hA=>by cases hl
 |_::_,[],vs,ds,p,hl,hv,hA=>by cases hl
 |_::_,.io _ _::_,vs,ds,p,hl,hv,hA=>by cases hl
 |_::_,.bw _::_,vs,ds,p,hl,hv,hA=>by cases hl
 |_::_,.bc _::_,vs,ds,p,hl,hv,hA=>by cases hl
 |_::_,.fv _::_,vs,ds,p,hl,hv,hA=>by cases hl
 |_::_,.fb _::_,vs,ds,p,hl,hv,hA=>by cases hl
 |_::_,.ag _ _::_,vs,ds,p,hl,hv,hA=>by cases hl
 |_::_,.go _ _::_,vs,ds,p,hl,hv,hA=>by cases hl
 |_::_,.fn _ _::_,vs,ds,p,hl,hv,hA=>by cases hl
 |_::_,.rp _::_,vs,ds,p,hl,hv,hA=>by cases hl
 | t::ts,.v ty::ps,vs,ds,p,hl,hv,hA=>by
  obtain⟨v,vs',d,ds',p1,q,rfl,rfl,rfl,h0,r0⟩:=trodAll_cons hA
  simp only[lawPs,Bool.and_eq_true,decide_eq_true_eq]at hl
  obtain⟨⟨⟨⟨h1,h2⟩,_⟩,_⟩,h5⟩:=hl
  split at h1
  ·rename_i ti hti
   have h1:ti.ty=ty:=by simpa using h1
   subst h1
   have hno:ti.ty≠.opq:=fun e=>by rw[e]at h2;cases h2
   obtain⟨x,x1,x2,x3,x4⟩:=qhf F ts ps vs' ds' q h5 (fun j t v ht hv'=>hv (j+1) t v (by simpa using ht) (by simpa using hv')) r0
   have hlt:∀y∈p1,y.block<w.heap.size:=by obtain⟨m,hm⟩:=h0;exact DataW.trod_lt m _ _ _ hm
   obtain⟨m,hm⟩:=h0
   obtain⟨y,y1,y2,y3⟩:=qnk F m t ti.ty ti.el _ d p1 (by rw[hti]) hm
   refine⟨(y,x),⟨v,vs',[],[],rfl,rfl,⟨⟨_,y1,qws F (e:=ti.el) (by rw[hti]) hno (hv 0 t v rfl rfl)⟩,rfl⟩,x1⟩,fun k=>?_,fun k=>⟨y3 k,x3 k⟩,fun z hz=>?_⟩
   ·have a1:=y2 k
    have a2:=x2 k
    simp only[qav,bulkAll]
    omega
   ·rcases mA.1 hz with hz|hz
    ·exact hlt z hz
    ·exact x4 z hz
  ·cases h1
theorem qd7 (hl:laidOutB P=true){W':World}(hb:Below w.heap.size w W'):∀(ts:List TypeId) (ps:List PK) (vs:List Value) (ds:List (DataW H)) (p:List MemPlace),lawPs P τ ts ps=true->(∀y∈p,y.block<w.heap.size)->
  DataW.TrodAll enc P w 0 (fun _=>true) true ts vs ds p->DataW.TrodAll enc P W' 0 (fun b=>decide (b<w.heap.size)) true ts vs ds p
 |[],[],vs,ds,p,h,hlt,hA=>by
  obtain⟨rfl,rfl,rfl⟩:=trodAll_nil hA
  exact trodAll_mk0
 |[],_::_,vs,ds,p,h,hlt,hA=>by cases h
 |_::_,[],vs,ds,p,h,hlt,hA=>by cases h
 |_::_,.io _ _::_,vs,ds,p,h,hlt,hA=>by cases h
 |_::_,.bw _::_,vs,ds,p,h,hlt,hA=>by cases h
 |_::_,.bc _::_,vs,ds,p,h,hlt,hA=>by cases h
 |_::_,.fv _::_,vs,ds,p,h,hlt,hA=>by cases h
 |_::_,.fb _::_,vs,ds,p,h,hlt,hA=>by cases h
 |_::_,.ag _ _::_,vs,ds,p,h,hlt,hA=>by cases h
 |_::_,.go _ _::_,vs,ds,p,h,hlt,hA=>by cases h
 |_::_,.fn _ _::_,vs,ds,p,h,hlt,hA=>by cases h
 |_::_,.rp _::_,vs,ds,p,h,hlt,hA=>by cases h
 |t::ts,.v ty::ps,vs,ds,p,h,hlt,hA=>by
  obtain⟨v,vs',d,ds',p1,q,rfl,rfl,rfl,h0,r0⟩:=trodAll_cons hA
  simp only[lawPs,Bool.and_eq_true,decide_eq_true_eq]at h
  obtain⟨⟨⟨⟨_,_⟩,h3⟩,h4⟩,h5⟩:=h
  exact trodAll_cons_mk (Below.trod hl h3 h4 h0 hb (fun y hy=>hlt y (mA.2 (.inl hy)))) (qd7 hl hb ts ps vs' ds' q h5 (fun y hy=>hlt y (mA.2 (.inr hy))) r0)
theorem qkp {ok:Nat->Prop}{vs0:List Value}:∀(ps:List PK) (x:HIn N.ρ ps) (vs:List Value) (bl:List Nat),qm5 w ok vs0 ps x vs bl->vs.length=ps.length
 |[],_,vs,bl,h=>by rw[h.1];rfl
 |p::ps,x,vs,bl,⟨v,rest,b1,b2,e,_,_,h⟩=>by rw[e,lC,qkp ps x.2 rest b2 h];rfl
theorem arr_get {α:Type}(a:Array α)(j:Nat)(t:α)(h:a.toList[j]?=some t):a[j]?=some t:=by
 rw[<-Array.getElem?_toList]
 exact h
theorem law_run (F:Fits P N τ)(hlaid:laidOutB P=true){f:FuncId}{ts:List TypeId}{ps:List PK}{Fn:Eng.Fn N}{kf:Nat}
  (G:Good P f (Fn.spec ps [.v .bool] kf)) (hps:lawPs P τ ts ps=true) {B:Nat} (hlaw:∀x:HIn N.ρ ps,(∀k,qav k ps x<=B)->(∀k,okI k ps x)->∃o,Fn.run ps [.v .bool] kf x=some ((true,()),o))
  {b0:Nat} {args:Array Value} {ds:List (DataW H)} {p:List MemPlace} (hv:∀(j:Nat) t v,ts[j]?=some t->args[j]?=some v->Value.okWide P w .any b0 t v)
  (hA:DataW.TrodAll enc P w 0 (fun _=>true) true ts args.toList ds p) (hB:bulkAll ds<=B) (hgh:Fn.X.gh=0:=by rfl):
  Calls P f args w fun e W'=>e=.returned (.bool true)/\Below w.heap.size w W'/\DataW.TrodAll enc P W' 0 (fun b=>decide (b<w.heap.size)) true ts args.toList ds p:=by
 obtain⟨x,x1,x2,x3,x4⟩:=qhf (vs0:=args.toList) F ts ps args.toList ds p hps (fun j t v ht hv'=>hv j t v ht (by simpa using hv')) hA
 obtain⟨o,hx⟩:=hlaw x (fun k=>Nat.le_trans (x2 k) hB) x3
 have:=G.calls w (fun b=>b<w.heap.size) x args.toList [] ((true,()),o) (fun _ h=>h) x1 List.nodup_nil (fun g hg=>by cases hg) hx
 rw[show(Fn.spec ps [RK.v .bool] kf).ps.length-(Fn.spec ps [RK.v .bool] kf).gh=args.toList.length from by rw[show(Fn.spec ps [RK.v .bool] kf).gh=0 from hgh,qkp ps x _ _ x1];rfl,List.take_length,Array.toArray_toList]at this
 refine this.mono ?_
 rintro e W' ⟨us,bl',rl,rfl,hC⟩
 have hb:Below w.heap.size w W':=⟨hC.kept.os,hC.kept.tape,hC.kept.output,hC.kept.size,fun k hk=>hC.kept.block k hk (fun h=>by cases h)⟩
 refine⟨?_,hb,qd7 hlaid hb ts ps _ ds p hps x4 hA⟩
 have hr:=hC.res
 obtain⟨v,rest,b1,b2,rfl,rfl,⟨⟨cs,k1,k2⟩,rfl⟩,⟨rfl,rfl⟩⟩:=hr
 have k1:cs=[.bool true]:=k1
 have k2:cs=[v]:=k2
 rw[k1]at k2
 cases k2
 rfl
end Go.Eng

set_option linter.unusedVariables false
set_option linter.unusedSimpArgs false
namespace Go.Eng
theorem q00 {z:Int}(h1:-9223372036854775808<=z)(h2:z<9223372036854775808):IntKind.i64.wrap z=z:=by
 simp only[IntKind.wrap]
 first
  |omega
  |(simp[IntKind.bits,IntKind.signed];omega)
  |(rw[Int.bmod_eq_of_le]<;>omega)
end Go.Eng

set_option linter.unusedVariables false
set_option linter.unusedSimpArgs false
namespace Go.Eng
variable {N:Names} {P:Program}
def qyt (a b:List Int):Int:=bif q0s a b then-1 else bif q0s b a then 1 else 0
theorem qso (x y:Int)(a b:List Int):qyt (x::a) (y::b)=if x<y then-1 else if y<x then 1 else qyt a b:=by
 unfold qyt
 simp only[q0s]
 by_cases h1:x<y
 ·simp[h1]
 ·by_cases h2:y<x
  ·simp[h1,h2,show¬x=y by omega]
  ·have:x=y:=by omega
   subst this
   simp
theorem qo7:∀l m:List UInt8,Lib.compareBytes l m=qyt (l.map fun b=>(b.toNat:Int)) (m.map fun b=>(b.toNat:Int))
 |[],[]=>rfl
 |[],_::_=>rfl
 |_::_,[]=>rfl
 | a::l,b::m=>by
  rw[Lib.compareBytes,List.map_cons,List.map_cons,qso,qo7 l m]
  have e1:(a<b)<->((a.toNat:Int)<(b.toNat:Int)):=by rw[UInt8.lt_iff_toNat_lt];omega
  have e2:(b<a)<->((b.toNat:Int)<(a.toNat:Int)):=by rw[UInt8.lt_iff_toNat_lt];omega
  by_cases h1:a<b
  ·rw[if_pos h1,if_pos (e1.1 h1)]
  ·rw[if_neg h1,if_neg (fun h=>h1 (e1.2 h))]
   by_cases h2:b<a
   ·rw[if_pos h2,if_pos (e2.1 h2)]
   ·rw[if_neg h2,if_neg (fun h=>h2 (e2.2 h))]
theorem qxl {id : FuncId}{fn : Func}{c : Code}(hf : P.funcs[id]? = some fn)(hb : fn.body = some c)(hn : (fn.name == "runtime.NumGoroutine") = false)
  (hcalls:∀(a b:ByteArray) (w:World),Calls P id #[.string a,.string b] w fun e w'=>e=.returned (.int .i64 (Lib.compareBytes a.data.toList b.data.toList))/\w'=w):
  Good P id (q66 (N:=N) [.v .str,.v .str] [.v (.int .i64)] 0 fun x=>some ((qyt x.1 x.2.1,()),()))where
 enter w args:=q4e hf hb hn w args
 calls w ok x vs bl r hok hin hbl hblk hr:=by
  obtain⟨v1,rest,b1,b2,rfl,rfl,⟨⟨cs1,h1,k1⟩,rfl⟩,v2,rest2,b3,b4,rfl,rfl,⟨⟨cs2,h2,k2⟩,rfl⟩,rfl,rfl⟩:=hin
  obtain⟨s1,e1,f1⟩:=h1
  obtain⟨s2,e2,f2⟩:=h2
  have k1':cs1=[v1]:=k1
  have k2':cs2=[v2]:=k2
  rw[e1]at k1'
  rw[e2]at k2'
  have g1:v1=.string s1:=(List.cons.inj k1').1.symm
  have g2:v2=.string s2:=(List.cons.inj k2').1.symm
  have hr':some ((qyt x.1 x.2.1,()),())=some r:=hr
  cases hr'
  subst g1 g2
  refine(hcalls s1 s2 w).mono ?_
  rintro e w' ⟨rfl,rfl⟩
  refine⟨[.int .i64 (qyt x.1 x.2.1)],[],[],?_,⟨⟨rfl,rfl,rfl,nR _,fun _ _ _=>rfl⟩,rfl,⟨_,[],[],[],rfl,rfl,⟨⟨_,rfl,rfl⟩,rfl⟩,rfl,rfl⟩,List.nodup_nil,fun g hg=>by cases hg⟩⟩
  rw[qo7,<-f1,<-f2]
  rfl
end Go.Eng

set_option linter.unusedVariables false
set_option linter.unusedSimpArgs false
namespace Go.Eng
open Go.Sort Go.Proofs
variable {N:Names} {P:Program}
def insS (x:List Int):List (List Int)->List (List Int)
 |[]=>[x]
 |y::r=>bif q0s y x then y::insS x r else x::y::r
def q9y:List (List Int)->List (List Int)
 |[]=>[]
 |x::r=>insS x (q9y r)
theorem q4t:∀a:List Int,q0s a a=false
 |[]=>rfl
 |a::x=>by simp[q0s,q4t x]
theorem q5t:∀{a b c:List Int},q0s a b=true->q0s b c=true->q0s a c=true
 |_,[],_,h,_=>by simp[q0s]at h
 |_,_::_,[],_,h=>by simp[q0s]at h
 |[],b::y,c::z,_,_=>rfl
 |a::x,b::y,c::z,h1,h2=>by
  simp only[q0s,Bool.or_eq_true,Bool.and_eq_true,decide_eq_true_eq]at h1 h2 ⊢
  rcases h1 with h1|⟨h1,k1⟩<;>rcases h2 with h2|⟨h2,k2⟩
  ·exact .inl (by omega)
  ·exact .inl (by omega)
  ·exact .inl (by omega)
  ·exact .inr ⟨by omega,q5t k1 k2⟩
theorem q95 {a b:List Int}(h1:q0s a b=false)(h2:q0s b a=false):a=b:=by
 have:=q7k a b
 rw[h1,h2]at this
 simpa using this
theorem qg6 {a b:List Int}(h:q0s a b=true):q0s b a=false:=by
 cases h2:q0s b a with
 |false=>rfl
 |true=>have:=q5t h h2;rw[q4t]at this;cases this
theorem qnu {a b c:List Int}(h1:q0s b a=false)(h2:q0s c b=false):q0s c a=false:=by
 cases h:q0s c a with
 |false=>rfl
 |true=>
  cases hab:q0s a b with
  |true=>rw[q5t h hab]at h2;cases h2
  |false=>rw[q95 hab h1,h2]at h;cases h
theorem qfb (x:List Int):∀l,(insS x l).Perm (x::l)
 |[]=>List.Perm.refl _
 |y::r=>by
  unfold insS
  cases q0s y x with
  |true=>exact((qfb x r).cons y).trans (List.Perm.swap _ _ _)
  |false=>exact List.Perm.refl _
theorem q58:∀l,(q9y l).Perm l
 |[]=>List.Perm.refl _
 |x::r=>(qfb x _).trans ((q58 r).cons x)
theorem qfc (x:List Int):∀{l},l.Pairwise (fun a b=>q0s b a=false)->(insS x l).Pairwise (fun a b=>q0s b a=false)
 |[],_=>List.pairwise_singleton _ _
 | y::r,h=>by
  obtain⟨h1,h2⟩:=List.pairwise_cons.1 h
  unfold insS
  cases hyx:q0s y x with
  |true=>
   refine List.pairwise_cons.2 ⟨fun z hz=>?_,qfc x h2⟩
   rcases List.mem_cons.1 ((qfb x r).mem_iff.1 hz)with rfl|hz
   ·exact qg6 hyx
   ·exact h1 z hz
  |false=>
   refine List.pairwise_cons.2 ⟨fun z hz=>?_,h⟩
   rcases List.mem_cons.1 hz with rfl|hz
   ·exact hyx
   ·exact qnu hyx (h1 z hz)
theorem q8i:∀l,(q9y l).Pairwise (fun a b=>q0s b a=false)
 |[]=>List.Pairwise.nil
 |x::r=>qfc x (q8i r)
theorem qks {l m:List (List Int)}(hm:m.Pairwise (fun a b=>q0s b a=false))(hp:m.Perm l):m=q9y l:=
 List.Perm.eq_of_pairwise (fun a b _ _ h1 h2=>q95 h2 h1) hm (q8i l) (hp.trans (q58 l).symm)
def toI (l:List UInt8):List Int:=l.map fun b=>(b.toNat:Int)
theorem z10a:∀(l m:List UInt8),decide (l<m)=q0s (toI l) (toI m)
 |[],[]=>by simp[toI,q0s]
 |[],_::_=>by simp[toI,q0s]
 |_::_,[]=>by simp[toI,q0s]
 | a::x,b::y=>by
  have ih:=z10a x y
  have e0:decide (a::x<b::y)=(decide (a<b)||(decide (a=b)&&decide (x<y))):=by
   rw[<-Bool.decide_and,<-Bool.decide_or]
   exact decide_eq_decide.2 List.cons_lt_cons_iff
  rw[e0]
  simp only[toI,List.map_cons,q0s]
  rw[show q0s (List.map (fun b:UInt8=>(b.toNat:Int)) x) (List.map (fun b:UInt8=>(b.toNat:Int)) y)=decide (x<y)from ih.symm]
  have e1:(a<b)<->((a.toNat:Int)<(b.toNat:Int)):=by rw[UInt8.lt_iff_toNat_lt];omega
  have e2:(a=b)<->((a.toNat:Int)=(b.toNat:Int)):=by
   rw[<-UInt8.toNat_inj];omega
  by_cases h1:a<b<;>by_cases h2:a=b<;>by_cases h3:x<y<;>simp[h1,h2,h3,<-e1,<-e2]
theorem qyc (ss:List (List UInt8)):(ss.mergeSort fun x y=>decide (x<=y)).map toI=q9y (ss.map toI):=by
 refine qks ?_ ((List.mergeSort_perm ss _).map toI)
 rw[List.pairwise_map]
 have h:=List.pairwise_mergeSort (le:=fun x y:List UInt8=>decide (x<=y)) (fun a b c h1 h2=>by
   simp only[decide_eq_true_eq]at h1 h2 ⊢
   exact List.le_trans h1 h2) (fun a b=>by
   simp only[Bool.or_eq_true,decide_eq_true_eq]
   exact List.le_total a b) ss
 refine h.imp fun{a b} hab=>?_
 rw[<-z10a]
 simp only[decide_eq_true_eq]at hab
 simpa using hab
def qq3 (N:Names)(el:TypeId):Spec N:=⟨[.io el .str],[],List (List Int),fun x=>bif Nat.blt x.1.length 4611686018427387904 then some (q9y x.1)else none,fun r=>((),(r,())),0⟩
theorem qpk {w:World}{ok:Nat->Prop}:∀{xs:List (List Int)} {cells:List Value},q6v (Rep (N:=N) w ok .str) xs cells->∃ss:List (List UInt8),cells=ss.map encStr/\xs=ss.map toI
 |[],_,h=>⟨[],by simpa[q6v]using h,rfl⟩
 | x::xs,cells,⟨c1,c2,e,h1,h2⟩=>by
  obtain⟨s,rfl,hs⟩:=h1
  obtain⟨ss,e1,e2⟩:=qpk h2
  refine⟨s.data.toList::ss,?_,?_⟩
  ·rw[e,e1]
   simp[encStr]
  ·rw[e2]
   simp only[List.map_cons,List.cons.injEq,and_true]
   rw[<-hs]
   simp[q0o,toI]
theorem qq4 {w:World}{ok:Nat->Prop}:∀(ss:List (List UInt8)),q6v (Rep (N:=N) w ok .str) (ss.map toI) (ss.map encStr)
 |[]=>rfl
 |s::ss=>⟨_,_,rfl,⟨⟨s.toArray⟩,rfl,by simp[q0o,toI]⟩,qq4 ss⟩
theorem qu3 {f:FuncId}{el:TypeId}(hcalls:∀(blk off cap:Nat) (ss:List (List UInt8)) (w:World),Holds encStr w blk off ss.toArray->blk<w.heap.size->ss.length<4611686018427387904->
   Calls P f #[.slice (some ⟨blk,off,none⟩) ss.length cap] w fun e w'=>e=.returned (.tuple #[])/\∃n os,w'=grow (putRow encStr (Sort.ahead w n) blk off (ss.mergeSort fun x y=>decide (x<=y)).toArray) os)
  {F:Fn N} {k:Nat} (hF:Good P f (F.spec [.io el .str] [] k)) (hnil:F.run [.io el .str] [] k ([],())=some ((),([],()))) (hgh:F.X.gh=0:=by rfl):Good P f (qq3 N el)where
 enter:=hF.enter
 calls w ok x vs bl r hok hin hbl hblk hr:=by
  obtain⟨v,rest,b1,b2,rfl,rfl,⟨hown,hb1⟩,⟨rfl,rfl⟩⟩:=hin
  have hr:(bif Nat.blt x.1.length 4611686018427387904 then some (q9y x.1)else none)=some r:=hr
  have hsz0:x.1.length<4611686018427387904:=by
   cases hb:Nat.blt x.1.length 4611686018427387904 with
   |false=>rw[hb]at hr;cases hr
   |true=>exact Nat.le_of_ble_eq_true hb
  rw[show Nat.blt x.1.length 4611686018427387904=true from Nat.ble_eq_true_of_le hsz0]at hr
  have hr:some (q9y x.1)=some r:=hr
  cases hr
  have hin:qm5 w ok [v] [.io el .str] x [v] (b1++[]):=⟨v,[],b1,[],rfl,rfl,⟨hown,hb1⟩,⟨rfl,rfl⟩⟩
  obtain⟨cells,ho,hc⟩:=hown
  rcases ho.2.2 with⟨rfl,hn⟩|⟨g,cap,cur,rfl,_,hg,hnc,hcm,hcs,ht⟩
  ·have hx:x=(([],()):HIn N.ρ [.io el .str]):=by
    obtain⟨x1,x2⟩:=x
    have:x1=[]:=List.eq_nil_of_length_eq_zero hn
    subst this
    rfl
   subst hx
   have hfx:(F.spec [.io el .str] [] k).f (([],()):HIn N.ρ [.io el .str])=some ((),([],())):=hnil
   have hk:=hF.calls w ok _ _ _ _ hok hin hbl hblk hfx
   rw[show(F.spec [.io el .str] [] k).gh=0 from hgh]at hk
   refine hk.mono ?_
   rintro e w' ⟨us,bl',rl,he,hC⟩
   exact⟨us,bl',rl,he,⟨hC.kept,hC.out,hC.res,hC.nodup,hC.old⟩⟩
  ·obtain⟨ss,e1,e2⟩:=qpk hc
   have hlen:x.1.length=ss.length:=by rw[e2,List.length_map]
   have ht':cur.toList.take ss.length=ss.map encStr:=by
    have:N.sz (.str)=1:=rfl
    rw[this,Nat.mul_one,e1,hlen]at ht
    exact ht
   have hsz:ss.length<4611686018427387904:=by omega
   have hgl:g<w.heap.size:=(Array.getElem?_eq_some_iff.1 hg).1
   have hgb:g∈b1++[]:=by rw[hb1];simp[q0t,q0j]
   have:=hcalls g 0 cap ss w (holds_of_block hg ht') hgl hsz
   rw[show x.1.length=ss.length from hlen]
   refine this.mono ?_
   rintro e w' ⟨rfl,n,os,rfl⟩
   have hl:(ss.mergeSort fun x y=>decide (x<=y)).length=ss.length:=by simp
   have hgr:w.grownBy _ (some g):=grownBy_sorted (w:=w) (n:=n) (os:=os) (g:=g) (ss.mergeSort fun x y=>decide (x<=y)).toArray
   have hrow:=ownsRow_sorted (base:=0) (os:=os) (n:=n) hl (Nat.zero_le _) hg (by omega) hcm (by have h1:N.sz Ty.str=1:=rfl;rw[hcs,h1])
   have hlx:(q9y x.1).length=ss.length:=by rw[(q58 x.1).length_eq,hlen]
   refine⟨[],q0t (.slice (some ⟨g,0,none⟩) ss.length cap),[],rfl,⟨⟨hgr.os,hgr.tape,hgr.output,hgr.size,fun k hk hkb=>hgr.block k hk (fun e=>hkb (by cases e;exact hgb))⟩,?_,⟨rfl,rfl⟩,?_,?_⟩⟩
   ·have hel:el<qgb:=by
     rcases ho.1 with h0|h0
     ·cases h0
     ·exact h0
    refine⟨_,[],q0t (.slice (some ⟨g,0,none⟩) ss.length cap),[],rfl,(by simp),⟨⟨(ss.mergeSort fun x y=>decide (x<=y)).map encStr,?_,?_⟩,rfl⟩,rfl⟩
    ·refine⟨.inr hel,?_⟩
     show World.ownsRow _ 0 el 1 (.slice (some ⟨g,0,none⟩) ss.length cap) (q9y x.1).length _
     rw[hlx]
     exact hrow
    ·show q6v _ (q9y x.1) _
     rw[e2,<-qyc]
     exact qq4 _
   ·simp[q0t,q0j]
   ·intro g' hg'
    have:g'=g:=by simpa[q0t,q0j]using hg'
    subst this
    exact⟨.inl hgb,Nat.lt_of_lt_of_le hgl hgr.size⟩
end Go.Eng

set_option linter.unusedVariables false
namespace Go.Eng
def unA (ρ:Nat->Type)(T:Ty):(k:Nat)->(Nat->T.den ρ)->HL ρ (List.replicate k T)
 |0,_=>()
 |k+1,f=>(f 0,unA ρ T k fun i=>f (i+1))
def reA (ρ:Nat->Type)(T:Ty):(k:Nat)->HL ρ (List.replicate k T)->List (T.den ρ)
 |0,_=>[]
 |k+1,x=>x.1::reA ρ T k x.2
theorem qw3 {ρ:Nat->Type}{T:Ty}{d:T.den ρ}:∀(k:Nat) (x:HL ρ (List.replicate k T)),unA ρ T k (fun i=>(reA ρ T k x).getD i d)=x
 |0,_=>rfl
 |k+1,x=>by
  have ih:=qw3 (d:=d) k x.2
  show(x.1,unA ρ T k fun i=>(reA ρ T k x.2).getD i d)=x
  rw[ih]
  rfl
theorem qfa {ρ:Nat->Type}{T:Ty}:∀(k:Nat) (f:Nat->T.den ρ) (m:Nat),m<k->q8h ρ (List.replicate k T) (unA ρ T k f) m=some ⟨T,f m⟩
 |0,_,_,h=>absurd h (Nat.not_lt_zero _)
 |k+1,f,0,_=>rfl
 |k+1,f,m+1,h=>qfa k (fun i=>f (i+1)) m (Nat.lt_of_succ_lt_succ h)
def qs5 {α:Type}(d:α)(k:Nat)(x:List α):List α:=(List.range k).map fun i=>x.getD i d
def lstA (ρ:Nat->Type)(T0:Ty)(k:Nat)(d:T0.den ρ)(T:Ty)(x:List (T0.den ρ)):Option (List (T.den ρ)):=if h:T0=T then some (h▸qs5 d k x)else none
def ofA (ρ:Nat->Type)(T0:Ty)(T:Ty)(x:List (T.den ρ)):Option (List (T0.den ρ)):=if h:T=T0 then some (h▸x)else none
theorem z123 {ρ:Nat->Type}{T0:Ty}{k:Nat}{d:T0.den ρ}{T:Ty}{x:List (T0.den ρ)}{l:List (T.den ρ)}(h:lstA ρ T0 k d T x=some l):
  l.length=(List.replicate k T0).length/\∀(m:Nat) z,l[m]?=some z->q8h ρ (List.replicate k T0) (unA ρ T0 k fun i=>x.getD i d) m=some ⟨T,z⟩:=by
 unfold lstA at h
 split at h
 ·rename_i e
  subst e
  cases h
  refine⟨by simp[qs5],fun m z hz=>?_⟩
  have hm:m<k:=by
   have:=(List.getElem?_eq_some_iff.1 hz).1
   simpa[qs5]using this
  rw[qfa k _ m hm]
  simp only[qs5,List.getElem?_map,List.getElem?_range hm,Option.map_some,Option.some.injEq]at hz
  rw[hz]
 ·cases h
theorem z15t {ρ:Nat->Type}{T0:Ty}{k:Nat}{d:T0.den ρ}{T:Ty}{l:List (T.den ρ)}{y:List (T0.den ρ)}(hl:l.length=(List.replicate k T0).length)(h:ofA ρ T0 T l=some y):
  ∀(m:Nat) z,l[m]?=some z->q8h ρ (List.replicate k T0) (unA ρ T0 k fun i=>y.getD i d) m=some ⟨T,z⟩:=by
 unfold ofA at h
 split at h
 ·rename_i e
  subst e
  cases h
  intro m z hz
  have hm:m<k:=by
   have:=(List.getElem?_eq_some_iff.1 hz).1
   rw[hl,List.length_replicate]at this
   exact this
  rw[qfa k _ m hm]
  congr 2
  show List.getD l m d=z
  rw[gQ,hz]
  rfl
 ·cases h
end Go.Eng

set_option linter.unusedVariables false
set_option linter.unusedSimpArgs false
namespace Go.Eng
theorem qck (n:Nat):IntKind.u8.wrap (n:Int)=((n%256:Nat):Int):=by
 simp[IntKind.wrap,IntKind.bits,IntKind.signed]
theorem qbf (n:Nat):IntKind.u64.wrap (n:Int)=((n%18446744073709551616:Nat):Int):=by
 simp[IntKind.wrap,IntKind.bits,IntKind.signed]
theorem q01 {z:Int}(h1:0<=z)(h2:z<18446744073709551616):IntKind.u64.wrap z=z:=by
 obtain⟨n,rfl⟩:=Int.eq_ofNat_of_zero_le h1
 rw[qbf,Nat.mod_eq_of_lt (by omega)]
theorem q23 {z:Int}(h1:0<=z)(h2:z<256):IntKind.u8.wrap z=z:=by
 obtain⟨n,rfl⟩:=Int.eq_ofNat_of_zero_le h1
 rw[qck,Nat.mod_eq_of_lt (by omega)]
theorem q5k (w n:Nat):BitVec.ofInt w (n:Int)=BitVec.ofNat w n:=BitVec.ofInt_natCast w n
theorem z12a {a b:Nat}(ha:a<256)(hb:b<256):Go.bits .or .u8 (a:Int) (b:Int)=((a|||b:Nat):Int):=by
 unfold Go.bits
 simp only[q5k,BitVec.toNat_or,BitVec.toNat_ofNat,show IntKind.u8.bits=8 from rfl]
 rw[Nat.mod_eq_of_lt (show a<2^8 from ha),Nat.mod_eq_of_lt (show b<2^8 from hb),qck,Nat.mod_eq_of_lt]
 exact Nat.or_lt_two_pow (n:=8) ha hb
theorem qh2 {a b:Nat}(ha:a<18446744073709551616)(hb:b<18446744073709551616):Go.bits .or .u64 (a:Int) (b:Int)=((a|||b:Nat):Int):=by
 unfold Go.bits
 simp only[q5k,BitVec.toNat_or,BitVec.toNat_ofNat,show IntKind.u64.bits=64 from rfl]
 rw[Nat.mod_eq_of_lt (show a<2^64 from ha),Nat.mod_eq_of_lt (show b<2^64 from hb),qbf,Nat.mod_eq_of_lt]
 exact Nat.or_lt_two_pow (n:=64) ha hb
theorem qsd {a b:Nat}(ha:a<256)(hb:b<256):Go.bits .and .u8 (a:Int) (b:Int)=((a&&&b:Nat):Int):=by
 unfold Go.bits
 simp only[q5k,BitVec.toNat_and,BitVec.toNat_ofNat,show IntKind.u8.bits=8 from rfl]
 rw[Nat.mod_eq_of_lt (show a<2^8 from ha),Nat.mod_eq_of_lt (show b<2^8 from hb),qck,Nat.mod_eq_of_lt]
 exact Nat.lt_of_le_of_lt Nat.and_le_left ha
theorem z10q {a b:Nat}(ha:a<18446744073709551616)(hb:b<18446744073709551616):Go.bits .and .u64 (a:Int) (b:Int)=((a&&&b:Nat):Int):=by
 unfold Go.bits
 simp only[q5k,BitVec.toNat_and,BitVec.toNat_ofNat,show IntKind.u64.bits=64 from rfl]
 rw[Nat.mod_eq_of_lt (show a<2^64 from ha),Nat.mod_eq_of_lt (show b<2^64 from hb),qbf,Nat.mod_eq_of_lt]
 exact Nat.lt_of_le_of_lt Nat.and_le_left ha
theorem q4n {a k:Nat}(ha:a<18446744073709551616)(hk:k<=64):Go.bits .and .u64 (a:Int) ((2^k-1:Nat):Int)=((a%2^k:Nat):Int):=by
 have h:2^k<=2^64:=Nat.pow_le_pow_right (by decide) hk
 rw[z10q ha (Nat.lt_of_lt_of_le (Nat.sub_lt (Nat.two_pow_pos k) (by decide)) h),Nat.and_two_pow_sub_one_eq_mod]
theorem qay {a y r:Nat}(ha:a<2^r):a|||(y*2^r)=a+y*2^r:=by
 rw[Nat.or_comm,Nat.mul_comm,<-Nat.two_pow_add_eq_or_of_lt ha,Nat.add_comm]
def dig (M len:Nat):List Int:=(List.range len).map fun p=>((M/256^p%256:Nat):Int)
theorem q57 (M len:Nat):(dig M len).length=len:=by simp[dig]
theorem qx5 {M len p:Nat}(h:p<len):(dig M len).getD p 0=((M/256^p%256:Nat):Int):=by
 rw[gQ,dig,List.getElem?_map,List.getElem?_range h]
 rfl
theorem qoh (len:Nat):dig 0 len=List.replicate len 0:=by
 apply List.ext_getElem?
 intro p
 rw[dig,List.getElem?_map,List.getElem?_replicate]
 by_cases h:p<len
 ·rw[List.getElem?_range h,if_pos h]
  simp
 ·rw[List.getElem?_eq_none (by simpa using h),if_neg h]
  rfl
theorem qb2 (j r:Nat):2^(8*j+r)=256^j*2^r:=by
 rw[Nat.pow_add,Nat.pow_mul]
theorem z10w {M len j r y:Nat}(hr:r<8)(hM:M<2^(8*j+r))(hy:y<2^(8-r)){z:Int}(hz:z=((M/256^j+y*2^r:Nat):Int)):
  (dig M len).set j z=dig (M+y*2^(8*j+r)) len:=by
 have hp:=qb2 j r
 have h256:0<256^j:=Nat.pow_pos (by decide)
 have e8:2^(8-r)*2^r=256:=by rw[<-Nat.pow_add,show 8-r+r=8 by omega]
 have hb:M/256^j<2^r:=Nat.div_lt_of_lt_mul (by rw[<-hp];exact hM)
 have hyr:(y+1)*2^r<=256:=by rw[<-e8];exact Nat.mul_le_mul_right _ hy
 rw[Nat.add_mul,Nat.one_mul]at hyr
 apply List.ext_getElem?
 intro p
 rw[List.getElem?_set]
 by_cases hpl:p<len
 ·have e1:(dig M len)[p]?=some ((M/256^p%256:Nat):Int):=by rw[dig,List.getElem?_map,List.getElem?_range hpl];rfl
  have e2:(dig (M+y*2^(8*j+r)) len)[p]?=some (((M+y*2^(8*j+r))/256^p%256:Nat):Int):=by rw[dig,List.getElem?_map,List.getElem?_range hpl];rfl
  rw[e1,e2]
  rcases Nat.lt_trichotomy p j with h|h|h
  ·rw[if_neg (by omega),hp]
   have e3:y*(256^j*2^r)=256^p*(256*(256^(j-p-1)*(y*2^r))):=by
    rw[show 256^j=256^p*(256*256^(j-p-1)) by rw[<-Nat.pow_succ',<-Nat.pow_add];congr 1;omega]
    simp only[Nat.mul_assoc,Nat.mul_left_comm,Nat.mul_comm]
   rw[e3,Nat.add_mul_div_left _ _ (Nat.pow_pos (by decide)),Nat.add_mul_mod_self_left]
  ·subst h
   rw[if_pos rfl,if_pos (by rw[q57];exact hpl),hp,hz,show y*(256^p*2^r)=256^p*(y*2^r) by simp only[Nat.mul_left_comm],Nat.add_mul_div_left _ _ h256,Nat.mod_eq_of_lt (by omega)]
  ·rw[if_neg (by omega)]
   have hle:256^(j+1)<=256^p:=Nat.pow_le_pow_right (by decide) h
   have e4:M+y*2^(8*j+r)<256^(j+1):=by
    rw[hp,Nat.pow_succ,show y*(256^j*2^r)=256^j*(y*2^r) by simp only[Nat.mul_left_comm]]
    rw[hp]at hM
    calc M+256^j*(y*2^r)<256^j*2^r+256^j*(y*2^r):=Nat.add_lt_add_right hM _
     _=256^j*(y*2^r+2^r):=by rw[<-Nat.mul_add,Nat.add_comm]
     _<=256^j*256:=Nat.mul_le_mul_left _ hyr
   rw[Nat.div_eq_of_lt (by omega),Nat.div_eq_of_lt (by omega)]
 ·have hn:∀M,(dig M len)[p]?=none:=fun M=>List.getElem?_eq_none (by rw[q57];omega)
  rw[hn,hn]
  by_cases h:j=p
  ·rw[if_pos h,if_neg (by rw[q57];omega)]
  ·rw[if_neg h]
/-! The number of significant bits. -/
def q18:Nat->Nat
 |0=>0
 |n+1=>q18 ((n+1)/2)+1
decreasing_by omega
theorem q55 {n:Nat}(h:0<n):q18 n=q18 (n/2)+1:=by
 obtain⟨m,rfl⟩:∃m,n=m+1:=⟨n-1,by omega⟩
 rw[q18]
theorem q4o:∀(k n:Nat),2^k<=n->q18 n=q18 (n/2^k)+k
 |0,n,_=>by simp
 |k+1,n,h=>by
  have h1:2^k<=n/2:=by rw[Nat.pow_succ]at h;omega
  rw[q55 (Nat.lt_of_lt_of_le (Nat.two_pow_pos _) h),q4o k (n/2) h1,Nat.div_div_eq_div_mul,Nat.pow_succ',Nat.add_assoc]
theorem q5c:∀(k n:Nat),n<2^k->q18 n<=k
 |0,n,h=>by
  have:n=0:=by simpa using h
  rw[this,q18]
  exact nR _
 | k+1,n,h=>by
  rcases Nat.eq_zero_or_pos n with rfl|hn
  ·rw[q18];omega
  ·rw[q55 hn]
   have:=q5c k (n/2) (by rw[Nat.pow_succ]at h;omega)
   omega
theorem qug:∀n:Nat,n<2^q18 n:=by
 intro n
 induction n using Nat.strongRecOn with
 | ind n ih=>
  rcases Nat.eq_zero_or_pos n with rfl|hn
  ·rw[q18];decide
  ·rw[q55 hn,Nat.pow_succ]
   have:=ih (n/2) (by omega)
   omega
/-! Numbers of seven bits a byte. -/
def q0f (n:Nat):List Int:=if h:n<128 then[(n:Int)]else((128+n%128:Nat):Int)::q0f (n/128)
termination_by n
decreasing_by omega
theorem q2f {n:Nat}(h:n<128):q0f n=[(n:Int)]:=by rw[q0f,dif_pos h]
theorem qbi {n:Nat}(h:128<=n):q0f n=((128+n%128:Nat):Int)::q0f (n/128):=by rw[q0f,dif_neg (by omega)]
theorem qqd:∀(k n:Nat),n<128^(k+1)->(q0f n).length<=k+1
 |0,n,h=>by rw[q2f (by simpa using h)];simp
 | k+1,n,h=>by
  by_cases hs:n<128
  ·rw[q2f hs];simp
  ·rw[qbi (by omega),lC]
   have:=qqd k (n/128) (Nat.div_lt_of_lt_mul (by rw[<-Nat.pow_succ'];exact h))
   omega
end Go.Eng
