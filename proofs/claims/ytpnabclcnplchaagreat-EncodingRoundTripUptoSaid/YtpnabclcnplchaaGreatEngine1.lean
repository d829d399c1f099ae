/- The engine, part A: codes of types, what they denote, the abstract values and states. Nothing of any program stands here.
The engine, part B: what the abstract values say of memory.
The engine, part C: states and the worlds that they tell of.
The engine, part D: what states may be turned into.
The engine, part E: blocks that are written, replaced, dropped, renamed.
The engine, part F: a block that is written in place; blocks dropped and renamed; what is no longer wanted is forgotten.
The engine, part G: the program's table of types, and runs of single instructions.
The engine, part H: operands; a value read at a type.
The engine, part I: operations on numbers, bools, strings.
The engine, part J: parts of aggregates; equality of structs; operations on two operands.
The engine, part KA: arrays that stand as rows of their elements.
The engine, part K: moves, fields, elements, loads, cuts.
The engine, part KV: structs that are known cell by cell.
The engine, part L: loads, cuts, conversions, lengths.
The engine, part M: cuts, conversions, lengths. -/
import Derived.WalkKit
import Derived.OwnWalk
import Derived.Maps.AppendAt
import Derived.Laws.BytesArg
import Derived.Laws.MakeOwn
import Derived.Laws.OwnMore
import Derived.Laws.Slices
import Derived.Laws.Rows
import Derived.KernelRfl
import Derived.Below
import Derived.Orders
import Derived.Great.BuildSlice
import Derived.Laws.Tables
import Derived.Laws.CopyRow
import Derived.Laws.StructEq
import Derived.Lib.ConvBytes
set_option linter.unusedVariables false
namespace Go.Eng
theorem dT {p:Prop}[Decidable p](h:p):decide p=true:=decide_eq_true h
theorem dF {p:Prop}[Decidable p](h:¬p):decide p=false:=decide_eq_false h
theorem cT {α:Sort _}{a b:α}:cond true a b=a:=rfl
theorem cF {α:Sort _}{a b:α}:cond false a b=b:=rfl
theorem oB {α:Type _}{β:Type _}(a:α)(f:α->Option β):(some a).bind f=f a:=rfl
theorem tN (n:Nat):(n:Int).toNat=n:=rfl
theorem nT:(!true)=false:=rfl
theorem nF:(!false)=true:=rfl
theorem gQ {α:Type _}{l:List α}{i:Nat}{a:α}:l.getD i a=l[i]?.getD a:=List.getD_eq_getElem?_getD
theorem lA {α:Type _}{as bs:List α}:(as++bs).length=as.length+bs.length:=List.length_append
theorem gE {α:Type _}{l:List α}{i:Nat}(h:i<l.length):l[i]?=some l[i]:=List.getElem?_eq_getElem h
theorem mC {α:Type _}(y:α){a:α}{l:List α}(h:a∈l):a∈y::l:=List.mem_cons_of_mem y h
theorem mS {α:Type _}{a:α}{l:List α}:a∈a::l:=List.mem_cons_self
theorem aA {α:Type _}(as bs cs:List α):as++bs++cs=as++(bs++cs):=List.append_assoc as bs cs
theorem lC {α:Type _}{a:α}{as:List α}:(a::as).length=as.length+1:=rfl
theorem gM {α:Type _}{l:List α}{n:Nat}(h:n<l.length):l[n]∈l:=List.getElem_mem h
theorem mA {α:Type _}{a:α}{s t:List α}:a∈s++t<->a∈s\/a∈t:=List.mem_append
theorem lD {α:Type _}{i:Nat}{l:List α}:(l.drop i).length=l.length-i:=List.length_drop
theorem lT {α:Type _}{i:Nat}{l:List α}:(l.take i).length=min i l.length:=List.length_take
theorem tL {α:Type _}{i:Nat}{l:List α}(h:l.length<=i):l.take i=l:=List.take_of_length_le h
theorem nR (n:Nat):n<=n:=Nat.le_refl n
inductive Ty where
 |int (k:IntKind)
 |bool
 |str
 |sl (e:Ty)
 |nm (n:Nat)
 |opq
 deriving DecidableEq,Inhabited
@[reducible] def Ty.den (ρ:Nat->Type):Ty->Type
 |.int _=>Int
 |.bool=>Bool
 |.str=>List Int
 |.sl e=>List (e.den ρ)
 |.nm n=>ρ n
 |.opq=>Unit
@[reducible] def HL (ρ:Nat->Type):List Ty->Type
 |[]=>Unit
 |t::ts=>t.den ρ×HL ρ ts
def szL (size:Nat->Nat):List Ty->Nat
 |[]=>0
 |.nm n::ts=>size n+szL size ts
 |_::ts=>1+szL size ts
def q8h (ρ:Nat->Type):(ts:List Ty)->HL ρ ts->Nat->Option (Σ t:Ty,t.den ρ)
 |[],_,_=>none
 |t::_,x,0=>some ⟨t,x.1⟩
 |_::ts,x,i+1=>q8h ρ ts x.2 i
structure Names where
 ρ:Nat->Type
 body:Nat->List Ty
 un:(n:Nat)->ρ n->HL ρ (body n)
 re:(n:Nat)->HL ρ (body n)->ρ n
 dv:(n:Nat)->ρ n
 size:Nat->Nat
 un_re:∀n x,un n (re n x)=x
 size_eq:∀n,size n=szL size (body n)
 rowsAt:Nat->List (Option (TypeId×Ty)):=fun _=>[]
 oslD:Nat->Bool:=fun _=>false
 elT:Nat->Option Ty:=fun _=>none
 lst:(n:Nat)->(T:Ty)->ρ n->Option (List (T.den ρ)):=fun _ _ _=>none
 lst_ok:∀n T x l,lst n T x=some l->l.length=(body n).length/\∀(m:Nat) z,l[m]?=some z->q8h ρ (body n) (un n x) m=some ⟨T,z⟩:=by intros;contradiction
 ofL:(n:Nat)->(T:Ty)->List (T.den ρ)->Option (ρ n):=fun _ _ _=>none
 ofL_ok:∀n T l y,l.length=(body n).length->ofL n T l=some y->∀(m:Nat) z,l[m]?=some z->q8h ρ (body n) (un n y) m=some ⟨T,z⟩:=by intros;contradiction
variable (N:Names)
def Names.sz:Ty->Nat
 |.nm n=>N.size n
 |_=>1
def Names.dflt:(t:Ty)->t.den N.ρ
 |.int _=>(0:Int)
 |.bool=>false
 |.str=>([]:List Int)
 |.sl _=>[]
 |.nm n=>N.dv n
 |.opq=>()
structure TV where
 t:Ty
 x:t.den N.ρ
def q0u (N:Names)(t t':Ty)(x:t.den N.ρ):Option (t'.den N.ρ):=
 if h:t=t' then some (h▸x)else none
inductive RV where
 |undef
 |nil
 |int (k:IntKind) (n:Int)
 |bool (b:Bool)
 |str (l:List Int)
 |data (t:Ty) (x:t.den N.ρ) (bs:List Nat)
 |own (id:Nat)
 |bptr (id off:Nat)
 |sptr (t:Ty) (x:t.den N.ρ) (bs:List Nat)
 |optr (id i off:Nat)
 |osl (id lo n:Nat)
 |fn (f:FuncId) (caps:List Nat)
 |mp (id:Nat)
 |nilf
inductive Slot where
 |one (r:RV N)
 |tup (l:List (RV N))
inductive Blk where
 |row (e:TypeId) (t:Ty) (xs:List (t.den N.ρ)) (bs:List Nat) (pin:Bool)
 |whole (t:Ty) (x:t.den N.ρ) (bs:List Nat)
 |cells (l:List (RV N))
 |mapB (kt vt:Ty) (es:List (kt.den N.ρ×vt.den N.ρ))
 |vals (n:Nat) (l:List (RV N))
structure St where
 regs:List (Slot N)
 own:List (Nat×Blk N)
def look {β:Type}:List (Nat×β)->Nat->Option β
 |[],_=>none
 |(k,v)::r,i=>bif k==i then some v else look r i
def ins {β:Type}(i:Nat)(v:β):List (Nat×β)->List (Nat×β)
 |[]=>[(i,v)]
 |(k,u)::r=>bif i==k then(i,v)::r else bif Nat.blt i k then(i,v)::(k,u)::r else(k,u)::ins i v r
def q0d {β:Type}:List (Nat×β)->List (Nat×β)->List (Nat×β)
 |[],l=>l
 |(i,v)::r,l=>ins i v (q0d r l)
variable {N}
def q0o (s:ByteArray):List Int:=s.data.toList.map fun b=>(b.toNat:Int)
def St.reg (σ:St N)(t:Nat):Slot N:=σ.regs.getD t (.one .undef)
def ev (σ:St N):Operand->RV N
 |.tmp t=>match σ.reg t with
  |.one r=>r
  |_=>.undef
 |.const (.int k n)=>.int k n
 |.const (.bool b)=>.bool b
 |.const (.string s)=>.str (q0o s)
 |.const (.slice none 0 0)=>.nil
 |.const .nilFunc=>.nilf
 |.const _=>.undef
 |.global _=>.undef
 |.func f=>.fn f []
def q6d:(t:Ty)->t.den N.ρ->List Nat->RV N
 |.int k,n,_=>.int k n
 |.bool,b,_=>.bool b
 |.str,l,_=>.str l
 |.sl e,x,bs=>.data (.sl e) x bs
 |.nm n,x,bs=>.data (.nm n) x bs
 |.opq,_,_=>.undef
def toDen0 (own:List (Nat×Blk N))(t:Ty)(r:RV N):Option (t.den N.ρ×List Nat):=
 match r with
 |.int k n=>(q0u N (.int k) t n).map fun x=>(x,[])
 |.bool b=>(q0u N .bool t b).map fun x=>(x,[])
 |.str l=>(q0u N .str t l).map fun x=>(x,[])
 |.nil=>match t with
  |.sl _=>some ([],[])
  |_=>none
 |.data t' x bs=>(q0u N t' t x).map fun x=>(x,bs)
 |.own id=>match look own id with
  |some (.row _ e xs bs _)=>(q0u N (.sl e) t xs).map fun x=>(x,id::bs)
  |_=>none
 |_=>none
def qn3 (g:(t:Ty)->List (RV N)->Option (t.den N.ρ×List Nat)):(ts:List Ty)->List (RV N)->Option (HL N.ρ ts×List Nat)
 |[],[]=>some ((),[])
 |[],_=>none
 |t::ts,l=>match g t (l.take (N.sz t)),qn3 g ts (l.drop (N.sz t))with
  |some p,some q=>some ((p.1,q.1),p.2++q.2)
  |_,_=>none
def qh1 (own:List (Nat×Blk N))(t:Ty)(l:List (RV N)):Option (t.den N.ρ×List Nat):=
 match l with
 |[r]=>toDen0 own t r
 |_=>none
def impl (own:List (Nat×Blk N)):Nat->(t:Ty)->List (RV N)->Option (t.den N.ρ×List Nat)
 |0,_,_=>none
 |f+1,.nm n,l=>(qn3 (impl own f) (N.body n) l).map fun p=>(N.re n p.1,p.2)
 |_+1,t,l=>qh1 own t l
def toDen (own:List (Nat×Blk N))(t:Ty)(r:RV N):Option (t.den N.ρ×List Nat):=
 match r with
 | .mp id=>match look own id with
  |some (.vals n l)=>match impl own 8 (.nm n) l with
   |some p=>(q0u N (.nm n) t p.1).map fun y=>(y,p.2)
   |none=>none
  |_=>none
 |r=>toDen0 own t r
def isMp:RV N->Bool
 |.mp _=>true
 |_=>false
theorem qlu {own:List (Nat×Blk N)}{t:Ty}{r:RV N}(h:isMp r=false):toDen own t r=toDen0 own t r:=by
 cases r<;>first|rfl|cases h
def qf9:(ts:List Ty)->HL N.ρ ts->Nat->Option (TV N)
 |[],_,_=>none
 |t::_,x,0=>some ⟨t,x.1⟩
 |_::ts,x,i+1=>qf9 ts x.2 i
theorem qu5:∀(ts:List Ty) (x:HL N.ρ ts) (m:Nat),qf9 ts x m=(q8h N.ρ ts x m).map fun p=>⟨p.1,p.2⟩
 |[],_,_=>rfl
 |_::_,_,0=>rfl
 |_::ts,x,m+1=>qu5 ts x.2 m
def q5a (N:Names):List Ty->Nat->Nat
 |_,0=>0
 |[],_=>0
 |t::ts,i+1=>N.sz t+q5a N ts i
def subL {β:Type}(g:(t:Ty)->t.den N.ρ->Nat->Option β):(ts:List Ty)->HL N.ρ ts->Nat->Option β
 |[],_,_=>none
 |t::ts,x,off=>bif Nat.blt off (N.sz t)then g t x.1 off else subL g ts x.2 (off-N.sz t)
def qrt (want:Ty):Nat->(t:Ty)->t.den N.ρ->Nat->Option (want.den N.ρ)
 |0,t,x,off=>bif off==0 then q0u N t want x else none
 | fuel+1,t,x,off=>
  match(bif off==0 then q0u N t want x else none)with
  |some y=>some y
  |none=>match t,x with
   |.nm n,x=>subL (qrt want fuel) (N.body n) (N.un n x) off
   |_,_=>none
def updL (g:(t:Ty)->t.den N.ρ->Nat->Option (t.den N.ρ)):(ts:List Ty)->HL N.ρ ts->Nat->Option (HL N.ρ ts)
 |[],_,_=>none
 |t::ts,x,off=>bif Nat.blt off (N.sz t)then(g t x.1 off).map fun y=>(y,x.2)else(updL g ts x.2 (off-N.sz t)).map fun y=>(x.1,y)
def qlx (v:TV N):Nat->(t:Ty)->t.den N.ρ->Nat->Option (t.den N.ρ)
 |0,t,_,off=>bif off==0 then q0u N v.t t v.x else none
 | fuel+1,t,x,off=>
  match(bif off==0 then q0u N v.t t v.x else none)with
  |some y=>some y
  |none=>match t,x with
   |.nm n,x=>(updL (qlx v fuel) (N.body n) (N.un n x) off).map (N.re n)
   |_,_=>none
end Go.Eng

set_option linter.unusedVariables false
namespace Go.Eng
variable {N:Names}
theorem q4m (a:Addr)(m j:Nat):(a.add m).add j=a.add (m+j):=by
 unfold Addr.add
 by_cases hm:m=0
 ·subst hm;simp
 ·by_cases hj:j=0
  ·subst hj;simp
  ·simp[hm,hj,Nat.add_assoc]
theorem q1e (a:Addr)(m:Nat):(a.add m).block=a.block:=by
 unfold Addr.add;split<;>rfl
def RepT (w:World)(ok:Nat->Prop)(Nm:(n:Nat)->N.ρ n->List Value->Prop):(t:Ty)->t.den N.ρ->List Value->Prop
 |.int k,n,cs=>cs=[.int k n]
 |.bool,b,cs=>cs=[.bool b]
 |.str,l,cs=>∃s,cs=[.string s]/\q0o s=l
 | .sl e,xs,cs=>∃A cap,cs=[.slice A xs.length cap]/\xs.length<=cap/\(A=none->cap=0)/\
   ∀i x,xs[i]?=some x->∃ad ccs,A=some ad/\ok ad.block/\RepT w ok Nm e x ccs/\∀j u,ccs[j]?=some u->w.cell? (ad.add (i*N.sz e+j))=some u
 |.nm n,x,cs=>Nm n x cs
 |.opq,_,cs=>∃v,cs=[v]/\v.oneCell'=true
def q98 (w:World)(ok:Nat->Prop)(Nm:(n:Nat)->N.ρ n->List Value->Prop):(ts:List Ty)->HL N.ρ ts->List Value->Prop
 |[],_,cs=>cs=[]
 |t::ts,x,cs=>∃c1 c2,cs=c1++c2/\RepT w ok Nm t x.1 c1/\q98 w ok Nm ts x.2 c2
def q9l (w:World)(ok:Nat->Prop)(n:Nat)(x:N.ρ n)(cs:List Value):Prop:=
 ∃R:(n:Nat)->N.ρ n->List Value->Prop,(∀n x cs,R n x cs->(cs.length=N.size n/\∀u∈cs,u.oneCell'=true)/\q98 w ok R (N.body n) (N.un n x) cs)/\R n x cs
def Rep (w:World)(ok:Nat->Prop)(t:Ty)(x:t.den N.ρ)(cs:List Value):Prop:=RepT w ok (q9l w ok) t x cs
theorem qe9 {w w':World}{ok ok':Nat->Prop}{Nm Nm':(n:Nat)->N.ρ n->List Value->Prop}
  (hw:∀a u,ok a.block->w.cell? a=some u->w'.cell? a=some u) (hok:∀b,ok b->ok' b) (hN:∀n x cs,Nm n x cs->Nm' n x cs):
  ∀(t:Ty) (x:t.den N.ρ) (cs:List Value),RepT w ok Nm t x cs->RepT w' ok' Nm' t x cs
 |.int k,n,cs,h=>h
 |.bool,b,cs,h=>h
 |.str,l,cs,h=>h
 |.sl e,xs,cs,h=>by
  obtain⟨A,cap,h1,h2,h2',h3⟩:=h
  refine⟨A,cap,h1,h2,h2',fun i x hx=>?_⟩
  obtain⟨ad,ccs,e1,e2,e3,e4⟩:=h3 i x hx
  exact⟨ad,ccs,e1,hok _ e2,qe9 hw hok hN e x ccs e3,fun j u hu=>hw _ _ (by rw[q1e];exact e2) (e4 j u hu)⟩
 |.nm n,x,cs,h=>hN n x cs h
 |.opq,_,cs,h=>h
theorem q7s {w w':World}{ok ok':Nat->Prop}{Nm Nm':(n:Nat)->N.ρ n->List Value->Prop}
  (hw:∀a u,ok a.block->w.cell? a=some u->w'.cell? a=some u) (hok:∀b,ok b->ok' b) (hN:∀n x cs,Nm n x cs->Nm' n x cs):
  ∀(ts:List Ty) (x:HL N.ρ ts) (cs:List Value),q98 w ok Nm ts x cs->q98 w' ok' Nm' ts x cs
 |[],_,cs,h=>h
 |t::ts,x,cs,h=>by
  obtain⟨c1,c2,e,h1,h2⟩:=h
  exact⟨c1,c2,e,qe9 hw hok hN t x.1 c1 h1,q7s hw hok hN ts x.2 c2 h2⟩
theorem qq7 (t:Ty)(ts:List Ty):szL N.size (t::ts)=N.sz t+szL N.size ts:=by
 cases t<;>rfl
theorem qe7 {w:World}{ok:Nat->Prop}{Nm:(n:Nat)->N.ρ n->List Value->Prop}(hN:∀n x cs,Nm n x cs->cs.length=N.size n):
  ∀(ts:List Ty) (x:HL N.ρ ts) (cs:List Value),q98 w ok Nm ts x cs->cs.length=szL N.size ts
 |[],_,cs,h=>by rw[h];rfl
 |t::ts,x,cs,h=>by
  obtain⟨c1,c2,rfl,h1,h2⟩:=h
  rw[lA,qq7,qe7 hN ts x.2 c2 h2]
  congr 1
  cases t with
  |int k=>rw[h1];rfl
  |bool=>rw[h1];rfl
  |str=>obtain⟨s,rfl,_⟩:=h1;rfl
  |sl e=>obtain⟨A,cap,rfl,_⟩:=h1;rfl
  |nm n=>exact hN n x.1 c1 h1
  |opq=>obtain⟨v,rfl,_⟩:=h1;rfl
theorem qny {w:World}{ok:Nat->Prop}{Nm:(n:Nat)->N.ρ n->List Value->Prop}(hN:∀n x cs,Nm n x cs->∀u∈cs,u.oneCell'=true):
  ∀(ts:List Ty) (x:HL N.ρ ts) (cs:List Value),q98 w ok Nm ts x cs->∀u∈cs,u.oneCell'=true
 |[],_,cs,h=>by rw[h];intro u hu;cases hu
 | t::ts,x,cs,h=>by
  obtain⟨c1,c2,rfl,h1,h2⟩:=h
  intro u hu
  rcases mA.1 hu with hu|hu
  ·cases t with
   |int k=>rw[h1]at hu;simp at hu;subst hu;rfl
   |bool=>rw[h1]at hu;simp at hu;subst hu;rfl
   |str=>obtain⟨s,rfl,_⟩:=h1;simp at hu;subst hu;rfl
   |sl e=>obtain⟨A,cap,rfl,_⟩:=h1;simp at hu;subst hu;rfl
   |nm n=>exact hN n x.1 c1 h1 u hu
   |opq=>obtain⟨v,rfl,h⟩:=h1;simp at hu;subst hu;exact h
  ·exact qny hN ts x.2 c2 h2 u hu
theorem q1l {w:World}{ok:Nat->Prop}{n:Nat}{x:N.ρ n}{cs:List Value}(h:q9l w ok n x cs):q98 w ok (q9l w ok) (N.body n) (N.un n x) cs:=by
 obtain⟨R,hR,h⟩:=h
 exact q7s (fun _ _ _ h=>h) (fun _ h=>h) (fun n x cs h=>⟨R,hR,h⟩) _ _ _ (hR n x cs h).2
theorem qe8 {w:World}{ok:Nat->Prop}{n:Nat}{x:N.ρ n}{cs:List Value}(h:q9l w ok n x cs):cs.length=N.size n:=by
 obtain⟨R,hR,h⟩:=h
 exact(hR n x cs h).1.1
theorem qnz {w:World}{ok:Nat->Prop}{n:Nat}{x:N.ρ n}{cs:List Value}(h:q9l w ok n x cs):∀u∈cs,u.oneCell'=true:=by
 obtain⟨R,hR,h⟩:=h
 exact(hR n x cs h).1.2
theorem qjn {w:World}{ok:Nat->Prop}{ts:List Ty}{x:HL N.ρ ts}{cs:List Value}(h:q98 w ok (q9l w ok) ts x cs):cs.length=szL N.size ts:=
 qe7 (fun _ _ _ h=>qe8 h) ts x cs h
theorem q3d {w:World}{ok:Nat->Prop}{n:Nat}{x:N.ρ n}{cs:List Value}(h:q98 w ok (q9l w ok) (N.body n) (N.un n x) cs):q9l w ok n x cs:=by
 refine⟨fun n x cs=>q98 w ok (q9l w ok) (N.body n) (N.un n x) cs,fun n x cs h=>⟨?_,?_⟩,h⟩
 ·exact⟨by rw[qjn h,N.size_eq],qny (fun _ _ _ h=>qnz h) _ _ _ h⟩
 ·exact q7s (fun _ _ _ h=>h) (fun _ h=>h) (fun n x cs h=>q1l h) _ _ _ h
theorem qjo {w w':World}{ok ok':Nat->Prop}(hw:∀a u,ok a.block->w.cell? a=some u->w'.cell? a=some u)(hok:∀b,ok b->ok' b)
  {n:Nat} {x:N.ρ n} {cs:List Value} (h:q9l w ok n x cs):q9l w' ok' n x cs:=by
 obtain⟨R,hR,h⟩:=h
 exact⟨R,fun n x cs h=>⟨(hR n x cs h).1,q7s hw hok (fun _ _ _ h=>h) _ _ _ (hR n x cs h).2⟩,h⟩
def qkh (N:Names):Nat->Ty->Bool
 |_,.sl _=>false
 |0,.nm _=>false
 |f+1,.nm n=>(N.body n).all (qkh N f)
 |_,_=>true
def q8c (N:Names)(t:Ty)(B:List Nat):List Nat:=bif qkh N 4 t then[]else B
theorem z14i {w:World}{ok ok':Nat->Prop}{Nm Nm':(n:Nat)->N.ρ n->List Value->Prop}{f:Ty->Bool}(hT:∀(t:Ty) (x:t.den N.ρ) (cs:List Value),f t=true->RepT w ok Nm t x cs->RepT w ok' Nm' t x cs):
  ∀(ts:List Ty) (x:HL N.ρ ts) (cs:List Value),ts.all f=true->q98 w ok Nm ts x cs->q98 w ok' Nm' ts x cs
 |[],_,cs,_,h=>h
 |t::ts,x,cs,hf,h=>by
  simp only[List.all_cons,Bool.and_eq_true]at hf
  obtain⟨c1,c2,e,h1,h2⟩:=h
  exact⟨c1,c2,e,hT t x.1 c1 hf.1 h1,z14i hT ts x.2 c2 hf.2 h2⟩
theorem qo0 {w:World}{ok ok':Nat->Prop}:∀(f:Nat) (t:Ty) (x:t.den N.ρ) (cs:List Value),qkh N f t=true->Rep w ok t x cs->Rep w ok' t x cs
 |_,.sl _,_,_,hf,_=>by unfold qkh at hf;cases hf
 |0,.nm _,_,_,hf,_=>by unfold qkh at hf;cases hf
 |f+1,.nm n,x,cs,hf,h=>by
  have hf':(N.body n).all (qkh N f)=true:=by unfold qkh at hf;exact hf
  exact q3d (z14i (fun t x cs hf h=>qo0 f t x cs hf h) _ _ _ hf' (q1l h))
 |_,.int _,_,_,_,h=>h
 |_,.bool,_,_,_,h=>h
 |_,.str,_,_,_,h=>h
 |_,.opq,_,_,_,h=>h
theorem q09 {w w':World}{ok ok':Nat->Prop}(hw:∀a u,ok a.block->w.cell? a=some u->w'.cell? a=some u)(hok:∀b,ok b->ok' b)
  {t:Ty} {x:t.den N.ρ} {cs:List Value} (h:Rep w ok t x cs):Rep w' ok' t x cs:=
 qe9 hw hok (fun _ _ _ h=>qjo hw hok h) t x cs h
theorem qqo {w w':World}{ok ok':Nat->Prop}(hw:∀a u,ok a.block->w.cell? a=some u->w'.cell? a=some u)(hok:∀b,ok b->ok' b)
  {ts:List Ty} {x:HL N.ρ ts} {cs:List Value} (h:q98 w ok (q9l w ok) ts x cs):q98 w' ok' (q9l w' ok') ts x cs:=
 q7s hw hok (fun _ _ _ h=>qjo hw hok h) ts x cs h
theorem q05 {w:World}{ok:Nat->Prop}{t:Ty}{x:t.den N.ρ}{cs:List Value}(h:Rep w ok t x cs):cs.length=N.sz t:=by
 cases t with
 |int k=>rw[show cs=_ from h];rfl
 |bool=>rw[show cs=_ from h];rfl
 |str=>obtain⟨s,rfl,_⟩:=h;rfl
 |sl e=>obtain⟨A,cap,rfl,_⟩:=h;rfl
 |nm n=>exact qe8 h
 |opq=>obtain⟨v,rfl,_⟩:=h;rfl
theorem q7t {w:World}{ok:Nat->Prop}{t:Ty}{x:t.den N.ρ}{cs:List Value}(h:Rep w ok t x cs):∀u∈cs,u.oneCell'=true:=by
 intro u hu
 cases t with
 |int k=>rw[show cs=_ from h]at hu;simp at hu;subst hu;rfl
 |bool=>rw[show cs=_ from h]at hu;simp at hu;subst hu;rfl
 |str=>obtain⟨s,rfl,_⟩:=h;simp at hu;subst hu;rfl
 |sl e=>obtain⟨A,cap,rfl,_⟩:=h;simp at hu;subst hu;rfl
 |nm n=>exact qnz h u hu
 |opq=>obtain⟨v,rfl,h⟩:=h;simp at hu;subst hu;exact h
/-! Parts of a value. -/
theorem q0b {t t':Ty}{x:t.den N.ρ}{y:t'.den N.ρ}(h:q0u N t t' x=some y):∃e:t=t',y=e▸x:=by
 unfold q0u at h
 split at h
 ·rename_i e
  exact⟨e,(Option.some.inj h).symm⟩
 ·cases h
theorem qbs {w:World}{ok:Nat->Prop}{t t':Ty}{x:t.den N.ρ}{y:t'.den N.ρ}{cs:List Value}(h:q0u N t t' x=some y)(hr:Rep w ok t x cs):Rep w ok t' y cs:=by
 obtain⟨e,rfl⟩:=q0b h
 subst e
 exact hr
theorem q02 {β:Type}{b:Bool}{x:Option β}{y:β}(h:(bif b then x else none)=some y):b=true/\x=some y:=by
 cases b with
 |true=>exact⟨rfl,h⟩
 |false=>cases h
theorem qq5 {w:World}{ok:Nat->Prop}{want:Ty}{g:(t:Ty)->t.den N.ρ->Nat->Option (want.den N.ρ)}
  (hg:∀(t:Ty) (x:t.den N.ρ) off y cs,g t x off=some y->Rep w ok t x cs->Rep w ok want y ((cs.drop off).take (N.sz want))/\off+N.sz want<=cs.length):
  ∀(ts:List Ty) (x:HL N.ρ ts) (off:Nat) (y:want.den N.ρ) (cs:List Value),subL g ts x off=some y->q98 w ok (q9l w ok) ts x cs->Rep w ok want y ((cs.drop off).take (N.sz want))/\off+N.sz want<=cs.length
 |[],_,off,y,cs,h,_=>by cases h
 | t::ts,x,off,y,cs,h,hr=>by
  obtain⟨c1,c2,rfl,h1,h2⟩:=hr
  have hl:=q05 (show Rep w ok t x.1 c1 from h1)
  unfold subL at h
  cases hb:Nat.blt off (N.sz t)with
  |true=>
   rw[hb]at h
   have h0:off<N.sz t:=by simpa[Nat.blt_eq]using hb
   obtain⟨k1,k2⟩:=hg t x.1 off y c1 h h1
   refine⟨?_,by rw[lA];omega⟩
   rw[List.drop_append_of_le_length (by omega),List.take_append_of_le_length (by rw[lD];omega)]
   exact k1
  |false=>
   rw[hb]at h
   have h0:¬off<N.sz t:=by rw[<-Nat.blt_eq];simp[hb]
   obtain⟨k1,k2⟩:=qq5 hg ts x.2 (off-N.sz t) y c2 h h2
   refine⟨?_,by rw[lA];omega⟩
   rw[List.drop_append,List.drop_eq_nil_of_le (by omega),List.nil_append,hl]
   exact k1
theorem qg7 {w:World}{ok:Nat->Prop}{want:Ty}:∀(fuel:Nat) (t:Ty) (x:t.den N.ρ) (off:Nat) (y:want.den N.ρ) (cs:List Value),
  qrt want fuel t x off=some y->Rep w ok t x cs->Rep w ok want y ((cs.drop off).take (N.sz want))/\off+N.sz want<=cs.length:=by
 have base:∀(t:Ty) (x:t.den N.ρ) (off:Nat) (y:want.den N.ρ) (cs:List Value),(bif off==0 then q0u N t want x else none)=some y->Rep w ok t x cs->
   Rep w ok want y ((cs.drop off).take (N.sz want))/\off+N.sz want<=cs.length:=by
  intro t x off y cs h hr
  obtain⟨h0,h1⟩:=q02 h
  have h0:off=0:=by simpa using h0
  subst h0
  have hy:=qbs h1 hr
  have hl:=q05 hy
  rw[List.drop_zero,tL (by omega)]
  exact⟨hy,by omega⟩
 intro fuel
 induction fuel with
 |zero=>intro t x off y cs h hr;exact base t x off y cs h hr
 | succ fuel ih=>
  intro t x off y cs h hr
  unfold qrt at h
  split at h
  ·rename_i z hz
   cases h
   exact base t x off _ cs hz hr
  ·split at h
   ·rename_i n x'
    exact qq5 (fun t x off y cs=>ih t x off y cs) _ _ off y cs h (q1l hr)
   ·cases h
def q0g (cs:List Value)(off:Nat)(vs:List Value):List Value:=cs.take off++vs++cs.drop (off+vs.length)
theorem q7g {cs vs:List Value}{off:Nat}(h:off+vs.length<=cs.length):(q0g cs off vs).length=cs.length:=by
 unfold q0g
 simp only[lA,lT,lD]
 omega
theorem qqb {w:World}{ok:Nat->Prop}{vs:List Value}{g:(t:Ty)->t.den N.ρ->Nat->Option (t.den N.ρ)}
  (hg:∀(t:Ty) (x:t.den N.ρ) off y cs,g t x off=some y->Rep w ok t x cs->Rep w ok t y (q0g cs off vs)/\off+vs.length<=cs.length):
  ∀(ts:List Ty) (x:HL N.ρ ts) (off:Nat) (y:HL N.ρ ts) (cs:List Value),updL g ts x off=some y->q98 w ok (q9l w ok) ts x cs->q98 w ok (q9l w ok) ts y (q0g cs off vs)/\off+vs.length<=cs.length
 |[],_,off,y,cs,h,_=>by cases h
 | t::ts,x,off,y,cs,h,hr=>by
  obtain⟨c1,c2,rfl,h1,h2⟩:=hr
  have hl:=q05 (show Rep w ok t x.1 c1 from h1)
  unfold updL at h
  cases hb:Nat.blt off (N.sz t)with
  |true=>
   rw[hb]at h
   have h0:off<N.sz t:=by simpa[Nat.blt_eq]using hb
   simp only[cT,Option.map_eq_some_iff]at h
   obtain⟨z,hz,rfl⟩:=h
   obtain⟨k1,k2⟩:=hg t x.1 off z c1 hz h1
   refine⟨⟨q0g c1 off vs,c2,?_,k1,h2⟩,by rw[lA];omega⟩
   unfold q0g
   rw[List.take_append_of_le_length (by omega),List.drop_append_of_le_length (by omega)]
   simp
  |false=>
   rw[hb]at h
   have h0:¬off<N.sz t:=by rw[<-Nat.blt_eq];simp[hb]
   simp only[cF,Option.map_eq_some_iff]at h
   obtain⟨z,hz,rfl⟩:=h
   obtain⟨k1,k2⟩:=qqb hg ts x.2 (off-N.sz t) z c2 hz h2
   refine⟨⟨c1,q0g c2 (off-N.sz t) vs,?_,h1,k1⟩,by rw[lA];omega⟩
   unfold q0g
   rw[List.take_append,List.drop_append,tL (by omega:c1.length<=off),List.drop_eq_nil_of_le (by omega:c1.length<=off+vs.length),hl]
   simp only[List.nil_append,aA]
   congr 3
   rw[show off+vs.length-N.sz t=off-N.sz t+vs.length from by omega]
theorem qbg {w:World}{ok:Nat->Prop}{v:TV N}{vs:List Value}(hv:Rep w ok v.t v.x vs):∀(fuel:Nat) (t:Ty) (x:t.den N.ρ) (off:Nat) (y:t.den N.ρ) (cs:List Value),
  qlx v fuel t x off=some y->Rep w ok t x cs->Rep w ok t y (q0g cs off vs)/\off+vs.length<=cs.length:=by
 have base:∀(t:Ty) (x:t.den N.ρ) (off:Nat) (y:t.den N.ρ) (cs:List Value),(bif off==0 then q0u N v.t t v.x else none)=some y->Rep w ok t x cs->
   Rep w ok t y (q0g cs off vs)/\off+vs.length<=cs.length:=by
  intro t x off y cs h hr
  obtain⟨h0,h1⟩:=q02 h
  have h0:off=0:=by simpa using h0
  subst h0
  have hy:=qbs h1 hv
  have hl:=q05 hy
  have hl2:=q05 hr
  refine⟨?_,by omega⟩
  unfold q0g
  rw[List.take_zero,List.nil_append,List.drop_eq_nil_of_le (by omega),List.append_nil]
  exact hy
 intro fuel
 induction fuel with
 |zero=>intro t x off y cs h hr;exact base t x off y cs h hr
 | succ fuel ih=>
  intro t x off y cs h hr
  unfold qlx at h
  split at h
  ·rename_i z hz
   cases h
   exact base t x off _ cs hz hr
  ·split at h
   ·rename_i n x'
    simp only[Option.map_eq_some_iff]at h
    obtain⟨z,hz,rfl⟩:=h
    obtain⟨k1,k2⟩:=qqb (fun t x off y cs=>ih t x off y cs) _ _ off z cs hz (q1l hr)
    refine⟨q3d ?_,k2⟩
    rw[N.un_re]
    exact k1
   ·cases h
theorem qas {w:World}{ok:Nat->Prop}:∀(ts:List Ty) (x:HL N.ρ ts) (i:Nat) (v:TV N) (cs:List Value),qf9 ts x i=some v->q98 w ok (q9l w ok) ts x cs->
  Rep w ok v.t v.x ((cs.drop (q5a N ts i)).take (N.sz v.t))/\q5a N ts i+N.sz v.t<=cs.length
 |[],_,i,v,cs,h,_=>by cases h
 |t::ts,x,0,v,cs,h,hr=>by
  obtain⟨c1,c2,rfl,h1,h2⟩:=hr
  have hl:=q05 (show Rep w ok t x.1 c1 from h1)
  simp only[qf9,Option.some.injEq]at h
  subst h
  simp only[q5a]
  refine⟨?_,by rw[lA];omega⟩
  rw[List.drop_zero,List.take_append_of_le_length (by omega),tL (by omega)]
  exact h1
 |t::ts,x,i+1,v,cs,h,hr=>by
  obtain⟨c1,c2,rfl,h1,h2⟩:=hr
  have hl:=q05 (show Rep w ok t x.1 c1 from h1)
  obtain⟨k1,k2⟩:=qas ts x.2 i v c2 (by simpa[qf9]using h) h2
  simp only[q5a]
  refine⟨?_,by rw[lA];omega⟩
  rw[List.drop_append,List.drop_eq_nil_of_le (by omega),List.nil_append,hl,show N.sz t+q5a N ts i-N.sz t=q5a N ts i from by omega]
  exact k1
end Go.Eng

set_option linter.unusedVariables false
namespace Go.Eng
variable {N:Names}
def q0j:Value->Option Nat
 |.slice (some a) _ _=>some a.block
 |.pointer (some a)=>some a.block
 |.map (some b)=>some b
 |_=>none
structure Env where
 val:Nat->Value
 A:Nat->Prop
instance:CoeFun Env (fun _=>Nat->Value):=⟨Env.val⟩
structure Io where
 p:Nat->Prop
 A:Nat->Prop
 ids:List Nat
 fix:Nat->Value
def okb (H:Nat)(own:List (Nat×Blk N))(E:Env)(bs:List Nat)(b:Nat):Prop:=
 (b<H/\E.A b)/\∀id,(look own id).isSome=true->id∉bs->q0j (E id)≠some b
def AsV (t:Ty)(v:Value)(cs:List Value):Prop:=
 match t with
 |.nm _=>v=.agg cs.toArray
 |_=>cs=[v]
def q5u (own:List (Nat×Blk N))(id:Nat)(n:Nat)(t:Ty):Prop:=∃e xs bs p,look own id=some (.row e t xs bs p)/\xs.length=n
def q53 (own:List (Nat×Blk N))(id:Nat):Prop:=(∃t x bs,look own id=some (.whole t x bs))\/(∃l,look own id=some (.cells l))\/(∃kt vt es,look own id=some (.mapB kt vt es))\/∃n l,look own id=some (.vals n l)
def q0a (w:World)(own:List (Nat×Blk N))(E:Env):RV N->Value->Prop
 |.undef,_=>True
 |.nil,v=>v=.slice none 0 0
 |.int k n,v=>v=.int k n
 |.bool b,v=>v=.bool b
 |.str l,v=>∃s,v=.string s/\q0o s=l
 |.data t x bs,v=>∃cs,Rep w (okb w.heap.size own E bs) t x cs/\AsV t v cs
 |.own id,v=>v=E id/\∃n t,q5u own id n t
 |.bptr id off,v=>q53 own id/\∃g,E id=.pointer (some ⟨g,0,none⟩)/\v=.pointer (some ⟨g,off,none⟩)
 |.sptr t x bs,v=>∃ad cs,v=.pointer (some ad)/\okb w.heap.size own E bs ad.block/\Rep w (okb w.heap.size own E bs) t x cs/\∀j u,cs[j]?=some u->w.cell? (ad.add j)=some u
 |.optr id i off,v=>∃g cap n t,q5u own id n t/\i<n/\E id=.slice (some ⟨g,0,none⟩) n cap/\v=.pointer (some ⟨g,i*N.sz t+off,none⟩)
 |.osl id lo n,v=>∃A cap m t,q5u own id m t/\lo+n<=m/\E id=.slice A m cap/\v=.slice (if cap=lo then A else A.map (·.add (lo*N.sz t))) n (cap-lo)
 |.fn f caps,v=>v=.func (.func f) #[] (caps.map E.val).toArray/\∀id∈caps,q53 own id/\∃g,E id=.pointer (some ⟨g,0,none⟩)
 |.mp id,v=>q53 own id/\v=E id
 |.nilf,v=>v=.nilFunc
def q42:(t:Ty)->t.den N.ρ->Value->Prop
 |.int k,n,v=>v=.int k n
 |.bool,b,v=>v=.bool b
 |.str,l,v=>∃s,v=.string s/\q0o s=l
 |_,_,_=>False
def qgp (kt vt:Ty):List (kt.den N.ρ×vt.den N.ρ)->List MapEntry->Prop
 |[],es=>es=[]
 |x::xs,es=>∃e rest,es=e::rest/\q42 kt x.1 e.key/\q42 vt x.2 e.val/\qgp kt vt xs rest
def q43 (w:World)(own:List (Nat×Blk N))(E:Env):Slot N->Value->Prop
 |.one r,v=>q0a w own E r v
 |.tup l,v=>∃vs:List Value,v=.tuple vs.toArray/\vs.length=l.length/\∀(i:Nat) r u,l[i]?=some r->vs[i]?=some u->q0a w own E r u
def q6v {α:Type}(R:α->List Value->Prop):List α->List Value->Prop
 |[],cs=>cs=[]
 |x::xs,cs=>∃c1 c2,cs=c1++c2/\R x c1/\q6v R xs c2
def qgb:Nat:=1000000
def eqB (a b:Nat):Bool:=a==b&&Nat.blt a qgb
theorem q5y {a b:Nat}(h:eqB a b=true):a=b/\a<qgb:=by
 unfold eqB at h
 rw[Bool.and_eq_true,beq_iff_eq]at h
 exact⟨h.1,Nat.le_of_ble_eq_true h.2⟩
def z18j (e T:TypeId)(n cap:Nat):Prop:=(e<qgb->T=e)/\(2*qgb<=e->cap=n/\e=2*qgb+n)
def qqk (w:World)(e:TypeId)(size:Nat)(v:Value)(n:Nat)(xs:List Value):Prop:=
 xs.length=n*size/\((v=.slice none 0 0/\n=0)\/
 ∃g cap cur T fz,v=.slice (some ⟨g,0,none⟩) n cap/\w.heap[g]?=some (.cells cur T fz)/\(fz=(0,0)\/(qgb<=e/\cur.size<=fz.1))/\z18j e T n cap/\n<=cap/\cap<=maxLen/\cur.size=cap*size/\cur.toList.take (n*size)=xs)
theorem qqk.strict {w:World}{e:TypeId}{size:Nat}{v:Value}{n:Nat}{xs:List Value}(h:qqk w e size v n xs)(he:e<qgb):w.ownsRow 0 e size v n xs:=by
 refine⟨h.1,?_⟩
 rcases h.2 with hn|⟨g,cap,cur,T,fz,h1,h2,h3,h4,h5⟩
 ·exact .inl hn
 ·refine .inr ⟨g,cap,cur,h1,Nat.zero_le _,?_,h5⟩
  rcases h3 with h3|h3
  ·rw[h2,h4.1 he,h3]
  ·exact absurd he (Nat.not_lt.2 h3.1)
theorem qqk.of {w:World}{e:TypeId}{size:Nat}{v:Value}{n:Nat}{xs:List Value}(he:e<2*qgb)(h:w.ownsRow 0 e size v n xs):qqk w e size v n xs:=by
 refine⟨h.1,?_⟩
 rcases h.2 with hn|⟨g,cap,cur,h1,h2,h3,h5⟩
 ·exact .inl hn
 ·exact .inr ⟨g,cap,cur,e,(0,0),h1,h3,.inl rfl,⟨fun _=>rfl,fun h=>absurd he (Nat.not_lt.2 h)⟩,h5⟩
theorem qqk.of' {w:World}{e:TypeId}{size:Nat}{v:Value}{n:Nat}{xs:List Value}(h:(v=.slice none 0 0\/e<qgb)/\w.ownsRow 0 e size v n xs):qqk w e size v n xs:=by
 rcases h.1 with rfl|he
 ·refine⟨h.2.1,?_⟩
  rcases h.2.2 with hn|⟨g,cap,cur,h1,_⟩
  ·exact .inl hn
  ·cases h1
 ·exact .of (Nat.lt_of_lt_of_le he (Nat.le_mul_of_pos_left _ (by decide))) h.2
def q4j (w:World)(own:List (Nat×Blk N))(E:Env)(id:Nat):Blk N->Prop
 |.row e t xs bs _=>∃cells,qqk w e (N.sz t) (E id) xs.length cells/\q6v (Rep w (okb w.heap.size own E bs) t) xs cells
 |.whole t x bs=>∃g T arr,E id=.pointer (some ⟨g,0,none⟩)/\w.heap[g]?=some (.cells arr T (0,0))/\Rep w (okb w.heap.size own E bs) t x arr.toList
 |.cells l=>∃g T arr,E id=.pointer (some ⟨g,0,none⟩)/\w.heap[g]?=some (.cells arr T (0,0))/\arr.size=l.length/\∀(i:Nat) r u,l[i]?=some r->arr[i]?=some u->q0a w own E r u
 |.mapB kt vt es=>∃g arr clock,E id=.map (some g)/\w.heap[g]?=some (.map arr clock)/\qgp kt vt es arr.toList
 |.vals _ l=>∃arr:Array Value,E id=.agg arr/\arr.size=l.length/\(∀u∈arr.toList,u.oneCell'=true)/\∀(i:Nat) r u,l[i]?=some r->arr[i]?=some u->q0a w own E r u
def Blk.pinned:Blk N->Bool
 |.row _ _ _ _ p=>p
 |_=>true
structure Kept (io:Io) (w0 w:World):Prop where
 os:w.os=w0.os
 tape:w.tape=w0.tape
 output:w.output=w0.output
 size:w0.heap.size<=w.heap.size
 block:∀g,g<w0.heap.size->¬io.p g->w.heap[g]?=w0.heap[g]?
structure RelE (io:Io) (w0:World) (σ:St N) (E:Env) (a:Act) (w:World):Prop where
 kept:Kept io w0 w
 size:a.tmps.size=σ.regs.length
 defers:a.defers=[]
 regs:∀(t:Nat) s,σ.regs[t]?=some s->q43 w σ.own E s (a.tmps.getD t undef)
 own:∀id b,look σ.own id=some b->q4j w σ.own E id b
 blk:∀id b,look σ.own id=some b->∀g,q0j (E id)=some g->g<w.heap.size/\(w0.heap.size<=g\/io.p g)
 sep:∀id id' b b',look σ.own id=some b->look σ.own id'=some b'->id≠id'->∀g,q0j (E id)=some g->q0j (E id')≠some g
 sc:E.A=io.A
 nw:∀b,w0.heap.size<=b\/io.p b->io.A b
 fx:∀i∈io.ids,∃b,look σ.own i=some b/\E i=io.fix i/\b.pinned=true
def Rel (io:Io)(w0:World)(σ:St N)(a:Act)(w:World):Prop:=∃E,RelE io w0 σ E a w
/-! Frames. -/
structure Ext (w w':World):Prop where
 os:w'.os=w.os
 tape:w'.tape=w.tape
 output:w'.output=w.output
 size:w.heap.size<=w'.heap.size
 block:∀g,g<w.heap.size->w'.heap[g]?=w.heap[g]?
theorem Ext.refl (w:World):Ext w w:=⟨rfl,rfl,rfl,nR _,fun _ _=>rfl⟩
theorem Ext.cell {w w':World}(h:Ext w w'){a:Addr}{u:Value}(hc:w.cell? a=some u):w'.cell? a=some u:=
 (World.cell?_of_block (w:=w) (h.block _ (World.block_lt_of_cell? w a hc))).trans hc
theorem Kept.ext {io:Io}{w0 w w':World}(h:Kept io w0 w)(he:Ext w w'):Kept io w0 w':=
 ⟨he.os.trans h.os,he.tape.trans h.tape,he.output.trans h.output,Nat.le_trans h.size he.size,
  fun g hg hi=>(he.block g (Nat.lt_of_lt_of_le hg h.size)).trans (h.block g hg hi)⟩
theorem qiv {H H':Nat}{own:List (Nat×Blk N)}{E:Env}{bs:List Nat}{b:Nat}(hH:H<=H')(h:okb H own E bs b):okb H' own E bs b:=
 ⟨⟨Nat.lt_of_lt_of_le h.1.1 hH,h.1.2⟩,h.2⟩
theorem q3c {w w':World}{own own':List (Nat×Blk N)}{E E':Env}{r:RV N}{v:Value}
  (hcell:∀bs,(match r with|.data _ _ b=>bs=b|.sptr _ _ b=>bs=b|_=>False)->∀a u,okb w.heap.size own E bs a.block->w.cell? a=some u->w'.cell? a=some u)
  (hok:∀bs,(match r with|.data _ _ b=>bs=b|.sptr _ _ b=>bs=b|_=>False)->∀b,okb w.heap.size own E bs b->okb w'.heap.size own' E' bs b)
  (hrow:∀id n t,(match r with|.own i=>id=i|.optr i _ _=>id=i|.osl i _ _=>id=i|_=>False)->q5u own id n t->q5u own' id n t/\E' id=E id)
  (hbox:∀id,(match r with|.bptr i _=>id=i|.fn _ caps=>id∈caps|.mp i=>id=i|_=>False)->q53 own id->q53 own' id/\E' id=E id)
  (h:q0a w own E r v):q0a w' own' E' r v:=by
 cases r with
 |undef=>trivial
 |nil=>exact h
 |int k n=>exact h
 |bool b=>exact h
 |str l=>exact h
 |nilf=>exact h
 |data t x bs=>
  obtain⟨cs,h1,h2⟩:=h
  exact⟨cs,q09 (hcell bs rfl) (hok bs rfl) h1,h2⟩
 |own id=>
  obtain⟨rfl,n,t,h1⟩:=h
  obtain⟨k1,k2⟩:=hrow id n t rfl h1
  exact⟨k2.symm,n,t,k1⟩
 |bptr id off=>
  obtain⟨h1,g,h2,h3⟩:=h
  obtain⟨k1,k2⟩:=hbox id rfl h1
  exact⟨k1,g,k2.trans h2,h3⟩
 |sptr t x bs=>
  obtain⟨ad,cs,h1,h2,h3,h4⟩:=h
  exact⟨ad,cs,h1,hok bs rfl _ h2,q09 (hcell bs rfl) (hok bs rfl) h3,fun j u hu=>hcell bs rfl _ _ (by rw[q1e];exact h2) (h4 j u hu)⟩
 |optr id i off=>
  obtain⟨g,cap,n,t,h1,h2,h3,h4⟩:=h
  obtain⟨k1,k2⟩:=hrow id n t rfl h1
  exact⟨g,cap,n,t,k1,h2,k2.trans h3,h4⟩
 |osl id lo k=>
  obtain⟨g,cap,n,t,h1,h2,h3,h4⟩:=h
  obtain⟨k1,k2⟩:=hrow id n t rfl h1
  exact⟨g,cap,n,t,k1,h2,k2.trans h3,h4⟩
 | fn f caps=>
  obtain⟨h1,h2⟩:=h
  refine⟨?_,fun id hid=>?_⟩
  ·rw[h1,List.map_congr_left (fun id hid=>((hbox id hid (h2 id hid).1).2).symm)]
  ·obtain⟨h3,g,h4⟩:=h2 id hid
   obtain⟨k1,k2⟩:=hbox id hid h3
   exact⟨k1,g,k2.trans h4⟩
 |mp id=>
  obtain⟨h1,rfl⟩:=h
  obtain⟨k1,k2⟩:=hbox id rfl h1
  exact⟨k1,k2.symm⟩
theorem qe6 {w w':World}{own:List (Nat×Blk N)}{E:Env}{r:RV N}{v:Value}(he:Ext w w')(h:q0a w own E r v):q0a w' own E r v:=
 q3c (fun _ _ _ _ _ hc=>he.cell hc) (fun _ _ _ hb=>qiv he.size hb) (fun _ _ _ _ h=>⟨h,rfl⟩) (fun _ _ h=>⟨h,rfl⟩) h
theorem q0p {α:Type}{R R':α->List Value->Prop}(h:∀x cs,R x cs->R' x cs):∀{xs:List α} {cs:List Value},q6v R xs cs->q6v R' xs cs
 |[],_,hh=>hh
 |_::_,_,⟨c1,c2,e,h1,h2⟩=>⟨c1,c2,e,h _ _ h1,q0p h h2⟩
theorem q7u {w w':World}{own own':List (Nat×Blk N)}{E E':Env}{s:Slot N}{v:Value}(h:∀r v,q0a w own E r v->q0a w' own' E' r v)(hs:q43 w own E s v):q43 w' own' E' s v:=by
 cases s with
 |one r=>exact h _ _ hs
 |tup l=>
  obtain⟨vs,h1,h2,h3⟩:=hs
  exact⟨vs,h1,h2,fun i r u hr hu=>h _ _ (h3 i r u hr hu)⟩
theorem q08 {β:Type}(i:Nat)(v:β):∀(l:List (Nat×β)) (j:Nat),look (ins i v l) j=if i=j then some v else look l j
 | [],j=>by
  simp only[ins,look]
  by_cases h:i=j
  ·simp[h]
  ·have:(i==j)=false:=by simpa using h
   simp[this,h]
 | (k,u)::r,j=>by
  unfold ins
  cases hik:(i==k)with
  | true=>
   have hk:i=k:=by simpa using hik
   subst hk
   simp only[cT,look]
   by_cases h:i=j
   ·simp[h]
   ·have:(i==j)=false:=by simpa using h
    simp[this,h]
  | false=>
   have hne:i≠k:=by simpa using hik
   simp only[cF]
   cases hb:Nat.blt i k with
   | true=>
    simp only[cT,look]
    by_cases h:i=j
    ·simp[h]
    ·have:(i==j)=false:=by simpa using h
     simp[this,h]
   | false=>
    simp only[cF,look,q08 i v r j]
    cases hkj:(k==j)with
    |true=>
     have:k=j:=by simpa using hkj
     subst this
     simp[hne]
    |false=>simp
end Go.Eng

set_option linter.unusedVariables false
namespace Go.Eng
variable {N:Names} {io:Io} {w0 w w':World} {σ:St N} {E:Env} {a:Act}
def St.putS (σ:St N)(d:Nat)(s:Slot N):St N:={σ with regs:=σ.regs.set d s}
def St.put (σ:St N)(d:Option Nat)(s:Slot N):St N:=match d with
 |some d=>σ.putS d s
 |none=>σ
def qa7 (E:Env)(id:Nat)(v:Value):Env:={E with val:=fun i=>if i=id then v else E i}
theorem q06 (E:Env)(id:Nat)(v:Value):qa7 E id v id=v:=by simp[qa7]
theorem q13 (E:Env){id j:Nat}(v:Value)(h:j≠id):qa7 E id v j=E j:=by simp[qa7,h]
theorem qnx {e:TypeId}{size n:Nat}{v:Value}{xs:List Value}(he:Ext w w')(h:qqk w e size v n xs):qqk w' e size v n xs:=by
 refine⟨h.1,?_⟩
 rcases h.2 with hn|⟨g,cap,cur,T,fz,hv,hg,rest⟩
 ·exact .inl hn
 ·refine .inr ⟨g,cap,cur,T,fz,hv,?_,rest⟩
  rw[he.block g (Array.getElem?_eq_some_iff.1 hg).1]
  exact hg
theorem qqi {own:List (Nat×Blk N)}{id:Nat}{b:Blk N}(he:Ext w w')(hb:∀g,q0j (E id)=some g->g<w.heap.size)(h:q4j w own E id b):q4j w' own E id b:=by
 cases b with
 |row e t xs bs p=>
  obtain⟨cells,h1,h2⟩:=h
  exact⟨cells,qnx he h1,q0p (fun x cs hx=>q09 (fun _ _ _ hc=>he.cell hc) (fun _ hb=>qiv he.size hb) hx) h2⟩
 |whole t x bs=>
  obtain⟨g,T,arr,h1,h2,h3⟩:=h
  refine⟨g,T,arr,h1,?_,q09 (fun _ _ _ hc=>he.cell hc) (fun _ hb=>qiv he.size hb) h3⟩
  rw[he.block g (Array.getElem?_eq_some_iff.1 h2).1]
  exact h2
 |cells l=>
  obtain⟨g,T,arr,h1,h2,h3,h4⟩:=h
  refine⟨g,T,arr,h1,?_,h3,fun i r u hr hu=>qe6 he (h4 i r u hr hu)⟩
  rw[he.block g (Array.getElem?_eq_some_iff.1 h2).1]
  exact h2
 |mapB kt vt es=>
  obtain⟨g,arr,clock,h1,h2,h3⟩:=h
  refine⟨g,arr,clock,h1,?_,h3⟩
  rw[he.block g (Array.getElem?_eq_some_iff.1 h2).1]
  exact h2
 |vals n l=>
  obtain⟨arr,h1,h2,h3,h4⟩:=h
  exact⟨arr,h1,h2,h3,fun i r u hr hu=>qe6 he (h4 i r u hr hu)⟩
theorem RelE.ext (h:RelE io w0 σ E a w)(he:Ext w w'):RelE io w0 σ E a w' where
 kept:=h.kept.ext he
 size:=h.size
 defers:=h.defers
 regs:=fun t s hs=>q7u (fun _ _ hr=>qe6 he hr) (h.regs t s hs)
 own:=fun id b hb=>qqi he (fun g hg=>(h.blk id b hb g hg).1) (h.own id b hb)
 blk:=fun id b hb g hg=>⟨Nat.lt_of_lt_of_le (h.blk id b hb g hg).1 he.size,(h.blk id b hb g hg).2⟩
 sep:=h.sep
 sc:=h.sc
 nw:=h.nw
 fx:=h.fx
theorem RelE.put (h:RelE io w0 σ E a w)(d:Option Nat){s:Slot N}{v:Value}(hs:q43 w σ.own E s v):RelE io w0 (σ.put d s) E (a.put d v) w:=by
 cases d with
 |none=>exact h
 | some d=>
  refine⟨h.kept,?_,h.defers,?_,h.own,h.blk,h.sep,h.sc,h.nw,h.fx⟩
  ·simp[St.put,St.putS,Act.put,h.size]
  ·intro t s' hs'
   simp only[St.put,St.putS,Act.put]at hs' ⊢
   rw[List.getElem?_set]at hs'
   by_cases hd:d=t
   ·subst hd
    rw[if_pos rfl]at hs'
    split at hs'
    ·rename_i hlt
     cases hs'
     have:d<a.tmps.size:=by rw[h.size];exact hlt
     simp[this]
     exact hs
    ·cases hs'
   ·rw[if_neg hd]at hs'
    have:=h.regs t s' hs'
    rw[show(a.tmps.setIfInBounds d v).getD t undef=a.tmps.getD t undef from by
     rw[Array.getD_eq_getD_getElem?,Array.getD_eq_getD_getElem?,Array.getElem?_setIfInBounds_ne hd]]
    exact this
theorem qfg {own:List (Nat×Blk N)}{id j n:Nat}{t:Ty}{b:Blk N}(hne:j≠id)(h:q5u own j n t):q5u (ins id b own) j n t:=by
 obtain⟨e,xs,bs,p,h1,h2⟩:=h
 exact⟨e,xs,bs,p,by rw[q08,if_neg (Ne.symm hne)];exact h1,h2⟩
theorem qfd {own:List (Nat×Blk N)}{id j:Nat}{b:Blk N}(hne:j≠id)(h:q53 own j):q53 (ins id b own) j:=by
 rcases h with⟨t,x,bs,h1⟩|⟨l,h1⟩|⟨kt,vt,es,h1⟩|⟨n,l,h1⟩
 ·exact .inl ⟨t,x,bs,by rw[q08,if_neg (Ne.symm hne)];exact h1⟩
 ·exact .inr (.inl ⟨l,by rw[q08,if_neg (Ne.symm hne)];exact h1⟩)
 ·exact .inr (.inr (.inl ⟨kt,vt,es,by rw[q08,if_neg (Ne.symm hne)];exact h1⟩))
 ·exact .inr (.inr (.inr ⟨n,l,by rw[q08,if_neg (Ne.symm hne)];exact h1⟩))
theorem qc4 {own:List (Nat×Blk N)}{j n:Nat}{t:Ty}(h:q5u own j n t):∃b,look own j=some b:=by
 obtain⟨e,xs,bs,p,h1,h2⟩:=h
 exact⟨_,h1⟩
theorem q6o {own:List (Nat×Blk N)}{j:Nat}(h:q53 own j):∃b,look own j=some b:=by
 rcases h with⟨t,x,bs,h1⟩|⟨l,h1⟩|⟨kt,vt,es,h1⟩|⟨n,l,h1⟩<;>exact⟨_,h1⟩
theorem qiu {own:List (Nat×Blk N)}{id:Nat}{b:Blk N}{V:Value}{H H':Nat}(hH:H<=H')(hV:∀g,q0j V=some g->H<=g){bs:List Nat}{g:Nat}
  (h:okb H own E bs g):okb H' (ins id b own) (qa7 E id V) bs g:=by
 refine⟨⟨Nat.lt_of_lt_of_le h.1.1 hH,h.1.2⟩,fun j hj hjb=>?_⟩
 by_cases hji:j=id
 ·subst hji
  rw[q06]
  intro hg
  have:=hV g hg
  have:=h.1.1
  omega
 ·rw[q13 _ _ hji]
  rw[q08,if_neg (Ne.symm hji)]at hj
  exact h.2 j hj hjb
theorem q28 {id:Nat}{b:Blk N}{V:Value}{own:List (Nat×Blk N)}(he:Ext w w')(hno:look own id=none)(hV:∀g,q0j V=some g->w.heap.size<=g){r:RV N}{v:Value}
  (h:q0a w own E r v):q0a w' (ins id b own) (qa7 E id V) r v:=
 q3c (fun _ _ _ _ _ hc=>he.cell hc) (fun _ _ _ hb=>qiu he.size hV hb)
  (fun j n t _ hj=>by
   have hne:j≠id:=fun e=>by subst e;obtain⟨b,hb⟩:=qc4 hj;rw[hno]at hb;cases hb
   exact⟨qfg hne hj,q13 _ _ hne⟩)
  (fun j _ hj=>by
   have hne:j≠id:=fun e=>by subst e;obtain⟨b,hb⟩:=q6o hj;rw[hno]at hb;cases hb
   exact⟨qfd hne hj,q13 _ _ hne⟩) h
theorem qqj {id j:Nat}{b b':Blk N}{V:Value}{own:List (Nat×Blk N)}(he:Ext w w')(hno:look own id=none)(hV:∀g,q0j V=some g->w.heap.size<=g)(hne:j≠id)
  (hb:∀g,q0j (E j)=some g->g<w.heap.size) (h:q4j w own E j b'):q4j w' (ins id b own) (qa7 E id V) j b':=by
 have hH:=he.size
 cases b' with
 |row e t xs bs p=>
  obtain⟨cells,h1,h2⟩:=h
  exact⟨cells,by rw[q13 _ _ hne];exact qnx he h1,q0p (fun x cs hx=>q09 (fun _ _ _ hc=>he.cell hc) (fun _ hb=>qiu hH hV hb) hx) h2⟩
 |whole t x bs=>
  obtain⟨g,T,arr,h1,h2,h3⟩:=h
  refine⟨g,T,arr,by rw[q13 _ _ hne];exact h1,?_,q09 (fun _ _ _ hc=>he.cell hc) (fun _ hb=>qiu hH hV hb) h3⟩
  rw[he.block g (Array.getElem?_eq_some_iff.1 h2).1]
  exact h2
 |cells l=>
  obtain⟨g,T,arr,h1,h2,h3,h4⟩:=h
  refine⟨g,T,arr,by rw[q13 _ _ hne];exact h1,?_,h3,fun i r u hr hu=>q28 he hno hV (h4 i r u hr hu)⟩
  rw[he.block g (Array.getElem?_eq_some_iff.1 h2).1]
  exact h2
 |mapB kt vt es=>
  obtain⟨g,arr,clock,h1,h2,h3⟩:=h
  refine⟨g,arr,clock,by rw[q13 _ _ hne];exact h1,?_,h3⟩
  rw[he.block g (Array.getElem?_eq_some_iff.1 h2).1]
  exact h2
 |vals n l=>
  obtain⟨arr,h1,h2,h3,h4⟩:=h
  exact⟨arr,by rw[q13 _ _ hne];exact h1,h2,h3,fun i r u hr hu=>q28 he hno hV (h4 i r u hr hu)⟩
theorem RelE.add (h:RelE io w0 σ E a w)(he:Ext w w'){id:Nat}(hno:look σ.own id=none){b:Blk N}{V:Value}(hV:∀g,q0j V=some g->w.heap.size<=g/\g<w'.heap.size)
  (hb:q4j w' (ins id b σ.own) (qa7 E id V) id b):RelE io w0 {σ with own:=ins id b σ.own} (qa7 E id V) a w' where
 kept:=h.kept.ext he
 size:=h.size
 defers:=h.defers
 regs:=fun t s hs=>q7u (fun _ _ hr=>q28 he hno (fun g hg=>(hV g hg).1) hr) (h.regs t s hs)
 own:=fun j b' hj=>by
  simp only at hj
  rw[q08]at hj
  by_cases hji:id=j
  ·subst hji
   rw[if_pos rfl]at hj
   cases hj
   exact hb
  ·rw[if_neg hji]at hj
   exact qqj he hno (fun g hg=>(hV g hg).1) (Ne.symm hji) (fun g hg=>(h.blk j b' hj g hg).1) (h.own j b' hj)
 blk:=fun j b' hj g hg=>by
  simp only at hj
  rw[q08]at hj
  by_cases hji:id=j
  ·subst hji
   rw[q06]at hg
   exact⟨(hV g hg).2,.inl (Nat.le_trans h.kept.size (hV g hg).1)⟩
  ·rw[if_neg hji]at hj
   rw[q13 _ _ (Ne.symm hji)]at hg
   exact⟨Nat.lt_of_lt_of_le (h.blk j b' hj g hg).1 he.size,(h.blk j b' hj g hg).2⟩
 sep:=fun i j b1 b2 h1 h2 hij g hg hg2=>by
  simp only at h1 h2
  rw[q08]at h1 h2
  by_cases hi:id=i
  ·subst hi
   rw[if_neg hij]at h2
   rw[q06]at hg
   rw[q13 _ _ (Ne.symm hij)]at hg2
   have:=(hV g hg).1
   have:=(h.blk j b2 h2 g hg2).1
   omega
  ·rw[if_neg hi]at h1
   rw[q13 _ _ (Ne.symm hi)]at hg
   by_cases hj:id=j
   ·subst hj
    rw[q06]at hg2
    have:=(hV g hg2).1
    have:=(h.blk i b1 h1 g hg).1
    omega
   ·rw[if_neg hj]at h2
    rw[q13 _ _ (Ne.symm hj)]at hg2
    exact h.sep i j b1 b2 h1 h2 hij g hg hg2
 sc:=h.sc
 nw:=h.nw
 fx:=fun i hi=>by
  obtain⟨b0,h1,h2,h3⟩:=h.fx i hi
  have hne:i≠id:=fun e=>by subst e;rw[hno]at h1;cases h1
  exact⟨b0,by simp only[q08,if_neg (Ne.symm hne)];exact h1,by rw[q13 _ _ hne];exact h2,h3⟩
end Go.Eng

set_option linter.unusedVariables false
namespace Go.Eng
variable {N:Names} {io:Io} {w0 w w':World} {σ:St N} {E:Env} {a:Act}
def RV.bs:RV N->List Nat
 |.data _ _ b=>b
 |.sptr _ _ b=>b
 |_=>[]
def RV.refs:RV N->List Nat
 |.own i=>[i]
 |.bptr i _=>[i]
 |.optr i _ _=>[i]
 |.osl i _ _=>[i]
 |.fn _ caps=>caps
 |.mp i=>[i]
 |_=>[]
def RV.mapBs (f:List Nat->List Nat):RV N->RV N
 |.data t x b=>.data t x (f b)
 |.sptr t x b=>.sptr t x (f b)
 |r=>r
def Slot.map (f:RV N->RV N):Slot N->Slot N
 |.one r=>.one (f r)
 |.tup l=>.tup (l.map f)
def Blk.bs:Blk N->List Nat
 |.row _ _ _ b _=>b
 |.whole _ _ b=>b
 |.cells l=>l.flatMap RV.bs
 |.mapB _ _ _=>[]
 |.vals _ l=>l.flatMap RV.bs
def Blk.refs:Blk N->List Nat
 |.cells l=>l.flatMap RV.refs
 |.vals _ l=>l.flatMap RV.refs
 |_=>[]
def Blk.map (f:RV N->RV N)(g:List Nat->List Nat):Blk N->Blk N
 |.row e t xs b p=>.row e t xs (g b) p
 |.whole t x b=>.whole t x (g b)
 |.cells l=>.cells (l.map f)
 |.mapB kt vt es=>.mapB kt vt es
 |.vals n l=>.vals n (l.map f)
def Blk.loc (b:Blk N):Prop:=(∃l,b=.cells l)\/∃n l,b=.vals n l
def q59 (f:Blk N->Blk N)(l:List (Nat×Blk N)):List (Nat×Blk N):=l.map fun p=>(p.1,f p.2)
def del {β:Type}(id:Nat):List (Nat×β)->List (Nat×β)
 |[]=>[]
 |(k,v)::r=>bif k==id then del id r else(k,v)::del id r
def q7q (id:Nat)(r:RV N):RV N:=bif r.bs.contains id then .undef else r
def qkt (id:Nat)(r:RV N):RV N:=bif r.bs.contains id||r.refs.contains id then .undef else r
theorem q1h {β:Type}(id:Nat):∀(l:List (Nat×β)) (j:Nat),look (del id l) j=if id=j then none else look l j
 |[],j=>by simp[del,look]
 | (k,v)::r,j=>by
  unfold del
  cases hk:(k==id)with
  | true=>
   have:k=id:=by simpa using hk
   subst this
   simp only[cT,q1h k r j,look]
   by_cases h:k=j
   ·simp[h]
   ·have:(k==j)=false:=by simpa using h
    simp[h,this]
  | false=>
   have hne:k≠id:=by simpa using hk
   simp only[cF,look,q1h id r j]
   cases hkj:(k==j)with
   |true=>
    have:k=j:=by simpa using hkj
    subst this
    simp[Ne.symm hne]
   |false=>simp
theorem q4q (f:Blk N->Blk N):∀(l:List (Nat×Blk N)) (j:Nat),look (q59 f l) j=(look l j).map f
 |[],j=>rfl
 |(k,v)::r,j=>by
  show look ((k,f v)::q59 f r) j=_
  simp only[look,q4q f r j]
  cases(k==j)<;>rfl
theorem q9m {own own':List (Nat×Blk N)}{E E':Env}{f:RV N->RV N}(h:∀r v,q0a w own E r v->q0a w' own' E' (f r) v){s:Slot N}{v:Value}(hs:q43 w own E s v):q43 w' own' E' (s.map f) v:=by
 cases s with
 |one r=>exact h r v hs
 |tup l=>
  obtain⟨vs,h1,h2,h3⟩:=hs
  refine⟨vs,h1,by simpa using h2,fun i r u hr hu=>?_⟩
  rw[List.getElem?_map]at hr
  obtain⟨r0,hr0,rfl⟩:=Option.map_eq_some_iff.1 hr
  exact h _ _ (h3 i r0 u hr0 hu)
theorem q07 {l:List Nat}{i:Nat}(h:l.contains i=false):i∉l:=by
 intro hm
 rw[List.contains_iff_mem.2 hm]at h
 cases h
theorem q2c {g:Option Nat}(hw:w.grownBy w' g){a:Addr}{u:Value}(hne:g≠some a.block)(hc:w.cell? a=some u):w'.cell? a=some u:=
 hw.cell hc (fun e=>hne e.symm)
theorem qqn {own:List (Nat×Blk N)}{id nid:Nat}{b b':Blk N}{V:Value}(hb:look own id=some b)(hw:w.grownBy w' (q0j (E id)))
  (hV:∀g,q0j V=some g->q0j (E id)=some g\/w.heap.size<=g) (hfresh:look (del id own) nid=none) {r:RV N} {v:Value} (h1:id∉r.bs) (h2:id∉r.refs)
  (h:q0a w own E r v):q0a w' (ins nid b' (del id own)) (qa7 E nid V) r v:=by
 have hok:∀bs,id∉bs->∀g,okb w.heap.size own E bs g->okb w'.heap.size (ins nid b' (del id own)) (qa7 E nid V) bs g:=by
  intro bs hbs g hg
  refine⟨⟨Nat.lt_of_lt_of_le hg.1.1 hw.size,hg.1.2⟩,fun j hj hjb=>?_⟩
  by_cases hjn:j=nid
  ·subst hjn
   rw[q06]
   intro hgv
   rcases hV g hgv with h3|h3
   ·exact hg.2 id (by rw[hb];rfl) hbs h3
   ·have:=hg.1.1
    omega
  ·rw[q13 _ _ hjn]
   rw[q08,if_neg (Ne.symm hjn),q1h]at hj
   by_cases hji:id=j
   ·rw[if_pos hji]at hj;cases hj
   ·rw[if_neg hji]at hj
    exact hg.2 j hj hjb
 have hcell:∀bs,id∉bs->∀(a:Addr) u,okb w.heap.size own E bs a.block->w.cell? a=some u->w'.cell? a=some u:=
  fun bs hbs a u hg hc=>q2c hw (hg.2 id (by rw[hb];rfl) hbs) hc
 have hne:∀j bj,look own j=some bj->j≠id->j≠nid:=by
  intro j bj hj hji e
  subst e
  rw[q1h,if_neg (Ne.symm hji),hj]at hfresh
  cases hfresh
 have hrow:∀j n t,j≠id->q5u own j n t->q5u (ins nid b' (del id own)) j n t/\qa7 E nid V j=E j:=by
  intro j n t hji hj
  have hjn:j≠nid:=by obtain⟨bj,hbj⟩:=qc4 hj;exact hne j bj hbj hji
  obtain⟨e,xs,bs,p,k1,k2⟩:=hj
  exact⟨qfg hjn ⟨e,xs,bs,p,by rw[q1h,if_neg (Ne.symm hji)];exact k1,k2⟩,q13 _ _ hjn⟩
 have hbox:∀j,j≠id->q53 own j->q53 (ins nid b' (del id own)) j/\qa7 E nid V j=E j:=by
  intro j hji hj
  have hjn:j≠nid:=by obtain⟨bj,hbj⟩:=q6o hj;exact hne j bj hbj hji
  refine⟨qfd hjn ?_,q13 _ _ hjn⟩
  rcases hj with⟨t,x,bs,k1⟩|⟨l,k1⟩|⟨kt,vt,es,k1⟩|⟨n,l,k1⟩
  ·exact .inl ⟨t,x,bs,by rw[q1h,if_neg (Ne.symm hji)];exact k1⟩
  ·exact .inr (.inl ⟨l,by rw[q1h,if_neg (Ne.symm hji)];exact k1⟩)
  ·exact .inr (.inr (.inl ⟨kt,vt,es,by rw[q1h,if_neg (Ne.symm hji)];exact k1⟩))
  ·exact .inr (.inr (.inr ⟨n,l,by rw[q1h,if_neg (Ne.symm hji)];exact k1⟩))
 refine q3c ?_ ?_ ?_ ?_ h
 ·intro bs hbs a u
  cases r<;>first|exact hbs.elim|(subst hbs;exact hcell _ h1 a u)
 ·intro bs hbs g
  cases r<;>first|exact hbs.elim|(subst hbs;exact hok _ h1 g)
 ·intro j n t hj hr
  cases r<;>first|exact hj.elim|(subst hj;exact hrow _ n t (fun e=>h2 (by simp[RV.refs,e])) hr)
 ·intro j hj hr
  cases r<;>first|exact hj.elim|(subst hj;exact hbox _ (fun e=>h2 (by simp[RV.refs,e])) hr)|exact hbox j (fun e=>h2 (by rw[<-e];exact hj)) hr
theorem qqm {own:List (Nat×Blk N)}{id nid:Nat}{b b':Blk N}{V:Value}(hb:look own id=some b)(hw:w.grownBy w' (q0j (E id)))
  (hV:∀g,q0j V=some g->q0j (E id)=some g\/w.heap.size<=g) (hfresh:look (del id own) nid=none) {r:RV N} {v:Value}
  (h:q0a w own E r v):q0a w' (ins nid b' (del id own)) (qa7 E nid V) (qkt id r) v:=by
 unfold qkt
 cases hc:(r.bs.contains id||r.refs.contains id)with
 |true=>trivial
 |false=>
  rw[Bool.or_eq_false_iff]at hc
  exact qqn hb hw hV hfresh (q07 hc.1) (q07 hc.2) h
def q6b (id:Nat)(b:Blk N):Blk N:=b.map (qkt id) (fun l=>l)
theorem RelE.replace (h:RelE io w0 σ E a w){id nid:Nat}{b b':Blk N}{V:Value}(hb:look σ.own id=some b)(hw:w.grownBy w' (q0j (E id)))
  (hV:∀g,q0j V=some g->(q0j (E id)=some g\/w.heap.size<=g)/\g<w'.heap.size) (hfresh:look (del id σ.own) nid=none) (hpin:b.pinned=false)
  (hno:∀j bj,look σ.own j=some bj->j≠id->bj.loc\/id∉bj.bs)
  (hb':q4j w' (ins nid b' (del id (q59 (q6b id) σ.own))) (qa7 E nid V) nid b'):
  RelE io w0 {regs:=σ.regs.map (Slot.map (qkt id)),own:=ins nid b' (del id (q59 (q6b id) σ.own))} (qa7 E nid V) a w':=by
 have hV1:∀g,q0j V=some g->q0j (E id)=some g\/w.heap.size<=g:=fun g hg=>(hV g hg).1
 -- the killed list names the same blocks
 have hlook:∀j,look (ins nid b' (del id (q59 (q6b id) σ.own))) j=if nid=j then some b' else if id=j then none else(look σ.own j).map (q6b id):=by
  intro j;rw[q08,q1h,q4q]
 have hlook':∀j,look (ins nid b' (del id σ.own)) j=if nid=j then some b' else if id=j then none else look σ.own j:=by
  intro j;rw[q08,q1h]
 have hsome:∀j,(look (ins nid b' (del id (q59 (q6b id) σ.own))) j).isSome=(look (ins nid b' (del id σ.own)) j).isSome:=by
  intro j
  rw[hlook,hlook']
  split
  ·rfl
  ·split
   ·rfl
   ·cases look σ.own j<;>rfl
 have hrowk:∀j n t,q5u (ins nid b' (del id σ.own)) j n t->q5u (ins nid b' (del id (q59 (q6b id) σ.own))) j n t:=by
  rintro j n t ⟨e,xs,bs,p,k1,k2⟩
  rw[hlook']at k1
  by_cases hj:nid=j
  ·rw[if_pos hj]at k1
   exact⟨e,xs,bs,p,by rw[hlook,if_pos hj];exact k1,k2⟩
  ·rw[if_neg hj]at k1
   by_cases hi:id=j
   ·rw[if_pos hi]at k1;cases k1
   ·rw[if_neg hi]at k1
    exact⟨e,xs,bs,p,by rw[hlook,if_neg hj,if_neg hi,k1];rfl,k2⟩
 have hboxk:∀j,q53 (ins nid b' (del id σ.own)) j->q53 (ins nid b' (del id (q59 (q6b id) σ.own))) j:=by
  rintro j hj
  by_cases hn:nid=j
  ·rcases hj with⟨t,x,bs,k1⟩|⟨l,k1⟩|⟨kt,vt,es,k1⟩|⟨n,l,k1⟩
   ·rw[hlook',if_pos hn]at k1
    exact .inl ⟨t,x,bs,by rw[hlook,if_pos hn];exact k1⟩
   ·rw[hlook',if_pos hn]at k1
    exact .inr (.inl ⟨l,by rw[hlook,if_pos hn];exact k1⟩)
   ·rw[hlook',if_pos hn]at k1
    exact .inr (.inr (.inl ⟨kt,vt,es,by rw[hlook,if_pos hn];exact k1⟩))
   ·rw[hlook',if_pos hn]at k1
    exact .inr (.inr (.inr ⟨n,l,by rw[hlook,if_pos hn];exact k1⟩))
  ·by_cases hi:id=j
   ·rcases hj with⟨t,x,bs,k1⟩|⟨l,k1⟩|⟨kt,vt,es,k1⟩|⟨n,l,k1⟩<;>(rw[hlook',if_neg hn,if_pos hi]at k1;cases k1)
   ·rcases hj with⟨t,x,bs,k1⟩|⟨l,k1⟩|⟨kt,vt,es,k1⟩|⟨n,l,k1⟩
    ·rw[hlook',if_neg hn,if_neg hi]at k1
     exact .inl ⟨t,x,bs,by rw[hlook,if_neg hn,if_neg hi,k1];rfl⟩
    ·rw[hlook',if_neg hn,if_neg hi]at k1
     exact .inr (.inl ⟨l.map (qkt id),by rw[hlook,if_neg hn,if_neg hi,k1];rfl⟩)
    ·rw[hlook',if_neg hn,if_neg hi]at k1
     exact .inr (.inr (.inl ⟨kt,vt,es,by rw[hlook,if_neg hn,if_neg hi,k1];rfl⟩))
    ·rw[hlook',if_neg hn,if_neg hi]at k1
     exact .inr (.inr (.inr ⟨n,l.map (qkt id),by rw[hlook,if_neg hn,if_neg hi,k1];rfl⟩))
 have hfin:∀r v,q0a w' (ins nid b' (del id σ.own)) (qa7 E nid V) r v->q0a w' (ins nid b' (del id (q59 (q6b id) σ.own))) (qa7 E nid V) r v:=by
  intro r v hr
  exact q3c (fun _ _ _ _ _ hc=>hc) (fun bs _ g hg=>⟨hg.1,fun j hj hjb=>hg.2 j (by rw[<-hsome];exact hj) hjb⟩) (fun j n t _ hj=>⟨hrowk j n t hj,rfl⟩) (fun j _ hj=>⟨hboxk j hj,rfl⟩) hr
 have hkill:∀r v,q0a w σ.own E r v->q0a w' (ins nid b' (del id (q59 (q6b id) σ.own))) (qa7 E nid V) (qkt id r) v:=
  fun r v hr=>hfin _ _ (qqm hb hw hV1 hfresh hr)
 have hok:∀bs,id∉bs->∀g,okb w.heap.size σ.own E bs g->okb w'.heap.size (ins nid b' (del id (q59 (q6b id) σ.own))) (qa7 E nid V) bs g:=by
  intro bs hbs g hg
  refine⟨⟨Nat.lt_of_lt_of_le hg.1.1 hw.size,hg.1.2⟩,fun j hj hjb=>?_⟩
  rw[hsome,hlook']at hj
  by_cases hjn:nid=j
  ·subst hjn
   rw[q06]
   intro hgv
   rcases hV1 g hgv with h3|h3
   ·exact hg.2 id (by rw[hb];rfl) hbs h3
   ·have:=hg.1.1
    omega
  ·rw[q13 _ _ (Ne.symm hjn)]
   rw[if_neg hjn]at hj
   by_cases hji:id=j
   ·rw[if_pos hji]at hj;cases hj
   ·rw[if_neg hji]at hj
    exact hg.2 j hj hjb
 have hcell:∀bs,id∉bs->∀(a:Addr) u,okb w.heap.size σ.own E bs a.block->w.cell? a=some u->w'.cell? a=some u:=
  fun bs hbs a u hg hc=>q2c hw (hg.2 id (by rw[hb];rfl) hbs) hc
 have hblock:∀j bj,look σ.own j=some bj->j≠id->∀g,q0j (E j)=some g->w'.heap[g]?=w.heap[g]?:=
  fun j bj hj hji g hg=>hw.block g (h.blk j bj hj g hg).1 (fun e=>h.sep j id bj b hj hb hji g hg e.symm)
 refine⟨?_,?_,h.defers,?_,?_,?_,?_,h.sc,h.nw,fun i hi=>by
  obtain⟨b0,h1,h2,h3⟩:=h.fx i hi
  have hne:i≠id:=fun e=>by subst e;rw[hb]at h1;cases h1;rw[hpin]at h3;cases h3
  have hnn:i≠nid:=fun e=>by subst e;rw[q1h,if_neg (Ne.symm hne),h1]at hfresh;cases hfresh
  refine⟨q6b id b0,by simp only[hlook,if_neg (Ne.symm hnn),if_neg (Ne.symm hne),h1];rfl,by rw[q13 _ _ hnn];exact h2,?_⟩
  cases b0<;>exact h3⟩
 ·refine⟨hw.os.trans h.kept.os,hw.tape.trans h.kept.tape,hw.output.trans h.kept.output,Nat.le_trans h.kept.size hw.size,fun g hg hi=>?_⟩
  rw[hw.block g (Nat.lt_of_lt_of_le hg h.kept.size) (fun e=>?_)]
  ·exact h.kept.block g hg hi
  ·rcases(h.blk id b hb g e.symm).2 with h3|h3
   ·omega
   ·exact hi h3
 ·simpa using h.size
 ·intro t s hs
  simp only[List.getElem?_map]at hs
  obtain⟨s0,hs0,rfl⟩:=Option.map_eq_some_iff.1 hs
  exact q9m hkill (h.regs t s0 hs0)
 ·intro j bj hj
  simp only at hj ⊢
  by_cases hjn:nid=j
  ·subst hjn
   rw[hlook,if_pos rfl]at hj
   cases hj
   exact hb'
  ·rw [hlook,if_neg hjn]at hj
   by_cases hji:id=j
   ·rw[if_pos hji]at hj;cases hj
   ·rw[if_neg hji]at hj
    obtain⟨b0,hb0,rfl⟩:=Option.map_eq_some_iff.1 hj
    have hold:=h.own j b0 hb0
    have hE:qa7 E nid V j=E j:=q13 _ _ (Ne.symm hjn)
    have hbk:=hblock j b0 hb0 (Ne.symm hji)
    cases b0 with
    | row e t xs bs p=>
     have hbs:id∉bs:=by
      rcases hno j _ hb0 (Ne.symm hji)with(⟨l,hl⟩|⟨n,l,hl⟩)|hl
      ·cases hl
      ·cases hl
      ·exact hl
     obtain⟨cells,k1,k2⟩:=hold
     refine⟨cells,?_,q0p (fun x cs hx=>q09 (hcell bs hbs) (hok bs hbs) hx) k2⟩
     rw[hE]
     refine⟨k1.1,?_⟩
     rcases k1.2 with hn|⟨g,cap,cur,T0,fz,hv,hg,rest⟩
     ·exact .inl hn
     ·refine .inr ⟨g,cap,cur,T0,fz,hv,?_,rest⟩
      rw[hbk g (by rw[hv];rfl)]
      exact hg
    | whole t x bs=>
     have hbs:id∉bs:=by
      rcases hno j _ hb0 (Ne.symm hji)with(⟨l,hl⟩|⟨n,l,hl⟩)|hl
      ·cases hl
      ·cases hl
      ·exact hl
     obtain⟨g,T,arr,k1,k2,k3⟩:=hold
     refine⟨g,T,arr,hE.trans k1,?_,q09 (hcell bs hbs) (hok bs hbs) k3⟩
     rw[hbk g (by rw[k1];rfl)]
     exact k2
    | cells l=>
     obtain⟨g,T,arr,k1,k2,k3,k4⟩:=hold
     refine⟨g,T,arr,hE.trans k1,?_,by simpa using k3,fun i r u hr hu=>?_⟩
     ·rw[hbk g (by rw[k1];rfl)]
      exact k2
     ·simp only[List.getElem?_map]at hr
      obtain⟨r0,hr0,rfl⟩:=Option.map_eq_some_iff.1 hr
      exact hkill _ _ (k4 i r0 u hr0 hu)
    |mapB kt vt es=>
     obtain⟨g,arr,clock,k1,k2,k3⟩:=hold
     refine⟨g,arr,clock,hE.trans k1,?_,k3⟩
     rw[hbk g (by rw[k1];rfl)]
     exact k2
    |vals n l=>
     obtain⟨arr,k1,k2,k3,k4⟩:=hold
     refine⟨arr,hE.trans k1,by simpa using k2,k3,fun i r u hr hu=>?_⟩
     simp only[List.getElem?_map]at hr
     obtain⟨r0,hr0,rfl⟩:=Option.map_eq_some_iff.1 hr
     exact hkill _ _ (k4 i r0 u hr0 hu)
 ·intro j bj hj g hg
  simp only at hj
  by_cases hjn:nid=j
  ·subst hjn
   rw[q06]at hg
   obtain⟨h3,h4⟩:=hV g hg
   refine⟨h4,?_⟩
   rcases h3 with h3|h3
   ·exact(h.blk id b hb g h3).2
   ·exact .inl (Nat.le_trans h.kept.size h3)
  ·rw[q13 _ _ (Ne.symm hjn)]at hg
   rw[hlook,if_neg hjn]at hj
   by_cases hji:id=j
   ·rw[if_pos hji]at hj;cases hj
   ·rw[if_neg hji]at hj
    obtain⟨b0,hb0,rfl⟩:=Option.map_eq_some_iff.1 hj
    exact⟨Nat.lt_of_lt_of_le (h.blk j b0 hb0 g hg).1 hw.size,(h.blk j b0 hb0 g hg).2⟩
 ·have key:∀j bj,look (ins nid b' (del id (q59 (q6b id) σ.own))) j=some bj->j≠nid->∃b0,look σ.own j=some b0/\j≠id:=by
   intro j bj hj hjn
   rw[hlook,if_neg (Ne.symm hjn)]at hj
   by_cases hji:id=j
   ·rw[if_pos hji]at hj;cases hj
   ·rw[if_neg hji]at hj
    obtain⟨b0,hb0,_⟩:=Option.map_eq_some_iff.1 hj
    exact⟨b0,hb0,Ne.symm hji⟩
  intro i j b1 b2 h1 h2 hij g hg hg2
  simp only at h1 h2
  by_cases hin:i=nid
  ·subst hin
   rw[q06]at hg
   have hjn:j≠i:=Ne.symm hij
   rw[q13 _ _ hjn]at hg2
   obtain⟨b0,hb0,hji⟩:=key j b2 h2 hjn
   rcases(hV g hg).1 with h3|h3
   ·exact h.sep id j b b0 hb hb0 (Ne.symm hji) g h3 hg2
   ·have:=(h.blk j b0 hb0 g hg2).1
    omega
  ·obtain⟨b0,hb0,hii⟩:=key i b1 h1 hin
   rw[q13 _ _ hin]at hg
   by_cases hjn:j=nid
   ·subst hjn
    rw[q06]at hg2
    rcases(hV g hg2).1 with h3|h3
    ·exact h.sep i id b0 b hb0 hb hii g hg h3
    ·have:=(h.blk i b0 hb0 g hg).1
     omega
   ·obtain⟨b3,hb3,hjj⟩:=key j b2 h2 hjn
    rw[q13 _ _ hjn]at hg2
    exact h.sep i j b0 b3 hb0 hb3 hij g hg hg2
end Go.Eng

set_option linter.unusedVariables false
namespace Go.Eng
variable {N:Names} {io:Io} {w0 w w':World} {σ:St N} {E:Env} {a:Act}
def q5r:Blk N->Blk N->Prop
 |.row e t xs _ _,.row e' t' xs' _ _=>t=t'/\xs.length=xs'.length
 |.row ..,_=>False
 |_,.row .. =>False
 |_,_=>True
theorem qfh {own:List (Nat×Blk N)}{id:Nat}{b b':Blk N}(hb:look own id=some b)(hs:q5r b b'){j n:Nat}{t:Ty}(h:q5u own j n t):q5u (ins id b' own) j n t:=by
 by_cases hj:j=id
 ·subst hj
  obtain⟨e,xs,bs,p,k1,k2⟩:=h
  rw[hb]at k1
  cases k1
  cases b' with
  |row e' t' xs' bs' p'=>
   obtain⟨rfl,hl⟩:=hs
   exact⟨e',xs',bs',p',by rw[q08,if_pos rfl],by omega⟩
  |whole t x bs=>exact hs.elim
  |cells l=>exact hs.elim
  |mapB kt vt es=>exact hs.elim
  |vals n l=>exact hs.elim
 ·exact qfg hj h
theorem qfe {own:List (Nat×Blk N)}{id:Nat}{b b':Blk N}(hb:look own id=some b)(hs:q5r b b'){j:Nat}(h:q53 own j):q53 (ins id b' own) j:=by
 by_cases hj:j=id
 ·subst hj
  have hl:look (ins j b' own) j=some b':=by rw[q08,if_pos rfl]
  cases b' with
  |row e' t' xs' bs' p'=>
   rcases h with⟨t,x,bs,k1⟩|⟨l,k1⟩|⟨kt,vt,es,k1⟩|⟨n,l,k1⟩<;>(rw[hb]at k1;cases k1;exact hs.elim)
  |whole t x bs=>exact .inl ⟨t,x,bs,hl⟩
  |cells l=>exact .inr (.inl ⟨l,hl⟩)
  |mapB kt vt es=>exact .inr (.inr (.inl ⟨kt,vt,es,hl⟩))
  |vals n l=>exact .inr (.inr (.inr ⟨n,l,hl⟩))
 ·exact qfd hj h
theorem RelE.store (h:RelE io w0 σ E a w){id:Nat}{b b':Blk N}(hb:look σ.own id=some b)(hs:q5r b b')(hpin:b.pinned=true->b'.pinned=true)(hw:w.grownBy w' (q0j (E id)))
  (hno:∀j bj,look σ.own j=some bj->j≠id->id∉bj.bs) (hb':q4j w' (ins id b' σ.own) E id b'):
  RelE io w0 {regs:=σ.regs.map (Slot.map (q7q id)),own:=ins id b' σ.own} E a w':=by
 have hsome:∀j,(look (ins id b' σ.own) j).isSome=(look σ.own j).isSome:=by
  intro j
  rw[q08]
  split
  ·rename_i e;subst e;rw[hb];rfl
  ·rfl
 have hok:∀bs g,okb w.heap.size σ.own E bs g->okb w'.heap.size (ins id b' σ.own) E bs g:=fun bs g hg=>
  ⟨⟨Nat.lt_of_lt_of_le hg.1.1 hw.size,hg.1.2⟩,fun j hj hjb=>hg.2 j (by rw[<-hsome];exact hj) hjb⟩
 have hcell:∀bs,id∉bs->∀(a:Addr) u,okb w.heap.size σ.own E bs a.block->w.cell? a=some u->w'.cell? a=some u:=
  fun bs hbs a u hg hc=>q2c hw (hg.2 id (by rw[hb];rfl) hbs) hc
 have hrv:∀r v,id∉r.bs->q0a w σ.own E r v->q0a w' (ins id b' σ.own) E r v:=by
  intro r v hr h
  refine q3c ?_ ?_ (fun j n t _ hj=>⟨qfh hb hs hj,rfl⟩) (fun j _ hj=>⟨qfe hb hs hj,rfl⟩) h
  ·intro bs hbs a u
   cases r<;>first|exact hbs.elim|(subst hbs;exact hcell _ hr a u)
  ·intro bs hbs g
   exact hok bs g
 have hscrub:∀r v,q0a w σ.own E r v->q0a w' (ins id b' σ.own) E (q7q id r) v:=by
  intro r v h
  unfold q7q
  cases hc:r.bs.contains id with
  |true=>trivial
  |false=>exact hrv r v (q07 hc) h
 have hblock:∀j bj,look σ.own j=some bj->j≠id->∀g,q0j (E j)=some g->w'.heap[g]?=w.heap[g]?:=
  fun j bj hj hji g hg=>hw.block g (h.blk j bj hj g hg).1 (fun e=>h.sep j id bj b hj hb hji g hg e.symm)
 have key:∀j bj,look (ins id b' σ.own) j=some bj->∃b0,look σ.own j=some b0:=by
  intro j bj hj
  have:=hsome j
  rw[hj]at this
  cases hl:look σ.own j with
  |none=>rw[hl]at this;cases this
  |some b0=>exact⟨b0,rfl⟩
 refine⟨?_,by simpa using h.size,h.defers,?_,?_,?_,?_,h.sc,h.nw,fun i hi=>by
  obtain⟨b0,h1,h2,h3⟩:=h.fx i hi
  by_cases hne:id=i
  ·subst hne
   rw[hb]at h1
   cases h1
   exact⟨b',by simp only[q08,if_true],h2,hpin h3⟩
  ·exact⟨b0,by simp only[q08,if_neg hne];exact h1,h2,h3⟩⟩
 ·refine⟨hw.os.trans h.kept.os,hw.tape.trans h.kept.tape,hw.output.trans h.kept.output,Nat.le_trans h.kept.size hw.size,fun g hg hi=>?_⟩
  rw[hw.block g (Nat.lt_of_lt_of_le hg h.kept.size) (fun e=>?_)]
  ·exact h.kept.block g hg hi
  ·rcases(h.blk id b hb g e.symm).2 with h3|h3
   ·omega
   ·exact hi h3
 ·intro t s hs'
  simp only[List.getElem?_map]at hs'
  obtain⟨s0,hs0,rfl⟩:=Option.map_eq_some_iff.1 hs'
  exact q9m hscrub (h.regs t s0 hs0)
 ·intro j bj hj
  simp only at hj ⊢
  by_cases hji:id=j
  ·subst hji
   rw[q08,if_pos rfl]at hj
   cases hj
   exact hb'
  ·rw[q08,if_neg hji]at hj
   have hbs:=hno j bj hj (Ne.symm hji)
   have hbk:=hblock j bj hj (Ne.symm hji)
   have hold:=h.own j bj hj
   cases bj with
   | row e t xs bs p=>
    obtain⟨cells,k1,k2⟩:=hold
    refine⟨cells,⟨k1.1,?_⟩,q0p (fun x cs hx=>q09 (hcell bs hbs) (hok bs) hx) k2⟩
    rcases k1.2 with hn|⟨g,cap,cur,T0,fz,hv,hg,rest⟩
    ·exact .inl hn
    ·refine .inr ⟨g,cap,cur,T0,fz,hv,?_,rest⟩
     rw[hbk g (by rw[hv];rfl)]
     exact hg
   |whole t x bs=>
    obtain⟨g,T,arr,k1,k2,k3⟩:=hold
    refine⟨g,T,arr,k1,?_,q09 (hcell bs hbs) (hok bs) k3⟩
    rw[hbk g (by rw[k1];rfl)]
    exact k2
   | cells l=>
    obtain⟨g,T,arr,k1,k2,k3,k4⟩:=hold
    refine⟨g,T,arr,k1,?_,k3,fun i r u hr hu=>hrv r u (fun hm=>hbs ?_) (k4 i r u hr hu)⟩
    ·rw[hbk g (by rw[k1];rfl)]
     exact k2
    ·exact List.mem_flatMap.2 ⟨r,List.mem_of_getElem? hr,hm⟩
   |mapB kt vt es=>
    obtain⟨g,arr,clock,k1,k2,k3⟩:=hold
    refine⟨g,arr,clock,k1,?_,k3⟩
    rw[hbk g (by rw[k1];rfl)]
    exact k2
   |vals n l=>
    obtain⟨arr,k1,k2,k3,k4⟩:=hold
    refine⟨arr,k1,k2,k3,fun i r u hr hu=>hrv r u (fun hm=>hbs ?_) (k4 i r u hr hu)⟩
    exact List.mem_flatMap.2 ⟨r,List.mem_of_getElem? hr,hm⟩
 ·intro j bj hj g hg
  obtain⟨b0,hb0⟩:=key j bj hj
  exact⟨Nat.lt_of_lt_of_le (h.blk j b0 hb0 g hg).1 hw.size,(h.blk j b0 hb0 g hg).2⟩
 ·intro i j b1 b2 h1 h2 hij g hg
  obtain⟨b3,hb3⟩:=key i b1 h1
  obtain⟨b4,hb4⟩:=key j b2 h2
  exact h.sep i j b3 b4 hb3 hb4 hij g hg
theorem RelE.remap (h:RelE io w0 σ E a w){f:RV N->RV N}{g:List Nat->List Nat}{own':List (Nat×Blk N)}{E':Env}(hA:E'.A=E.A)(hfx:∀i∈io.ids,∀b,look σ.own i=some b->look own' i=some (b.map f g)/\E' i=E i)(back:Nat->Nat)
  (hback:∀j b',look own' j=some b'->∃b,look σ.own (back j)=some b/\b'=b.map f g/\E' j=E (back j))
  (hinj:∀i j b1 b2,look own' i=some b1->look own' j=some b2->i≠j->back i≠back j)
  (hok:∀bs b,okb w.heap.size σ.own E bs b->okb w.heap.size own' E' (g bs) b)
  (hf:∀r v,(∃(t:Nat) (s:Slot N),σ.regs[t]?=some s/\(s=Slot.one r\/∃l,s=Slot.tup l/\r∈l))\/(∃j l,(look σ.own j=some (.cells l)\/∃n,look σ.own j=some (.vals n l))/\r∈l)->q0a w σ.own E r v->q0a w own' E' (f r) v):
  RelE io w0 {regs:=σ.regs.map (Slot.map f),own:=own'} E' a w:=by
 refine⟨h.kept,by simpa using h.size,h.defers,?_,?_,?_,?_,hA.trans h.sc,h.nw,fun i hi=>by
  obtain⟨b0,h1,h2,h3⟩:=h.fx i hi
  obtain⟨h4,h5⟩:=hfx i hi b0 h1
  refine⟨b0.map f g,h4,h5.trans h2,?_⟩
  cases b0<;>exact h3⟩
 ·intro t s hs
  simp only[List.getElem?_map]at hs
  obtain⟨s0,hs0,rfl⟩:=Option.map_eq_some_iff.1 hs
  have h0:=h.regs t s0 hs0
  cases s0 with
  |one r=>exact hf r _ (.inl ⟨t,_,hs0,.inl rfl⟩) h0
  |tup l=>
   obtain⟨vs,h1,h2,h3⟩:=h0
   refine⟨vs,h1,by simpa using h2,fun i r u hr hu=>?_⟩
   rw[List.getElem?_map]at hr
   obtain⟨r0,hr0,rfl⟩:=Option.map_eq_some_iff.1 hr
   exact hf _ _ (.inl ⟨t,_,hs0,.inr ⟨l,rfl,List.mem_of_getElem? hr0⟩⟩) (h3 i r0 u hr0 hu)
 ·intro j b' hj
  obtain⟨b,hb,rfl,hE⟩:=hback j b' hj
  have hold:=h.own (back j) b hb
  cases b with
  |row e t xs bs p=>
   obtain⟨cells,k1,k2⟩:=hold
   exact⟨cells,by rw[hE];exact k1,q0p (fun x cs hx=>q09 (fun _ _ _ h=>h) (hok bs) hx) k2⟩
  |whole t x bs=>
   obtain⟨g',T,arr,k1,k2,k3⟩:=hold
   exact⟨g',T,arr,hE.trans k1,k2,q09 (fun _ _ _ h=>h) (hok bs) k3⟩
  |cells l=>
   obtain⟨g',T,arr,k1,k2,k3,k4⟩:=hold
   refine⟨g',T,arr,hE.trans k1,k2,by simpa using k3,fun i r u hr hu=>?_⟩
   simp only[List.getElem?_map]at hr
   obtain⟨r0,hr0,rfl⟩:=Option.map_eq_some_iff.1 hr
   exact hf _ _ (.inr ⟨back j,l,.inl hb,List.mem_of_getElem? hr0⟩) (k4 i r0 u hr0 hu)
  |mapB kt vt es=>
   obtain⟨g',arr,clock,k1,k2,k3⟩:=hold
   exact⟨g',arr,clock,hE.trans k1,k2,k3⟩
  |vals n l=>
   obtain⟨arr,k1,k2,k3,k4⟩:=hold
   refine⟨arr,hE.trans k1,by simpa using k2,k3,fun i r u hr hu=>?_⟩
   simp only[List.getElem?_map]at hr
   obtain⟨r0,hr0,rfl⟩:=Option.map_eq_some_iff.1 hr
   exact hf _ _ (.inr ⟨back j,l,.inr ⟨n,hb⟩,List.mem_of_getElem? hr0⟩) (k4 i r0 u hr0 hu)
 ·intro j b' hj g' hg
  obtain⟨b,hb,_,hE⟩:=hback j b' hj
  rw[hE]at hg
  exact h.blk (back j) b hb g' hg
 ·intro i j b1 b2 h1 h2 hij g' hg hg2
  obtain⟨b3,hb3,_,hE3⟩:=hback i b1 h1
  obtain⟨b4,hb4,_,hE4⟩:=hback j b2 h2
  rw[hE3]at hg
  rw[hE4]at hg2
  exact h.sep (back i) (back j) b3 b4 hb3 hb4 (hinj i j b1 b2 h1 h2 hij) g' hg hg2
def forgetTo (keep:List Nat):Nat->List (Slot N)->List (Slot N)
 |_,[]=>[]
 |i,s::r=>(bif keep.contains i then s else .one .undef)::forgetTo keep (i+1) r
theorem qcv (keep:List Nat):∀(l:List (Slot N)) (i t:Nat) s,(forgetTo keep i l)[t]?=some s->l[t]?=some s\/(s=.one .undef/\t<l.length)
 |[],i,t,s,h=>by simp[forgetTo]at h
 |x::r,i,0,s,h=>by
  simp only[forgetTo,List.getElem?_cons_zero,Option.some.injEq]at h
  cases hk:keep.contains i with
  |true=>rw[hk]at h;exact .inl (by simpa using h)
  |false=>rw[hk]at h;exact .inr ⟨h.symm,by simp⟩
 |x::r,i,t+1,s,h=>by
  simp only[forgetTo,List.getElem?_cons_succ]at h
  rcases qcv keep r (i+1) t s h with h|⟨h,hl⟩
  ·exact .inl (by simpa using h)
  ·exact .inr ⟨h,by simpa using hl⟩
theorem q8e (keep:List Nat):∀(l:List (Slot N)) (i:Nat),(forgetTo keep i l).length=l.length
 |[],i=>rfl
 |x::r,i=>by simp[forgetTo,q8e keep r (i+1)]
theorem RelE.forgetTo (h:RelE io w0 σ E a w)(keep:List Nat):RelE io w0 {σ with regs:=forgetTo keep 0 σ.regs} E a w:=by
 refine⟨h.kept,by simpa[q8e]using h.size,h.defers,?_,h.own,h.blk,h.sep,h.sc,h.nw,h.fx⟩
 intro t s hs
 rcases qcv keep σ.regs 0 t s hs with h1|⟨rfl,_⟩
 ·exact h.regs t s h1
 ·trivial
/-! Dropping and renaming. -/
def er (id:Nat)(l:List Nat):List Nat:=l.filter fun i=>!(i==id)
def Slot.refs:Slot N->List Nat
 |.one r=>r.refs
 |.tup l=>l.flatMap RV.refs
def ql8 (σ:St N):List Nat:=σ.regs.flatMap Slot.refs++σ.own.flatMap fun p=>p.2.refs
def dropOne (pins:List Nat)(id:Nat)(σ:St N):St N:=
 bif pins.contains id||(ql8 σ).contains id then σ else{regs:=σ.regs.map (Slot.map (RV.mapBs (er id))),own:=del id (q59 (Blk.map (RV.mapBs (er id)) (er id)) σ.own)}
theorem q3t {β:Type}:∀{l:List (Nat×β)} {j:Nat} {b:β},look l j=some b->(j,b)∈l
 |[],_,_,h=>by cases h
 | (k,v)::r,j,b,h=>by
  unfold look at h
  cases hk:(k==j)with
  |true=>
   rw[hk]at h
   have:k=j:=by simpa using hk
   subst this
   cases h
   exact mS
  |false=>
   rw[hk]at h
   exact mC _ (q3t h)
theorem qr7 {id:Nat}{r:RV N}(h:(∃(t:Nat) (s:Slot N),σ.regs[t]?=some s/\(s=Slot.one r\/∃l,s=Slot.tup l/\r∈l))\/(∃j l,(look σ.own j=some (.cells l)\/∃n,look σ.own j=some (.vals n l))/\r∈l))(hr:id∈r.refs):id∈ql8 σ:=by
 unfold ql8
 rw[mA]
 rcases h with⟨t,s,hs,h⟩|⟨j,l,hj,h⟩
 ·refine .inl (List.mem_flatMap.2 ⟨s,List.mem_of_getElem? hs,?_⟩)
  rcases h with rfl|⟨l,rfl,h⟩
  ·exact hr
  ·exact List.mem_flatMap.2 ⟨r,h,hr⟩
 ·rcases hj with hj|⟨n,hj⟩<;>exact .inr (List.mem_flatMap.2 ⟨_,q3t hj,List.mem_flatMap.2 ⟨r,h,hr⟩⟩)
theorem RelE.dropOne (h:RelE io w0 σ E a w)(id:Nat):RelE io w0 (dropOne io.ids id σ) E a w:=by
 unfold Eng.dropOne
 cases hc:(io.ids.contains id||(ql8 σ).contains id)with
 |true=>exact h
 | false=>
  rw[Bool.or_eq_false_iff]at hc
  have hno:=q07 hc.2
  have hnp:=q07 hc.1
  have hlook:∀j,look (del id (q59 (Blk.map (RV.mapBs (er id)) (er id)) σ.own)) j=if id=j then none else(look σ.own j).map (Blk.map (RV.mapBs (er id)) (er id)):=by
   intro j;rw[q1h,q4q]
  have hok:∀bs b,okb w.heap.size σ.own E bs b->okb w.heap.size (del id (q59 (Blk.map (RV.mapBs (er id)) (er id)) σ.own)) E (er id bs) b:=by
   intro bs b hb
   refine⟨hb.1,fun j hj hjb=>?_⟩
   rw[hlook]at hj
   by_cases hji:id=j
   ·rw[if_pos hji]at hj;cases hj
   ·rw[if_neg hji]at hj
    refine hb.2 j (by cases hl:look σ.own j with|none=>rw[hl]at hj;cases hj|some _=>rfl) (fun hm=>hjb ?_)
    exact List.mem_filter.2 ⟨hm,by simpa using Ne.symm hji⟩
  refine h.remap (f:=RV.mapBs (er id)) (g:=er id) rfl (fun i hi b hb=>⟨by rw[hlook,if_neg (fun e:id=i=>hnp (e▸hi)),hb];rfl,rfl⟩) (fun j=>j) ?_ (fun i j _ _ _ _ hij=>hij) hok ?_
  ·intro j b' hj
   rw[hlook]at hj
   by_cases hji:id=j
   ·rw[if_pos hji]at hj;cases hj
   ·rw[if_neg hji]at hj
    obtain⟨b,hb,rfl⟩:=Option.map_eq_some_iff.1 hj
    exact⟨b,hb,rfl,rfl⟩
  ·intro r v hocc hr
   have hnr:id∉r.refs:=fun hm=>hno (qr7 hocc hm)
   have hrow:∀j n t,id≠j->q5u σ.own j n t->q5u (del id (q59 (Blk.map (RV.mapBs (er id)) (er id)) σ.own)) j n t:=by
    rintro j n t hne ⟨e,xs,bs,p,k1,k2⟩
    exact⟨e,xs,er id bs,p,by rw[hlook,if_neg hne,k1];rfl,k2⟩
   have hbox:∀j,id≠j->q53 σ.own j->q53 (del id (q59 (Blk.map (RV.mapBs (er id)) (er id)) σ.own)) j:=by
    rintro j hne (⟨t,x,bs,k1⟩|⟨l,k1⟩|⟨kt,vt,es,k1⟩|⟨n,l,k1⟩)
    ·exact .inl ⟨t,x,er id bs,by rw[hlook,if_neg hne,k1];rfl⟩
    ·exact .inr (.inl ⟨l.map (RV.mapBs (er id)),by rw[hlook,if_neg hne,k1];rfl⟩)
    ·exact .inr (.inr (.inl ⟨kt,vt,es,by rw[hlook,if_neg hne,k1];rfl⟩))
    ·exact .inr (.inr (.inr ⟨n,l.map (RV.mapBs (er id)),by rw[hlook,if_neg hne,k1];rfl⟩))
   cases r with
   |undef=>trivial
   |nil=>exact hr
   |int k n=>exact hr
   |bool b=>exact hr
   |str l=>exact hr
   |nilf=>exact hr
   |data t x bs=>
    obtain⟨cs,h1,h2⟩:=hr
    exact⟨cs,q09 (fun _ _ _ h=>h) (hok bs) h1,h2⟩
   |own j=>
    obtain⟨rfl,n,t,h1⟩:=hr
    exact⟨rfl,n,t,hrow j n t (fun e=>hnr (by simp[RV.refs,e])) h1⟩
   |bptr j off=>
    obtain⟨h1,h2⟩:=hr
    exact⟨hbox j (fun e=>hnr (by simp[RV.refs,e])) h1,h2⟩
   |sptr t x bs=>
    obtain⟨ad,cs,h1,h2,h3,h4⟩:=hr
    exact⟨ad,cs,h1,hok bs _ h2,q09 (fun _ _ _ h=>h) (hok bs) h3,h4⟩
   |optr j i off=>
    obtain⟨g,cap,n,t,h1,h2⟩:=hr
    exact⟨g,cap,n,t,hrow j n t (fun e=>hnr (by simp[RV.refs,e])) h1,h2⟩
   |osl j lo k=>
    obtain⟨g,cap,n,t,h1,h2⟩:=hr
    exact⟨g,cap,n,t,hrow j n t (fun e=>hnr (by simp[RV.refs,e])) h1,h2⟩
   |fn f caps=>
    obtain⟨h1,h2⟩:=hr
    exact⟨h1,fun j hj=>⟨hbox j (fun e=>hnr (by rw[RV.refs,e];exact hj)) (h2 j hj).1,(h2 j hj).2⟩⟩
   |mp j=>
    obtain⟨h1,h2⟩:=hr
    exact⟨hbox j (fun e=>hnr (by simp[RV.refs,e])) h1,h2⟩
def rn (i j k:Nat):Nat:=bif k==i then j else k
def RV.ren (i j:Nat):RV N->RV N
 |.data t x b=>.data t x (b.map (rn i j))
 |.sptr t x b=>.sptr t x (b.map (rn i j))
 |.own k=>.own (rn i j k)
 |.bptr k o=>.bptr (rn i j k) o
 |.optr k n o=>.optr (rn i j k) n o
 |.osl k lo n=>.osl (rn i j k) lo n
 |.fn f caps=>.fn f (caps.map (rn i j))
 |.mp k=>.mp (rn i j k)
 |r=>r
def renOne (pins:List Nat)(i j:Nat)(σ:St N):St N:=
 bif pins.contains i then σ else match look σ.own i,look σ.own j with
 |some b,none=>{regs:=σ.regs.map (Slot.map (RV.ren i j)),own:=ins j (b.map (RV.ren i j) (List.map (rn i j))) (del i (q59 (Blk.map (RV.ren i j) (List.map (rn i j))) σ.own))}
 |_,_=>σ
theorem RelE.renOne (h:RelE io w0 σ E a w)(i j:Nat):∃E',RelE io w0 (renOne io.ids i j σ) E' a w:=by
 unfold Eng.renOne
 cases hpi:io.ids.contains i with
 |true=>exact⟨E,h⟩
 |false=>
 have hnp:=q07 hpi
 simp only[cF]
 split
 ·rename_i b hi hj
  have hij:i≠j:=fun e=>by subst e;rw[hi]at hj;cases hj
  refine⟨qa7 E j (E i),?_⟩
  have hlook:∀k,look (ins j (b.map (RV.ren i j) (List.map (rn i j))) (del i (q59 (Blk.map (RV.ren i j) (List.map (rn i j))) σ.own))) k=
    if j=k then some (b.map (RV.ren i j) (List.map (rn i j)))else if i=k then none else(look σ.own k).map (Blk.map (RV.ren i j) (List.map (rn i j))):=by
   intro k;rw[q08,q1h,q4q]
  have hok:∀bs g,okb w.heap.size σ.own E bs g->okb w.heap.size (ins j (b.map (RV.ren i j) (List.map (rn i j))) (del i (q59 (Blk.map (RV.ren i j) (List.map (rn i j))) σ.own))) (qa7 E j (E i)) (bs.map (rn i j)) g:=by
   intro bs g hg
   refine⟨hg.1,fun k hk hkb=>?_⟩
   rw[hlook]at hk
   by_cases hjk:j=k
   ·subst hjk
    rw[q06]
    refine hg.2 i (by rw[hi];rfl) (fun hm=>hkb (List.mem_map.2 ⟨i,hm,by simp[rn]⟩))
   ·rw[q13 _ _ (Ne.symm hjk)]
    rw[if_neg hjk]at hk
    by_cases hik:i=k
    ·rw[if_pos hik]at hk;cases hk
    ·rw[if_neg hik]at hk
     refine hg.2 k (by cases hl:look σ.own k with|none=>rw[hl]at hk;cases hk|some _=>rfl) (fun hm=>hkb (List.mem_map.2 ⟨k,hm,?_⟩))
     have:(k==i)=false:=by simpa using Ne.symm hik
     simp[rn,this]
  have hE:∀k,k≠j->qa7 E j (E i) (rn i j k)=E k:=by
   intro k hk
   unfold rn
   cases hki:(k==i)with
   |true=>
        have:k=i:=by simpa using hki
        subst this
        exact q06 _ _ _
   |false=>exact q13 _ _ hk
  have hrow:∀k n t,q5u σ.own k n t->q5u (ins j (b.map (RV.ren i j) (List.map (rn i j))) (del i (q59 (Blk.map (RV.ren i j) (List.map (rn i j))) σ.own))) (rn i j k) n t/\k≠j:=by
   rintro k n t ⟨e,xs,bs,p,k1,k2⟩
   have hkj:k≠j:=fun e=>by subst e;rw[hj]at k1;cases k1
   refine⟨⟨e,xs,bs.map (rn i j),p,?_,k2⟩,hkj⟩
   rw[hlook]
   unfold rn
   cases hki:(k==i)with
   |true=>
    have:k=i:=by simpa using hki
    subst this
    rw[hi]at k1
    cases k1
    simp only[cT,if_true]
    rfl
   |false=>
    have hki':k≠i:=by simpa using hki
    simp only[cF,if_neg (Ne.symm hkj),if_neg (Ne.symm hki'),k1]
    rfl
  have hbox:∀k,q53 σ.own k->q53 (ins j (b.map (RV.ren i j) (List.map (rn i j))) (del i (q59 (Blk.map (RV.ren i j) (List.map (rn i j))) σ.own))) (rn i j k)/\k≠j:=by
   intro k hk
   obtain⟨bk,hbk⟩:=q6o hk
   have hkj:k≠j:=fun e=>by subst e;rw[hj]at hbk;cases hbk
   refine⟨?_,hkj⟩
   have hl:look (ins j (b.map (RV.ren i j) (List.map (rn i j))) (del i (q59 (Blk.map (RV.ren i j) (List.map (rn i j))) σ.own))) (rn i j k)=some (bk.map (RV.ren i j) (List.map (rn i j))):=by
    rw[hlook]
    unfold rn
    cases hki:(k==i)with
    |true=>
     have:k=i:=by simpa using hki
     subst this
     rw[hi]at hbk
     cases hbk
     simp
    |false=>
     have hki':k≠i:=by simpa using hki
     simp only[cF,if_neg (Ne.symm hkj),if_neg (Ne.symm hki'),hbk]
     rfl
   rcases hk with⟨t,x,bs,k1⟩|⟨l,k1⟩|⟨kt,vt,es,k1⟩|⟨n,l,k1⟩
   ·rw[k1]at hbk;cases hbk
    exact .inl ⟨t,x,_,hl⟩
   ·rw[k1]at hbk;cases hbk
    exact .inr (.inl ⟨_,hl⟩)
   ·rw[k1]at hbk;cases hbk
    exact .inr (.inr (.inl ⟨kt,vt,es,hl⟩))
   ·rw[k1]at hbk;cases hbk
    exact .inr (.inr (.inr ⟨_,_,hl⟩))
  refine h.remap (f:=RV.ren i j) (g:=List.map (rn i j)) rfl (fun m hm b0 hb0=>by
   have h1:m≠i:=fun e:m=i=>hnp (e▸hm)
   have h2:m≠j:=fun e=>by subst e;rw[hj]at hb0;cases hb0
   exact⟨by rw[hlook,if_neg (Ne.symm h2),if_neg (Ne.symm h1),hb0];rfl,q13 _ _ h2⟩) (fun k=>if j=k then i else k) ?_ ?_ hok ?_
  ·intro k b' hk
   rw[hlook]at hk
   by_cases hjk:j=k
   ·subst hjk
    rw[if_pos rfl]at hk
    cases hk
    exact⟨b,by simpa using hi,rfl,by simp[q06]⟩
   ·rw[if_neg hjk]at hk
    by_cases hik:i=k
    ·rw[if_pos hik]at hk;cases hk
    ·rw[if_neg hik]at hk
     obtain⟨b0,hb0,rfl⟩:=Option.map_eq_some_iff.1 hk
     exact⟨b0,by simpa[hjk]using hb0,rfl,by simp[hjk,q13 _ _ (Ne.symm hjk)]⟩
  ·intro k l b1 b2 h1 h2 hkl
   have key:∀k b1,look (ins j (b.map (RV.ren i j) (List.map (rn i j))) (del i (q59 (Blk.map (RV.ren i j) (List.map (rn i j))) σ.own))) k=some b1->k≠i:=by
    intro k b1 h1 e
    subst e
    rw[hlook,if_neg (Ne.symm hij),if_pos rfl]at h1
    cases h1
   have hk:=key k b1 h1
   have hl:=key l b2 h2
   show(if j=k then i else k)≠(if j=l then i else l)
   split<;>split
   ·omega
   ·exact Ne.symm hl
   ·exact hk
   ·exact hkl
  ·intro r v _ hr
   cases r with
   |undef=>trivial
   |nil=>exact hr
   |int k n=>exact hr
   |bool b=>exact hr
   |str l=>exact hr
   |nilf=>exact hr
   |data t x bs=>
    obtain⟨cs,h1,h2⟩:=hr
    exact⟨cs,q09 (fun _ _ _ h=>h) (hok bs) h1,h2⟩
   |own k=>
    obtain⟨rfl,n,t,h1⟩:=hr
    obtain⟨h2,h3⟩:=hrow k n t h1
    exact⟨(hE k h3).symm,n,t,h2⟩
   |bptr k off=>
    obtain⟨h1,g,h2,h3⟩:=hr
    obtain⟨h4,h5⟩:=hbox k h1
    exact⟨h4,g,(hE k h5).trans h2,h3⟩
   |sptr t x bs=>
    obtain⟨ad,cs,h1,h2,h3,h4⟩:=hr
    exact⟨ad,cs,h1,hok bs _ h2,q09 (fun _ _ _ h=>h) (hok bs) h3,h4⟩
   |optr k m off=>
    obtain⟨g,cap,n,t,h1,h2,h3,h4⟩:=hr
    obtain⟨h5,h6⟩:=hrow k n t h1
    exact⟨g,cap,n,t,h5,h2,(hE k h6).trans h3,h4⟩
   |osl k lo m=>
    obtain⟨g,cap,n,t,h1,h2,h3,h4⟩:=hr
    obtain⟨h5,h6⟩:=hrow k n t h1
    exact⟨g,cap,n,t,h5,h2,(hE k h6).trans h3,h4⟩
   | fn f caps=>
    obtain⟨h1,h2⟩:=hr
    refine⟨?_,fun k hk=>?_⟩
    ·rw[h1,List.map_map]
     congr 2
     exact List.map_congr_left fun k hk=>(hE k (hbox k (h2 k hk).1).2).symm
    ·obtain⟨k0,hk0,rfl⟩:=List.mem_map.1 hk
     obtain⟨h3,g,h4⟩:=h2 k0 hk0
     obtain⟨h5,h6⟩:=hbox k0 h3
     exact⟨h5,g,(hE k0 h6).trans h4⟩
   |mp k=>
    obtain⟨h1,rfl⟩:=hr
    obtain⟨h4,h5⟩:=hbox k h1
    exact⟨h4,(hE k h5).symm⟩
 ·exact⟨E,h⟩
def z10u:List Nat->List Nat->List Nat
 |[],acc=>acc.reverse
 |i::r,acc=>bif acc.contains i then z10u r acc else z10u r (i::acc)
def dropAll (pins:List Nat):List Nat->St N->St N
 |[],σ=>σ
 |i::r,σ=>dropAll pins r (dropOne pins i σ)
def renAll (pins:List Nat)(base:Nat):List Nat->Nat->St N->St N
 |[],_,σ=>σ
 |i::r,k,σ=>renAll pins base r (k+1) (renOne pins i (base+k) σ)
def upTo:Nat->Nat->List Nat
 |0,_=>[]
 |n+1,i=>i::upTo n (i+1)
def qor (keep:List Nat)(σ:St N):St N:={regs:=forgetTo keep 0 σ.regs,own:=σ.own}
def z177 (pins:List Nat)(σ:St N):St N:=dropAll pins (σ.own.map (·.1)) σ
def z162 (pins l:List Nat)(σ:St N):St N:=renAll pins 0 (upTo l.length 5000) 0 (renAll pins 5000 l 0 σ)
def z161 (pins:List Nat)(σ:St N):St N:=z162 pins (z10u (ql8 σ) []) σ
def norm (pins:List Nat)(keep:List Nat)(σ:St N):St N:=z161 pins (z177 pins (z177 pins (qor keep σ)))
theorem RelE.dropAll (h:RelE io w0 σ E a w)(l:List Nat):RelE io w0 (dropAll io.ids l σ) E a w:=by
 induction l generalizing σ with
 |nil=>exact h
 |cons i r ih=>exact ih (h.dropOne i)
theorem RelE.renAll (h:RelE io w0 σ E a w)(base:Nat)(l:List Nat)(k:Nat):∃E',RelE io w0 (renAll io.ids base l k σ) E' a w:=by
 induction l generalizing σ E k with
 |nil=>exact⟨E,h⟩
 |cons i r ih=>
  obtain⟨E1,h1⟩:=h.renOne i (base+k)
  exact ih h1 (k+1)
theorem Rel.norm (h:Rel io w0 σ a w)(keep:List Nat):Rel io w0 (norm io.ids keep σ) a w:=by
 obtain⟨E,h⟩:=h
 have h0:RelE io w0 (qor keep σ) E a w:=h.forgetTo keep
 obtain⟨E1,h1⟩:=((h0.dropAll _).dropAll _).renAll 5000 _ 0
 obtain⟨E2,h2⟩:=h1.renAll 0 _ 0
 exact⟨E2,h2⟩
end Go.Eng

set_option linter.unusedVariables false
set_option linter.unusedSimpArgs false
namespace Go.Eng
variable {N:Names}
structure TI where
 ty:Ty
 el:TypeId
 deriving DecidableEq
def qyj (P:Program)(t:TypeId)(z:Value)(n:Nat):Prop:=∃i,P.info? t=some i/\i.zero=some z/\i.size=n/\i.bytes<=32768
def q2o (N:Names)(τ:TypeId->Option TI):List Ty->Nat->List Field->Prop
 |[],_,[]=>True
 | ty :: tys, off, f :: fs => f.offset = off /\ (∃ e, τ f.type = some ⟨ty, e⟩) /\ N.sz ty ≠ 0 /\ f.name ≠ "_" /\ q2o N τ tys (off + N.sz ty) fs
 |_,_,_=>False
def qrv (len : Nat)(el : TypeId)(sz : Nat) : List Field := (List.range' 0 len).map fun i => { name := "x", type := el, offset := i * sz, embedded := false, tag := "", pkgPath := "", byteOffset := 0 }
def qqh (P:Program)(t:TypeId)(e:TypeId)(fs:Array Field):Prop:=
 (e=0/\P.underlying t=some (.struct fs))\/∃len el i,e=el+1/\P.underlying t=some (.array len el)/\P.info? el=some i/\fs=(qrv len el i.size).toArray
theorem qqh.struct {P:Program}{t e:TypeId}{fs:Array Field}(h:qqh P t e fs)(he:e=0):P.underlying t=some (.struct fs):=by
 rcases h with⟨_,h⟩|⟨_,el,_,h,_⟩
 ·exact h
 ·rw[he]at h;cases h
theorem qqh.under {P:Program}{t e:TypeId}{fs:Array Field}(h:qqh P t e fs):∃d,P.underlying t=some d:=by
 rcases h with⟨_,h⟩|⟨_,el,_,_,h,_⟩<;>exact⟨_,h⟩
def qbm (g:Ty->List Value->Bool)(sz:Ty->Nat):List Ty->List Value->Bool
 |[],cs=>cs.isEmpty
 |t::ts,cs=>g t (cs.take (sz t))&&qbm g sz ts (cs.drop (sz t))
def q3z (N:Names):Nat->Ty->List Value->Bool
 |_,.int k,[.int k' n]=>decide (k'=k)&&decide (n=0)
 |_,.bool,[.bool b]=>!b
 |_,.str,[.string s]=>s.data.toList.isEmpty
 |_,.sl _,[.slice none 0 0]=>true
 |_,.opq,[v]=>v.oneCell'
 |f+1,.nm n,cs=>qbm (q3z N f) N.sz (N.body n) cs
 |_,_,_=>false
structure Fits (P:Program) (N:Names) (τ:TypeId->Option TI):Prop where
 int:∀t k e,τ t=some ⟨.int k,e⟩->P.underlying t=some (.int k)/\qyj P t (.int k 0) 1
 bool:∀t e,τ t=some ⟨.bool,e⟩->P.underlying t=some .bool/\qyj P t (.bool false) 1
 str:∀t e,τ t=some ⟨.str,e⟩->P.underlying t=some .string/\qyj P t (.string ⟨#[]⟩) 1
 sl:∀t ty e,τ t=some ⟨.sl ty,e⟩->P.underlying t=some (.slice e)/\(∃e',τ e=some ⟨ty,e'⟩)/\qyj P t (.slice none 0 0) 1
 opq:∀t e,τ t=some ⟨.opq,e⟩->(∃d,P.underlying t=some d/\(match d with|.struct _|.array _ _=>true|_=>false)=false)/\∃z:Value,qyj P t z 1/\z.oneCell'=true
 mp:∀t e,τ t=some ⟨.opq,e⟩->e=0\/(e=1/\∃ps rs v,P.underlying t=some (.func ps rs v))\/(1<e/\P.underlying t=some (.map (e/100000) (e%100000)))
 nm:∀t n e,τ t=some ⟨.nm n,e⟩->∃fs,qqh P t e fs/\q2o N τ (N.body n) 0 fs.toList/\P.stoodInHeld t=false/\P.eqGuardType P.depth t=false/\
  ∃zc:Array Value,qyj P t (.agg zc) (N.size n)/\0<N.size n/\∀w ok,Rep w ok (.nm n) (N.dv n) zc.toList
 zo:∀t n e i zc,τ t=some ⟨.nm n,e⟩->P.info? t=some i->i.zero=some (.agg zc)->q3z N 8 (.nm n) zc.toList=true
 small:∀t ty e,τ t=some ⟨.sl ty,e⟩->e<qgb
section
variable {P:Program} {τ:TypeId->Option TI} (F:Fits P N τ) {t:TypeId} {ty:Ty} {e:TypeId}
include F
theorem Fits.small2 {ty:Ty}{e:TypeId}(h:τ t=some ⟨.sl ty,e⟩):e<2*qgb:=by
 have h1:e<qgb:=F.small t ty e h
 exact Nat.lt_of_lt_of_le h1 (Nat.le_mul_of_pos_left _ (by decide))
theorem Fits.pos (h:τ t=some ⟨ty,e⟩):0<N.sz ty:=by
 cases ty with
 |nm n=>obtain⟨fs,_,_,_,_,zc,_,h1,_⟩:=F.nm t n e h;exact h1
 |_=>exact Nat.one_pos
theorem Fits.info (h:τ t=some ⟨ty,e⟩):∃i z zc,P.info? t=some i/\i.zero=some z/\i.size=N.sz ty/\i.bytes<=32768/\z.cells=zc/\AsV ty z zc.toList/\∀w ok,Rep w ok ty (N.dflt ty) zc.toList:=by
 cases ty with
 |int k=>
  obtain⟨_,i,h1,h2,h3,h4⟩:=F.int t k e h
  exact⟨i,_,#[.int k 0],h1,h2,h3,h4,rfl,rfl,fun _ _=>rfl⟩
 |bool=>
  obtain⟨_,i,h1,h2,h3,h4⟩:=F.bool t e h
  exact⟨i,_,#[.bool false],h1,h2,h3,h4,rfl,rfl,fun _ _=>rfl⟩
 |str=>
  obtain⟨_,i,h1,h2,h3,h4⟩:=F.str t e h
  exact⟨i,_,#[.string ⟨#[]⟩],h1,h2,h3,h4,rfl,rfl,fun _ _=>⟨⟨#[]⟩,rfl,rfl⟩⟩
 |sl ty'=>
  obtain⟨_,_,i,h1,h2,h3,h4⟩:=F.sl t ty' e h
  exact⟨i,_,#[.slice none 0 0],h1,h2,h3,h4,rfl,rfl,fun _ _=>⟨none,0,rfl,nR _,fun _=>rfl,fun i x hx=>by simp[Names.dflt]at hx⟩⟩
 |nm n=>
  obtain⟨fs,_,_,_,_,zc,⟨i,h1,h2,h3,h4⟩,_,h5⟩:=F.nm t n e h
  exact⟨i,_,zc,h1,h2,h3,h4,rfl,rfl,h5⟩
 |opq=>
  obtain⟨_,z,⟨i,h1,h2,h3,h4⟩,h5⟩:=F.opq t e h
  have hz:z.cells=#[z]:=by cases z<;>first|rfl|cases h5
  exact⟨i,z,#[z],h1,h2,h3,h4,hz,rfl,fun _ _=>⟨z,rfl,h5⟩⟩
theorem Fits.isAgg (h:τ t=some ⟨ty,e⟩)(w:World):(isAgg t).run P w=.ok (match ty with|.nm _=>true|_=>false) w:=by
 unfold Go.isAgg
 cases ty with
 |int k=>simp[run_underlying (F.int t k e h).1]
 |bool=>simp[run_underlying (F.bool t e h).1]
 |str=>simp[run_underlying (F.str t e h).1]
 |sl ty'=>simp[run_underlying (F.sl t ty' e h).1]
 |nm n=>
  obtain⟨fs,h1,_⟩:=F.nm t n e h
  rcases h1 with⟨_,h1⟩|⟨len,el,i,_,h1,_⟩<;>simp[run_underlying h1]
 |opq=>
  obtain⟨⟨d,h1,h2⟩,_⟩:=F.opq t e h
  simp only[Sem.run_bind,run_underlying h1,Result.andThen_ok]
  cases d<;>first|rfl|cases h2
theorem Fits.sizeOf (h:τ t=some ⟨ty,e⟩)(w:World):(Go.sizeOf t).run P w=.ok (N.sz ty) w:=by
 obtain⟨i,z,zc,h1,h2,h3,_⟩:=F.info h
 simp[Go.sizeOf,typeInfo,h1,h3]
theorem Fits.load (h:τ t=some ⟨ty,e⟩){w w1:World}{ok:Nat->Prop}{x:ty.den N.ρ}{cs:List Value}(hr:Rep w1 ok ty x cs){ad:Addr}(hc:∀(j:Nat) u,cs[j]?=some u->w.cell? (ad.add j)=some u):
  ∃v,(Instr.loadAt t (.pointer (some ad))).run P w=.ok v w/\AsV ty v cs:=by
 have hs:=F.sizeOf h w
 have ha:=F.isAgg h w
 have hl:=q05 hr
 cases ty with
 |nm n=>
  refine⟨.agg cs.toArray,?_,rfl⟩
  have h1:=run_loadCells_list (P:=P) w ad cs hc
  rw[hl]at h1
  simp only[Instr.loadAt,Instr.sureAddr,loadVar,Sem.run_bind,Sem.run_pure,Result.andThen_ok,ha,hs,if_true,h1]
 | _=>
  obtain⟨u,hu⟩:∃u,cs=[u]:=by
   match cs,hl with
   |[u],_=>exact⟨u,rfl⟩
  subst hu
  refine⟨u,?_,rfl⟩
  have h1:=hc 0 u rfl
  have h2:ad.add 0=ad:=by simp[Addr.add]
  rw[h2]at h1
  simp[Instr.loadAt,Instr.sureAddr,loadVar,Sem.run_bind,ha,Go.load,Sem.run,h1]
theorem Fits.loadCells {n:Nat}(h:τ t=some ⟨.nm n,e⟩){w:World}{cs:List Value}(hl:cs.length=N.size n){ad:Addr}(hc:∀(j:Nat) u,cs[j]?=some u->w.cell? (ad.add j)=some u):
  (Instr.loadAt t (.pointer (some ad))).run P w=.ok (.agg cs.toArray) w:=by
 have hs:=F.sizeOf h w
 have ha:=F.isAgg h w
 have h1:=run_loadCells_list (P:=P) w ad cs hc
 rw[hl]at h1
 simp only[Instr.loadAt,Instr.sureAddr,loadVar,Sem.run_bind,Sem.run_pure,Result.andThen_ok,ha,hs,if_true,Names.sz,h1]
omit F in
theorem q3j (w:World)(g:Nat)(cs:Array Value):w.grownBy (w.setRow g cs) (some g):=
 ⟨rfl,rfl,rfl,by simp[World.setRow],fun k _ hk=>setRow_other w g k _ (fun e=>hk (by rw[e]))⟩
omit F in
theorem q35 (P:Program)(g o:Nat)(t:TypeId)(fz:Nat×Nat):∀(vs:List Value) (i:Nat) (cur:Array Value) (w:World),w.heap[g]?=some (.cells cur t fz)->(fz=(0,0)\/cur.size<=fz.1)->o+i+vs.length<=cur.size->(∀v∈vs,v.oneCell'=true)->
  (storeCells ⟨g,o,none⟩ vs i).run P w=.ok () (w.setRow g (cur.toList.take (o+i)++vs++cur.toList.drop (o+i+vs.length)).toArray)
 |[],i,cur,w,hg,_,_,_=>by
  simp only[storeCells,List.append_nil,List.length_nil,Nat.add_zero,List.take_append_drop,Array.toArray_toList]
  rw[setRow_self w g cur t fz hg]
  rfl
 | v::rest,i,cur,w,hg,hfz,hl,h1=>by
  have hi:o+i<cur.size:=by simp at hl;omega
  have hadd:(⟨g,o,none⟩:Addr).add i=⟨g,o+i,none⟩:=by unfold Addr.add;split<;>simp_all
  have hcell:w.cell? ⟨g,o+i,none⟩=some cur[o+i]:=by simp[World.cell?,hg,hi]
  have hfro:w.frozen? ⟨g,o+i,none⟩=false:=by
   obtain⟨lo,hi'⟩:=fz
   simp only[World.frozen?,hg,Bool.and_eq_false_iff,decide_eq_false_iff_not]
   rcases hfz with hfz|hfz
   ·cases hfz;right;omega
   ·simp only at hfz;left;omega
  have hst:(store ((⟨g,o,none⟩:Addr).add i) v).run P w=.ok () (w.setRow g (cur.setIfInBounds (o+i) v)):=by
   rw[hadd,run_store P w _ v _ (h1 v (by simp)),hcell]
   simp[hfro,setCell_eq_setRow w g (o+i) cur t fz v hg]
  have ih:=q35 P g o t fz rest (i+1) (cur.setIfInBounds (o+i) v) (w.setRow g (cur.setIfInBounds (o+i) v)) (setRow_heap w g cur _ t _ hg) (by simpa using hfz) (by simp at hl ⊢;omega) (fun x hx=>h1 x (by simp[hx]))
  simp only[storeCells,Sem.run_bind,hst,Result.andThen_ok,ih,setRow_setRow]
  congr 3
  have e:=list_seg_step cur.toList (o+i) v rest (by simp at hl ⊢;omega)
  simpa[Array.toList_setIfInBounds,Nat.add_assoc]using e
theorem Fits.store (h:τ t=some ⟨ty,e⟩){w w1:World}{ok:Nat->Prop}{x:ty.den N.ρ}{cs:List Value}(hr:Rep w1 ok ty x cs){v:Value}(hv:AsV ty v cs){g off:Nat}{arr:Array Value}{T:TypeId}
  {fz:Nat×Nat} (hg:w.heap[g]?=some (.cells arr T fz)) (hfz:fz=(0,0)\/arr.size<=fz.1) (hfit:off+cs.length<=arr.size):
  (Instr.storeAt t (.pointer (some ⟨g,off,none⟩)) v).run P w=.ok () (w.setRow g (q0g arr.toList off cs).toArray):=by
 have hs:=F.sizeOf h w
 have hl:=q05 hr
 have hvc:v.cells.toList=cs:=by
  cases ty with
  |nm n=>rw[show v=_ from hv];rfl
  |_=>
   have hv':cs=[v]:=hv
   have hone:=q7t hr v (by rw[hv'];simp)
   rw[hv']
   cases v<;>first|rfl|cases hone
 have hst:=q35 P g off T fz cs 0 arr w hg hfz (by simpa using hfit) (q7t hr)
 have hsz:v.cells.size=N.sz ty:=by rw[<-hl,<-hvc];simp
 simp only[Nat.add_zero]at hst
 simp only[Instr.storeAt,Instr.sureAddr,storeVar,Sem.run_bind,Sem.run_pure,Result.andThen_ok,hs,hvc]
 rw[if_neg (by rw[hsz];simp)]
 exact hst
end
end Go.Eng

set_option linter.unusedVariables false
set_option linter.unusedSimpArgs false
namespace Go.Eng
variable {N:Names} {io:Io} {w0 w w':World} {σ:St N} {E:Env} {a:Act}
theorem RelE.slot (h:RelE io w0 σ E a w)(t:Nat):q43 w σ.own E (σ.reg t) (a.tmps.getD t undef):=by
 unfold St.reg
 rw[gQ]
 cases hs:σ.regs[t]? with
 |none=>trivial
 |some s=>exact h.regs t s hs
theorem RelE.ev (h:RelE io w0 σ E a w)(x:Operand):q0a w σ.own E (ev σ x) (a.eval x):=by
 unfold Eng.ev
 split
 ·rename_i t
  have:=h.slot t
  split
  ·rename_i r hr
   rw[hr]at this
   exact this
  ·trivial
 ·rfl
 ·rfl
 ·exact⟨_,rfl,rfl⟩
 ·rfl
 ·rfl
 ·trivial
 ·trivial
 ·exact⟨rfl,fun _ h=>by cases h⟩
theorem q21 {own:List (Nat×Blk N)}{t:Ty}{x:t.den N.ρ}{bs:List Nat}{cs:List Value}{v:Value}(hr:Rep w (okb w.heap.size own E bs) t x cs)(hv:AsV t v cs):q0a w own E (q6d t x bs) v:=by
 cases t with
 |int k=>
  have h1:cs=[.int k x]:=hr
  have h2:cs=[v]:=hv
  rw[h1]at h2
  exact(List.cons.inj h2).1.symm
 |bool=>
  have h1:cs=[.bool x]:=hr
  have h2:cs=[v]:=hv
  rw[h1]at h2
  exact(List.cons.inj h2).1.symm
 |str=>
  obtain⟨s,h1,h3⟩:=hr
  have h2:cs=[v]:=hv
  rw[h1]at h2
  exact⟨s,(List.cons.inj h2).1.symm,h3⟩
 |sl e=>exact⟨cs,hr,hv⟩
 |nm n=>exact⟨cs,hr,hv⟩
 |opq=>trivial
theorem qdl {α:Type}{R:α->List Value->Prop}{sz:Nat}(hl:∀x cs,R x cs->cs.length=sz):∀{xs:List α} {cells:List Value},q6v R xs cells->∀(i:Nat) x,xs[i]?=some x->
  ∃ccs,R x ccs/\(cells.drop (i*sz)).take sz=ccs/\(i+1)*sz<=cells.length
 |[],_,_,i,x,hx=>by simp at hx
 |y::ys,cells,⟨c1,c2,e,h1,h2⟩,0,x,hx=>by
  simp at hx
  subst hx
  subst e
  have:=hl y c1 h1
  exact⟨c1,h1,by rw[Nat.zero_mul,List.drop_zero,List.take_append_of_le_length (by omega),tL (by omega)],by rw[lA];omega⟩
 |y::ys,cells,⟨c1,c2,e,h1,h2⟩,i+1,x,hx=>by
  subst e
  have hc1:=hl y c1 h1
  obtain⟨ccs,k1,k2,k3⟩:=qdl hl h2 i x (by simpa using hx)
  have hm:(i+1)*sz=sz+i*sz:=by rw[Nat.add_mul,Nat.one_mul,Nat.add_comm]
  have hm2:(i+1+1)*sz=sz+(i+1)*sz:=by rw[Nat.add_mul (i+1),Nat.one_mul,Nat.add_comm]
  refine⟨ccs,k1,?_,by rw[lA];omega⟩
  rw[List.drop_append,List.drop_eq_nil_of_le (by omega),List.nil_append,hc1,hm,Nat.add_sub_cancel_left]
  exact k2
theorem q17 {α:Type}{R:α->List Value->Prop}{sz:Nat}(hl:∀x cs,R x cs->cs.length=sz):∀{xs:List α} {cells:List Value},q6v R xs cells->cells.length=xs.length*sz
 |[],_,h=>by rw[h];simp
 |y::ys,cells,⟨c1,c2,e,h1,h2⟩=>by
  subst e
  rw[lA,hl y c1 h1,q17 hl h2,lC,Nat.add_mul,Nat.one_mul,Nat.add_comm]
theorem q2x {cs:List Value}{o n j:Nat}{u:Value}(h:((cs.drop o).take n)[j]?=some u):cs[o+j]?=some u:=by
 rw[List.getElem?_take]at h
 split at h
 ·rwa [List.getElem?_drop]at h
 ·cases h
theorem RelE.rowRep (h:RelE io w0 σ E a w){id:Nat}{e:TypeId}{t:Ty}{xs:List (t.den N.ρ)}{bs:List Nat}{p:Bool}(hb:look σ.own id=some (.row e t xs bs p)):
  Rep w (okb w.heap.size σ.own E (id::bs)) (.sl t) xs [E id]/\∃A cap,E id=.slice A xs.length cap:=by
 obtain⟨cells,h1,h2⟩:=h.own id _ hb
 have hlen:=q17 (fun x cs hx=>q05 hx) h2
 rcases h1.2 with⟨hv,hn⟩|⟨g,cap,cur,T0,fz,hv,hg,_,_,hnc,hcm,hcs,ht⟩
 ·refine⟨⟨none,0,by rw[hv,hn],by omega,fun _=>rfl,fun i x hx=>?_⟩,none,0,by rw[hv,hn]⟩
  rw[List.eq_nil_of_length_eq_zero hn]at hx
  simp at hx
 ·refine⟨⟨some ⟨g,0,none⟩,cap,by rw[hv],hnc,(fun h=>by cases h),fun i x hx=>?_⟩,_,cap,hv⟩
  obtain⟨ccs,k1,k2,k3⟩:=qdl (fun x cs hx=>q05 hx) h2 i x hx
  have hblk:q0j (E id)=some g:=by rw[hv];rfl
  refine⟨⟨g,0,none⟩,ccs,rfl,⟨⟨(h.blk id _ hb g hblk).1,by rw[h.sc];exact h.nw g (h.blk id _ hb g hblk).2⟩,fun j hj hjb=>?_⟩,?_,fun j u hu=>?_⟩
  ·intro hg2
   obtain⟨bj,hbj⟩:=Option.isSome_iff_exists.1 hj
   have hne:id≠j:=fun e=>hjb (by rw[e];exact mS)
   exact h.sep id j _ bj hb hbj hne g hblk hg2
  ·exact q09 (fun _ _ _ h=>h) (fun b hb=>⟨hb.1,fun j hj hjb=>hb.2 j hj (fun hm=>hjb (mC _ hm))⟩) k1
  ·rw[<-k2]at hu
   have h3:=q2x hu
   rw[<-ht,List.getElem?_take]at h3
   split at h3
   ·have hadd:(⟨g,0,none⟩:Addr).add (i*N.sz t+j)=⟨g,i*N.sz t+j,none⟩:=by unfold Addr.add;split<;>simp_all
    rw[hadd,cell_of_row w g _ cur _ _ hg]
    simpa using h3
   ·cases h3
theorem RelE.toDen0 (h:RelE io w0 σ E a w){t:Ty}{r:RV N}{v:Value}{x:t.den N.ρ}{bs:List Nat}(hd:toDen0 σ.own t r=some (x,bs))(hr:q0a w σ.own E r v):
  ∃cs,Rep w (okb w.heap.size σ.own E bs) t x cs/\AsV t v cs:=by
 have cast:∀(t':Ty) (x':t'.den N.ρ) (bs':List Nat) cs,(q0u N t' t x').map (fun y=>(y,bs'))=some (x,bs)->Rep w (okb w.heap.size σ.own E bs') t' x' cs->AsV t' v cs->∃cs,Rep w (okb w.heap.size σ.own E bs) t x cs/\AsV t v cs:=by
  intro t' x' bs' cs hc hrep hv
  obtain⟨y,hy,hp⟩:=Option.map_eq_some_iff.1 hc
  cases hp
  obtain⟨e,rfl⟩:=q0b hy
  subst e
  exact⟨cs,hrep,hv⟩
 cases r with
 |undef=>cases hd
 |nilf=>cases hd
 | nil=>
  cases t with
  |sl e=>
   cases hd
   exact⟨[v],⟨none,0,by rw[show v=_ from hr];rfl,nR _,fun _=>rfl,fun i x hx=>by simp at hx⟩,rfl⟩
  |_=>cases hd
 |int k n=>exact cast (.int k) n [] [v] hd (by rw[show v=_ from hr];rfl) rfl
 |bool b=>exact cast .bool b [] [v] hd (by rw[show v=_ from hr];rfl) rfl
 |str l=>
  obtain⟨s,hv,hs⟩:=hr
  exact cast .str l [] [v] hd ⟨s,by rw[hv],hs⟩ rfl
 |data t' x' bs'=>
  obtain⟨cs,h1,h2⟩:=hr
  exact cast t' x' bs' cs hd h1 h2
 | own id=>
  simp only[Eng.toDen0]at hd
  split at hd
  ·rename_i e t' xs bs' p hl
   obtain⟨h1,h2⟩:=hr
   obtain⟨h3,_⟩:=h.rowRep hl
   rw[<-h1]at h3
   exact cast (.sl t') xs (id::bs') [v] hd h3 rfl
  ·cases hd
 |bptr id off=>cases hd
 |sptr t x bs=>cases hd
 |optr id i off=>cases hd
 |osl id lo n=>cases hd
 |fn f caps=>cases hd
 |mp id=>cases hd
theorem q54 {H:Nat}{own:List (Nat×Blk N)}{E:Env}{bs bs':List Nat}(hs:∀i∈bs,i∈bs'){b:Nat}(h:okb H own E bs b):okb H own E bs' b:=
 ⟨h.1,fun j hj hjb=>h.2 j hj (fun hm=>hjb (hs j hm))⟩
theorem q2k {w:World}{own:List (Nat×Blk N)}{E:Env}{bs bs':List Nat}(hs:∀i∈bs,i∈bs'){t:Ty}{x:t.den N.ρ}{cs:List Value}(h:Rep w (okb w.heap.size own E bs) t x cs):Rep w (okb w.heap.size own E bs') t x cs:=
 q09 (fun _ _ _ h=>h) (fun _ hb=>q54 hs hb) h
theorem qgr {w:World}{own:List (Nat×Blk N)}{E:Env}{bs bs':List Nat}(hs:∀i∈bs,i∈bs'){ts:List Ty}{x:HL N.ρ ts}{cs:List Value}(h:q98 w (okb w.heap.size own E bs) (q9l w (okb w.heap.size own E bs)) ts x cs):
  q98 w (okb w.heap.size own E bs') (q9l w (okb w.heap.size own E bs')) ts x cs:=
 qqo (fun _ _ _ h=>h) (fun _ hb=>q54 hs hb) h
theorem qgo {ty:Ty}{v:Value}{cs:List Value}{w:World}{ok:Nat->Prop}{x:ty.den N.ρ}(hr:Rep w ok ty x cs)(hn:∀n,ty≠.nm n)(hv:AsV ty v cs):cs=[v]:=by
 cases ty with
 |nm n=>exact absurd rfl (hn n)
 |_=>exact hv
theorem qkn {w:World}{own:List (Nat×Blk N)}{E:Env}{g:(t:Ty)->List (RV N)->Option (t.den N.ρ×List Nat)}
  (hg:∀(t:Ty) (l:List (RV N)) x bs (vs:List Value),g t l=some (x,bs)->vs.length=l.length->(∀(i:Nat) r u,l[i]?=some r->vs[i]?=some u->q0a w own E r u)->Rep w (okb w.heap.size own E bs) t x vs):
  ∀(ts:List Ty) (l:List (RV N)) (x:HL N.ρ ts) (bs:List Nat) (vs:List Value),qn3 g ts l=some (x,bs)->vs.length=l.length->(∀(i:Nat) r u,l[i]?=some r->vs[i]?=some u->q0a w own E r u)->
   q98 w (okb w.heap.size own E bs) (q9l w (okb w.heap.size own E bs)) ts x vs
 |[],l,x,bs,vs,h,hl,hr=>by
  cases l with
  |nil=>exact List.eq_nil_of_length_eq_zero hl
  |cons r l=>cases h
 | t ::ts,l,x,bs,vs,h,hl,hr=>by
  simp only[qn3]at h
  split at h
  ·rename_i p q hp hq
   cases h
   refine⟨vs.take (N.sz t),vs.drop (N.sz t),(List.take_append_drop _ _).symm,?_,?_⟩
   ·refine q2k (fun i hi=>mA.2 (.inl hi)) (hg t _ p.1 p.2 _ hp (by simp[hl]) (fun i r u hi hu=>?_))
    rw[List.getElem?_take]at hi hu
    split at hi
    ·rename_i hlt
     rw[if_pos hlt]at hu
     exact hr i r u hi hu
    ·cases hi
   ·refine qgr (fun i hi=>mA.2 (.inr hi)) (qkn hg ts _ q.1 q.2 _ hq (by simp[hl]) (fun i r u hi hu=>?_))
    rw[List.getElem?_drop]at hi hu
    exact hr _ r u hi hu
  ·cases h
theorem RelE.impl {io:Io}{w0 w:World}{σ:St N}{E:Env}{a:Act}(h:RelE io w0 σ E a w):∀(f:Nat) (t:Ty) (l:List (RV N)) x bs (vs:List Value),impl σ.own f t l=some (x,bs)->vs.length=l.length->
  (∀(i:Nat) r u,l[i]?=some r->vs[i]?=some u->q0a w σ.own E r u)->Rep w (okb w.heap.size σ.own E bs) t x vs:=by
 intro f
 have flat:∀(t:Ty),(∀n,t≠.nm n)->∀(l:List (RV N)) x bs (vs:List Value),qh1 σ.own t l=some (x,bs)->vs.length=l.length->
   (∀(i:Nat) r u,l[i]?=some r->vs[i]?=some u->q0a w σ.own E r u)->Rep w (okb w.heap.size σ.own E bs) t x vs:=by
  intro t hn l x bs vs hi hl hr
  unfold qh1 at hi
  split at hi
  ·rename_i r
   match vs,hl with
   |[u],_=>
    obtain⟨cs,k1,k2⟩:=h.toDen0 hi (hr 0 r u rfl rfl)
    have:=qgo k1 hn k2
    rw[<-this]
    exact k1
  ·cases hi
 induction f with
 |zero=>intro t l x bs vs hi;cases hi
 | succ f ih=>
  intro t l x bs vs hi hl hr
  cases t with
  |nm n=>
   simp only[Eng.impl,Option.map_eq_some_iff]at hi
   obtain⟨p,hp,hq⟩:=hi
   cases hq
   refine q3d ?_
   rw[N.un_re]
   exact qkn ih (N.body n) l p.1 p.2 vs hp hl hr
  |_=>exact flat _ (fun n hn=>by cases hn) l x bs vs hi hl hr
theorem RelE.toDen (h:RelE io w0 σ E a w){t:Ty}{r:RV N}{v:Value}{x:t.den N.ρ}{bs:List Nat}(hd:toDen σ.own t r=some (x,bs))(hr:q0a w σ.own E r v):
  ∃cs,Rep w (okb w.heap.size σ.own E bs) t x cs/\AsV t v cs:=by
 cases r with
 | mp id=>
  simp only[Eng.toDen]at hd
  split at hd
  ·rename_i n l hl
   split at hd
   ·rename_i p hp
    obtain⟨y,hy,hq⟩:=Option.map_eq_some_iff.1 hd
    cases hq
    obtain⟨e,rfl⟩:=q0b hy
    subst e
    obtain⟨arr,k1,k2,k3,k4⟩:=h.own id _ hl
    exact⟨arr.toList,h.impl 8 (.nm n) l p.1 p.2 arr.toList hp (by simpa using k2) (fun i r u hi hu=>k4 i r u hi (by simpa using hu)),by rw[hr.2,k1];rfl⟩
   ·cases hd
  ·cases hd
 |_=>
  rw[qlu rfl]at hd
  exact h.toDen0 hd hr
end Go.Eng

set_option linter.unusedVariables false
set_option linter.unusedSimpArgs false
namespace Go.Eng
variable {N:Names}
theorem q8s {a b:ByteArray}(h:q0o a=q0o b):a=b:=by
 have hm:a.data.toList=b.data.toList:=by
  unfold q0o at h
  have inj:∀(l m:List UInt8),(l.map fun b=>(b.toNat:Int))=(m.map fun b=>(b.toNat:Int))->l=m:=by
   intro l
   induction l with
   |nil=>intro m h;cases m<;>simp_all
   | cons x l ih=>
    intro m h
    cases m with
    |nil=>simp at h
    |cons y m=>
     simp only[List.map_cons,List.cons.injEq]at h
     rw[ih m h.2,UInt8.toNat_inj.1 (show x.toNat=y.toNat by omega)]
  exact inj _ _ h
 cases a;cases b
 simp only[ByteArray.mk.injEq]
 exact Array.ext' hm
def q0s:List Int->List Int->Bool
 |_,[]=>false
 |[],_::_=>true
 |a::x,b::y=>decide (a<b)||(decide (a=b)&&q0s x y)
theorem q7x:∀(l m:List UInt8),Op.bytesLess l m=q0s (l.map fun b=>(b.toNat:Int)) (m.map fun b=>(b.toNat:Int))
 |l,[]=>by cases l<;>rfl
 |[],_::_=>rfl
 | a::x,b::y=>by
  simp only[Op.bytesLess,List.map_cons,q0s,q7x x y]
  congr 1
  ·rw[decide_eq_decide,UInt8.lt_iff_toNat_lt];omega
  ·congr 1
   rw[Bool.eq_iff_iff]
   simp only[beq_iff_eq,decide_eq_true_eq]
   rw[<-UInt8.toNat_inj]
   omega
theorem q7k:∀(a b:List Int),(q0s a b||decide (a=b))=!q0s b a
 |[],[]=>by simp[q0s]
 |[],_::_=>by simp[q0s]
 |_::_,[]=>by simp[q0s]
 | x ::a,y::b=>by
  have ih:=q7k a b
  rw[Bool.eq_iff_iff]at ih ⊢
  simp only[q0s,Bool.or_eq_true,Bool.and_eq_true,decide_eq_true_eq,List.cons.injEq,Bool.not_eq_true',Bool.or_eq_false_iff,Bool.and_eq_false_iff,decide_eq_false_iff_not]at ih ⊢
  constructor
  ·rintro((h|⟨h1,h2⟩)|⟨h1,h2⟩)
   ·exact⟨by omega,.inl (by omega)⟩
   ·exact⟨by omega,.inr (ih.1 (.inl h2))⟩
   ·exact⟨by omega,.inr (ih.1 (.inr h2))⟩
  ·rintro⟨h1,h2⟩
   by_cases hxy:x<y
   ·exact .inl (.inl hxy)
   ·have hx:x=y:=by omega
    rcases h2 with h2|h2
    ·exact absurd hx.symm h2
    ·rcases ih.2 h2 with h3|h3
     ·exact .inl (.inr ⟨hx,h3⟩)
     ·exact .inr ⟨hx,h3⟩
def lim:Nat:=4294967296
section
variable {β:Type}
def qi3 (op:BinOp)(kx:IntKind)(a b:Int)(k:RV N->Option β):Option β:=
 match op with
 |.add=>k (.int kx (kx.wrap (a+b)))
 |.sub=>k (.int kx (kx.wrap (a-b)))
 |.mul=>k (.int kx (kx.wrap (a*b)))
 |.quo=>if b=0 then none else k (.int kx (kx.wrap (a.tdiv b)))
 |.rem=>if b=0 then none else k (.int kx (a.tmod b))
 |.and=>k (.int kx (Go.bits .and kx a b))
 |.or=>k (.int kx (Go.bits .or kx a b))
 |.xor=>k (.int kx (Go.bits .xor kx a b))
 |.andNot=>k (.int kx (Go.bits .andNot kx a b))
 |.eql=>k (.bool (decide (a=b)))
 |.neq=>k (.bool (!decide (a=b)))
 |.lss=>k (.bool (decide (a<b)))
 |.leq=>k (.bool (decide (a<=b)))
 |.gtr=>k (.bool (decide (b<a)))
 |.geq=>k (.bool (decide (b<=a)))
 |_=>none
def q5h (op:BinOp)(kx:IntKind)(a b:Int)(k:RV N->Option β):Option β:=
 match op with
 |.shl=>if 0<=b then k (.int kx (kx.wrap (a*2^(min b.toNat kx.bits))))else none
 |.shr=>if 0<=b then k (.int kx (a/2^(min b.toNat kx.bits)))else none
 |_=>none
def qi9 (op:BinOp)(a b:List Int)(k:RV N->Option β):Option β:=
 match op with
 |.add=>if a.length+b.length<=lim then k (.str (a++b))else none
 |.eql=>k (.bool (decide (a=b)))
 |.neq=>k (.bool (!decide (a=b)))
 |.lss=>k (.bool (q0s a b))
 |.leq=>k (.bool (!q0s b a))
 |.gtr=>k (.bool (q0s b a))
 |.geq=>k (.bool (!q0s a b))
 |_=>none
def eqL (g:(t:Ty)->t.den N.ρ->t.den N.ρ->Option Bool):(ts:List Ty)->HL N.ρ ts->HL N.ρ ts->Option Bool
 |[],_,_=>some true
 |t::ts,x,y=>match g t x.1 y.1,eqL g ts x.2 y.2 with
  |some b,some c=>some (b&&c)
  |_,_=>none
def eqD:Nat->(t:Ty)->t.den N.ρ->t.den N.ρ->Option Bool
 |_,.int _,a,b=>some (decide (a=b))
 |_,.bool,a,b=>some (decide (a=b))
 |_,.str,a,b=>some (decide (a=b))
 |_,.sl _,_,_=>none
 |_,.opq,_,_=>none
 |0,.nm _,_,_=>none
 |f+1,.nm n,a,b=>eqL (eqD f) (N.body n) (N.un n a) (N.un n b)
def qdb (τ:TypeId->Option TI)(op:BinOp)(xt:TypeId)(x y:RV N)(k:RV N->Option β):Option β:=
 match x with
 | .int kx a=>match y with
  |.int ky b=>match op with
   |.shl=>q5h .shl kx a b k
   |.shr=>q5h .shr kx a b k
   |op=>bif decide (kx=ky)then qi3 op kx a b k else none
  |_=>none
 |.str a=>match y with
  |.str b=>qi9 op a b k
  |_=>none
 | .bool a=>match y with
  | .bool b=>match τ xt with
   |some ⟨.bool,_⟩=>match op with
    |.eql=>k (.bool (decide (a=b)))
    |.neq=>k (.bool (!decide (a=b)))
    |_=>none
   |_=>none
  |_=>none
 | .data (.nm n) a _=>match y with
  | .data t' b _=>match τ xt with
   | some ⟨.nm m,_⟩=>match q0u N (.nm n) (.nm m) a,q0u N t' (.nm m) b with
    | some a,some b=>match eqD 4 (.nm m) a b with
     |some r=>match op with
      |.eql=>k (.bool r)
      |.neq=>k (.bool (!r))
      |_=>none
     |none=>none
    |_,_=>none
   |_=>none
  |_=>none
 |_=>none
def evUn (op:UnOp)(x:RV N)(k:RV N->Option β):Option β:=
 match op,x with
 |.neg,.int kx n=>k (.int kx (kx.wrap (0-n)))
 |.xor,.int kx n=>k (.int kx (Go.bits .xor kx (if kx.signed then-1 else kx.max) n))
 |.not,.bool b=>k (.bool (!b))
 |_,_=>none
theorem qmo {op:BinOp}{kx:IntKind}{p q:Int}{k:RV N->Option β}{r:β}(hs:op≠.shl)(hs2:op≠.shr)(h:qi3 op kx p q k=some r):
  ∃z,k z=some r/\∃v,(∀(P:Program) (t:TypeId) (w:World),(binOp op t (.int kx p) (.int kx q)).run P w=.ok v w)/\∀w (own:List (Nat×Blk N)) E,q0a w own E z v:=by
 cases op with
 |shl=>exact absurd rfl hs
 |shr=>exact absurd rfl hs2
 |add=>exact⟨_,h,_,fun P t w=>by rw[binOp_add];rfl,fun _ _ _=>rfl⟩
 |sub=>exact⟨_,h,_,fun P t w=>by rw[binOp_sub];rfl,fun _ _ _=>rfl⟩
 |mul=>exact⟨_,h,_,fun P t w=>by rw[binOp_mul];rfl,fun _ _ _=>rfl⟩
 | quo=>
  simp only[qi3]at h
  split at h
  ·cases h
  ·rename_i h0
   exact⟨_,h,_,fun P t w=>by rw[binOp_quo];simp only[Op.intDiv,if_neg h0];rfl,fun _ _ _=>rfl⟩
 | rem=>
  simp only[qi3]at h
  split at h
  ·cases h
  ·rename_i h0
   exact⟨_,h,_,fun P t w=>by rw[binOp_rem];simp only[Op.intDiv,if_neg h0];rfl,fun _ _ _=>rfl⟩
 |and=>exact⟨_,h,_,fun P t w=>by rw[binOp_and];rfl,fun _ _ _=>rfl⟩
 |or=>exact⟨_,h,_,fun P t w=>by rw[binOp_or];rfl,fun _ _ _=>rfl⟩
 |xor=>exact⟨_,h,_,fun P t w=>by rw[binOp_xor];rfl,fun _ _ _=>rfl⟩
 |andNot=>exact⟨_,h,_,fun P t w=>by rw[binOp_andNot];rfl,fun _ _ _=>rfl⟩
 |eql=>exact⟨_,h,_,fun P t w=>by rw[binOp_eql];rfl,fun _ _ _=>rfl⟩
 |neq=>exact⟨_,h,_,fun P t w=>by rw[binOp_neq];rfl,fun _ _ _=>rfl⟩
 |lss=>exact⟨_,h,_,fun P t w=>by rw[binOp_lss];rfl,fun _ _ _=>rfl⟩
 |leq=>exact⟨_,h,_,fun P t w=>by rw[binOp_leq];rfl,fun _ _ _=>rfl⟩
 |gtr=>exact⟨_,h,_,fun P t w=>by rw[binOp_gtr];rfl,fun _ _ _=>rfl⟩
 |geq=>exact⟨_,h,_,fun P t w=>by rw[binOp_geq];rfl,fun _ _ _=>rfl⟩
theorem qxe (x:Int)(n:Nat):x.fdiv (2^n)=x/2^n:=by
 rw[Int.fdiv_eq_ediv_of_nonneg]
 exact Int.le_of_lt (Int.pow_pos (by decide))
theorem qi6 {op:BinOp}{kx ky:IntKind}{p q:Int}{k:RV N->Option β}{r:β}(h:q5h op kx p q k=some r):
  ∃z,k z=some r/\∃v,(∀(P:Program) (t:TypeId) (w:World),(binOp op t (.int kx p) (.int ky q)).run P w=.ok v w)/\∀w (own:List (Nat×Blk N)) E,q0a w own E z v:=by
 cases op<;>try(cases h;done)
 case shl=>
  simp only[q5h]at h
  split at h
  ·rename_i h0
   exact⟨_,h,_,fun P t w=>by rw[binOp_shl];simp only[Op.shift,if_neg (show¬q<0 by omega)];rfl,fun _ _ _=>rfl⟩
  ·cases h
 case shr=>
  simp only[q5h]at h
  split at h
  ·rename_i h0
   refine⟨_,h,.int kx (p/2^(min q.toNat kx.bits)),fun P t w=>?_,fun _ _ _=>rfl⟩
   rw[binOp_shr]
   simp only[Op.shift,if_neg (show¬q<0 by omega)]
   rw[<-qxe]
   rfl
  ·cases h
theorem qho (a b:ByteArray):q0o (a++b)=q0o a++q0o b:=by
 simp[q0o,ByteArray.data_append]
theorem q0r (a:ByteArray):(q0o a).length=a.size:=by
 simp only[q0o,List.length_map,Array.length_toList]
 rfl
theorem q7w (a b:ByteArray):(a.toList==b.toList)=decide (q0o a=q0o b):=by
 rw[Bool.eq_iff_iff,beq_iff_eq,decide_eq_true_eq,ByteArray.toList_eq,ByteArray.toList_eq]
 constructor
 ·intro h;simp[q0o,h]
 ·intro h;rw[q8s h]
theorem q6z (a b:ByteArray):Op.bytesLess a.toList b.toList=q0s (q0o a) (q0o b):=by
 rw[ByteArray.toList_eq,ByteArray.toList_eq,q7x];rfl
theorem qmv {op:BinOp}{s u:ByteArray}{k:RV N->Option β}{r:β}(h:qi9 op (q0o s) (q0o u) k=some r):
  ∃z,k z=some r/\∃v,(∀(P:Program) (t:TypeId) (w:World),(binOp op t (.string s) (.string u)).run P w=.ok v w)/\∀w (own:List (Nat×Blk N)) E,q0a w own E z v:=by
 cases op<;>try(cases h;done)
 case add=>
  simp only[qi9]at h
  split at h
  ·rename_i h0
   rw[q0r,q0r]at h0
   refine⟨_,h,.string (s++u),fun P t w=>?_,fun _ _ _=>⟨_,rfl,qho s u⟩⟩
   rw[binOp_string_add]
   simp only[Op.stringOp]
   rw[if_neg (by rw[IntKind.max_i64];unfold lim at h0;omega)]
   rfl
  ·cases h
 case eql=>exact⟨_,h,_,fun P t w=>by rw[binOp_string_eql,q7w];rfl,fun _ _ _=>rfl⟩
 case neq=>exact⟨_,h,_,fun P t w=>by rw[binOp_string_neq,q7w];rfl,fun _ _ _=>rfl⟩
 case lss=>exact⟨_,h,_,fun P t w=>by rw[binOp_string_lss,q6z];rfl,fun _ _ _=>rfl⟩
 case leq=>exact⟨_,h,_,fun P t w=>by simp only[binOp,Op.stringOp];rw[q6z,q7w,q7k];rfl,fun _ _ _=>rfl⟩
 case gtr=>exact⟨_,h,_,fun P t w=>by simp only[binOp,Op.stringOp];rw[q6z,q7w,q7k,Bool.not_not];rfl,fun _ _ _=>rfl⟩
 case geq=>exact⟨_,h,_,fun P t w=>by simp only[binOp,Op.stringOp];rw[q6z];rfl,fun _ _ _=>rfl⟩
theorem qqz {op:UnOp}{x:RV N}{k:RV N->Option β}{r:β}(h:evUn op x k=some r):
  ∃z,k z=some r/\∀(P:Program) w own E vx,q0a w own E x vx->∃v,(Op.unary op vx).run P w=.ok v w/\∀w own E,q0a (N:=N) w own E z v:=by
 unfold evUn at h
 split at h
 ·exact⟨_,h,fun P w own E vx hx=>⟨_,by rw[show vx=_ from hx];rfl,fun _ _ _=>rfl⟩⟩
 ·exact⟨_,h,fun P w own E vx hx=>⟨_,by rw[show vx=_ from hx];rfl,fun _ _ _=>rfl⟩⟩
 ·exact⟨_,h,fun P w own E vx hx=>⟨_,by rw[show vx=_ from hx];rfl,fun _ _ _=>rfl⟩⟩
 ·cases h
end
end Go.Eng

set_option linter.unusedVariables false
set_option linter.unusedSimpArgs false
namespace Go.Eng
variable {N:Names} {P:Program} {τ:TypeId->Option TI}
theorem Fits.part (F:Fits P N τ){t:TypeId}{ty:Ty}{e:TypeId}(h:τ t=some ⟨ty,e⟩){w w1:World}{ok:Nat->Prop}{x:ty.den N.ρ}{cs:List Value}{off:Nat}
  (hr:Rep w1 ok ty x ((cs.drop off).take (N.sz ty))) (hfit:off+N.sz ty<=cs.length):
  ∃v,(part t cs.toArray off).run P w=.ok v w/\AsV ty v ((cs.drop off).take (N.sz ty)):=by
 have hs:=F.sizeOf h w
 have ha:=F.isAgg h w
 unfold Go.part
 cases ty
 case nm n=>
  refine⟨.agg (cs.toArray.extract off (off+N.sz (.nm n))),?_,?_⟩
  ·simp only[Sem.run_bind,ha,Result.andThen_ok,hs,if_true,Sem.run_pure]
  ·show _=_
   congr 1
   rw[List.extract_toArray]
   congr 1
   simp[List.extract_eq_take_drop]
 all_goals
  simp only[Names.sz]at hfit ⊢
  have hlt:off<cs.length:=by omega
  refine⟨cs[off],?_,?_⟩
  ·simp[ha,hlt]
  ·show _=[_]
   rw[List.drop_eq_getElem_cons hlt]
   rfl
theorem qdi {d len:Nat}{t el:TypeId}{i:TypeInfo}{xs ys:Array Value}(ht:P.underlying t=some (.array len el))(hi:P.info? el=some i)(w:World):
  (Op.equalIn (d+1) t (.agg xs) (.agg ys)).run P w=(Op.eqFields d xs ys (qrv len el i.size)).run P w:=by
 have hs:∀w:World,(Go.sizeOf el).run P w=.ok i.size w:=fun w=>by simp[Go.sizeOf,typeInfo,hi]
 simp only[Op.equalIn,Sem.run_bind,run_underlying ht,Result.andThen_ok,hs]
 rw[Std.Legacy.Range.forIn_eq_forIn_range']
 unfold qrv
 simp only[Std.Legacy.Range.size,Nat.sub_zero,Nat.add_sub_cancel,Nat.div_one]
 generalize List.range' 0 len 1=l
 induction l generalizing w with
 |nil=>simp[Op.eqFields]
 | cons k l ih=>
  simp only[List.map_cons,List.forIn_cons,Op.eqFields,Sem.run_bind]
  rw[if_pos (by decide)]
  simp only[Sem.run_bind]
  generalize(part el xs (k*i.size)).run P w=r1
  cases r1 with
  | ok a w1=>
   simp only[Result.andThen_ok]
   generalize(part el ys (k*i.size)).run P w1=r2
   cases r2 with
   | ok b w2=>
    simp only[Result.andThen_ok]
    generalize(Op.equalIn d el a b).run P w2=r3
    cases r3 with
    | ok r w3=>
     cases r
     ·simp only[Result.andThen_ok,nF,if_true,Sem.run_pure]
     ·simp only[Result.andThen_ok,nT,Bool.false_eq_true,if_false,Sem.run_pure]
      exact ih w3
    |halt x w3=>simp[Result.andThen]
   |halt x w2=>simp[Result.andThen]
  |halt x w1=>simp[Result.andThen]
theorem qdh {d:Nat}{t e:TypeId}{fs:Array Field}{xs ys:Array Value}{w:World}(h1:qqh P t e fs)(h3:P.stoodInHeld t=false):
  (Op.equalIn (d+1) t (.agg xs) (.agg ys)).run P w=(Op.eqFields d xs ys fs.toList).run P w:=by
 rcases h1 with⟨_,h1⟩|⟨len,el,i,_,h1,h2,rfl⟩
 ·have hfo:P.fieldsOf t=fs:=by simp[Program.fieldsOf,h1]
  rw[run_equalIn_struct w d t _ _ (by rw[hfo];exact h1) h3,hfo]
 ·exact qdi h1 h2 w
theorem qt2 (F:Fits P N τ):∀(f:Nat) (ty:Ty) (x y:ty.den N.ρ) (b:Bool),eqD f ty x y=some b->∀(d:Nat) (t:TypeId) (e:TypeId) (w w1:World) (ok:Nat->Prop) cx cy vx vy,f<=d->
  τ t=some ⟨ty,e⟩->Rep w1 ok ty x cx->AsV ty vx cx->Rep w1 ok ty y cy->AsV ty vy cy->(Op.equalIn (d+1) t vx vy).run P w=.ok b w:=by
 intro f
 have flat:∀(f:Nat) (ty:Ty),(∀n,ty≠.nm n)->∀(x y:ty.den N.ρ) (b:Bool),eqD f ty x y=some b->∀(d:Nat) (t:TypeId) (e:TypeId) (w w1:World) (ok:Nat->Prop) cx cy vx vy,f<=d->
   τ t=some ⟨ty,e⟩->Rep w1 ok ty x cx->AsV ty vx cx->Rep w1 ok ty y cy->AsV ty vy cy->(Op.equalIn (d+1) t vx vy).run P w=.ok b w:=by
  intro f ty hn x y b h d t e w w1 ok cx cy vx vy hd ht hx hvx hy hvy
  have h1:=qgo hx hn hvx
  have h2:=qgo hy hn hvy
  subst h1
  subst h2
  cases ty with
  |nm n=>exact absurd rfl (hn n)
  |sl e=>cases f<;>cases h
  |opq=>cases f<;>cases h
  |int k=>
   have e1:vx=.int k x:=(List.cons.inj hx).1
   have e2:vy=.int k y:=(List.cons.inj hy).1
   subst e1 e2
   rw[run_equalIn_int w d t k k x y (F.int t k e ht).1]
   cases f<;>(simp only[eqD,Option.some.injEq]at h;subst h;rfl)
  |bool=>
   have e1:vx=.bool x:=(List.cons.inj hx).1
   have e2:vy=.bool y:=(List.cons.inj hy).1
   subst e1 e2
   rw[run_equalIn_bool' w d t x y (F.bool t e ht).1]
   cases f<;>(simp only[eqD,Option.some.injEq]at h;subst h;cases x<;>cases y<;>rfl)
  |str=>
   obtain⟨s,e1,hs⟩:=hx
   obtain⟨u,e2,hu⟩:=hy
   simp only[List.cons.injEq,and_true]at e1 e2
   subst e1 e2 hs hu
   rw[run_equalIn_string w d t s u (F.str t e ht).1,q7w]
   cases f<;>(simp only[eqD,Option.some.injEq]at h;subst h;rfl)
 induction f with
 |zero=>
  intro ty x y b h
  cases ty with
  |nm n=>cases h
  |_=>exact flat 0 _ (fun n hn=>by cases hn) x y b h
 | succ f ih=>
  intro ty x y b h
  cases ty with
  | nm n=>
   intro d t e w w1 ok cx cy vx vy hd ht hx hvx hy hvy
   obtain⟨fs,h1,h2,h3,_⟩:=F.nm t n e ht
   rw[show vx=_ from hvx,show vy=_ from hvy,qdh h1 h3]
   obtain⟨d,rfl⟩:∃m,d=m+1:=⟨d-1,by omega⟩
   have key:∀(ts:List Ty) (off:Nat) (fl:List Field) (X Y:HL N.ρ ts) (b:Bool),q2o N τ ts off fl->eqL (eqD f) ts X Y=some b->
     q98 w1 ok (q9l w1 ok) ts X (cx.drop off)->q98 w1 ok (q9l w1 ok) ts Y (cy.drop off)->off<=cx.length->off<=cy.length->(Op.eqFields (d+1) cx.toArray cy.toArray fl).run P w=.ok b w:=by
    intro ts
    induction ts with
    |nil=>
     intro off fl X Y b hf he hX hY _ _
     cases fl with
     |nil=>simp only[eqL,Option.some.injEq]at he;subst he;rfl
     |cons g fl=>exact hf.elim
    | cons ty ts iht=>
     intro off fl X Y b hf he hX hY ho1 ho2
     cases fl with
     |nil=>exact hf.elim
     | cons g fl=>
      obtain⟨f1,⟨e',f2⟩,f3,f4,f5⟩:=hf
      obtain⟨a1,a2,ea,k1,k2⟩:=hX
      obtain⟨b1,b2,eb,k3,k4⟩:=hY
      have l1:=q05 (show Rep w1 ok ty X.1 a1 from k1)
      have l3:=q05 (show Rep w1 ok ty Y.1 b1 from k3)
      have t1:(cx.drop off).take (N.sz ty)=a1:=by rw[ea,<-l1,List.take_left]
      have t3:(cy.drop off).take (N.sz ty)=b1:=by rw[eb,<-l3,List.take_left]
      have d1:cx.drop (off+N.sz ty)=a2:=by rw[<-List.drop_drop,ea,<-l1,List.drop_left]
      have d3:cy.drop (off+N.sz ty)=b2:=by rw[<-List.drop_drop,eb,<-l3,List.drop_left]
      have m1:off+N.sz ty<=cx.length:=by have:=congrArg List.length ea;rw[lD,lA]at this;omega
      have m3:off+N.sz ty<=cy.length:=by have:=congrArg List.length eb;rw[lD,lA]at this;omega
      obtain⟨va,p1,q1⟩:=F.part (w:=w) f2 (by rw[t1];exact k1) m1
      obtain⟨vb,p3,q3⟩:=F.part (w:=w) f2 (by rw[t3];exact k3) m3
      simp only[eqL]at he
      split at he
      ·rename_i r1 r2 hr1 hr2
       simp only[Option.some.injEq]at he
       have hq:=ih ty X.1 Y.1 r1 hr1 d g.type e' w w1 ok _ _ va vb (by omega) f2 (by rw[t1];exact k1) q1 (by rw[t3];exact k3) q3
       have hrest:=iht (off+N.sz ty) fl X.2 Y.2 r2 f5 hr2 (by rw[d1];exact k2) (by rw[d3];exact k4) m1 m3
       simp only[Op.eqFields]
       rw[if_pos f4,f1]
       simp only[Sem.run_bind,p1,p3,Result.andThen_ok,hq]
       cases r1 with
       |true=>simp only[nT,Bool.false_eq_true,if_false];rw[hrest,<-he];rfl
       |false=>simp only[nF,if_true];rw[<-he];rfl
      ·cases he
   exact key (N.body n) 0 fs.toList (N.un n x) (N.un n y) b h2 h (by simpa using q1l hx) (by simpa using q1l hy) (Nat.zero_le _) (Nat.zero_le _)
  |_=>exact flat (f+1) _ (fun n hn=>by cases hn) x y b h
theorem qmh (F:Fits P N τ){β:Type}{op:BinOp}{xt:TypeId}{x y:RV N}{k:RV N->Option β}{r:β}(h:qdb τ op xt x y k=some r):
  ∃z,k z=some r/\∀w own E vx vy X Y,q0a w own E x vx->q0a w own E y vy->∃v,(do eqGuard op xt X Y vx vy;binOp op xt vx vy).run P w=.ok v w/\q0a w own E z v:=by
 cases x with
 | int kx p=>
  cases y with
  | int ky q=>
   have hsh:∀o,q5h o kx p q k=some r->op=o->∃z,k z=some r/\∀w own E vx vy X Y,q0a w own E (.int kx p:RV N) vx->q0a w own E (.int ky q:RV N) vy->∃v,(do eqGuard op xt X Y vx vy;binOp op xt vx vy).run P w=.ok v w/\q0a w own E z v:=by
    intro o ho e
    subst e
    obtain⟨z,h1,v,h2,h3⟩:=qi6 (N:=N) (ky:=ky) ho
    refine⟨z,h1,fun w own E vx vy X Y hx hy=>⟨v,?_,h3 w own E⟩⟩
    rw[show vx=_ from hx,show vy=_ from hy,eqGuard_at_int]
    exact h2 P xt w
   have hin:op≠.shl->op≠.shr->(bif decide (kx=ky)then qi3 op kx p q k else none)=some r->∃z,k z=some r/\∀w own E vx vy X Y,q0a w own E (.int kx p:RV N) vx->q0a w own E (.int ky q:RV N) vy->∃v,(do eqGuard op xt X Y vx vy;binOp op xt vx vy).run P w=.ok v w/\q0a w own E z v:=by
    intro h1 h2 h3
    obtain⟨h4,h5⟩:=q02 h3
    have hk:kx=ky:=by simpa using h4
    subst hk
    obtain⟨z,g1,v,g2,g3⟩:=qmo (N:=N) h1 h2 h5
    refine⟨z,g1,fun w own E vx vy X Y hx hy=>⟨v,?_,g3 w own E⟩⟩
    rw[show vx=_ from hx,show vy=_ from hy,eqGuard_at_int]
    exact g2 P xt w
   cases op<;>first
    |exact hsh .shl h rfl
    |exact hsh .shr h rfl
    |exact hin (by decide) (by decide) h
  |_=>cases h
 | str l=>
  cases y with
  | str m=>
   have h':qi9 op l m k=some r:=h
   by_cases hs:∃s,q0o s=l
   ·obtain⟨s,rfl⟩:=hs
    by_cases hu:∃u,q0o u=m
    ·obtain⟨u,rfl⟩:=hu
     obtain⟨z,h1,v,h2,h3⟩:=qmv (N:=N) h'
     refine⟨z,h1,fun w own E vx vy X Y hx hy=>⟨v,?_,h3 w own E⟩⟩
     obtain⟨s',rfl,es⟩:=hx
     obtain⟨u',rfl,eu⟩:=hy
     rw[q8s es,q8s eu,eqGuard_at_string]
     exact h2 P xt w
    ·obtain⟨z,hz⟩:∃z,k z=some r:=by
      cases op<;>simp only[qi9]at h'<;>first|exact⟨_,h'⟩|cases h'|(split at h'<;>first|exact⟨_,h'⟩|cases h')
     exact⟨z,hz,fun w own E vx vy X Y hx hy=>by obtain⟨u',_,eu⟩:=hy;exact absurd ⟨u',eu⟩ hu⟩
   ·obtain⟨z,hz⟩:∃z,k z=some r:=by
     cases op<;>simp only[qi9]at h'<;>first|exact⟨_,h'⟩|cases h'|(split at h'<;>first|exact⟨_,h'⟩|cases h')
    exact⟨z,hz,fun w own E vx vy X Y hx hy=>by obtain⟨s',_,es⟩:=hx;exact absurd ⟨s',es⟩ hs⟩
  |_=>cases h
 | bool p=>
  cases y with
  | bool q=>
   simp only[qdb]at h
   split at h
   ·rename_i e hτ
    have hu:=(F.bool xt _ hτ).1
    split at h
    ·exact⟨_,h,fun w own E vx vy X Y hx hy=>⟨.bool (p==q),by rw[show vx=_ from hx,show vy=_ from hy,eqGuard_at_bool];exact run_eql_bool w xt p q hu,by cases p<;>cases q<;>rfl⟩⟩
    ·exact⟨_,h,fun w own E vx vy X Y hx hy=>⟨.bool (!(p==q)),by rw[show vx=_ from hx,show vy=_ from hy,eqGuard_at_bool];exact run_neq_bool w xt p q hu,by cases p<;>cases q<;>rfl⟩⟩
    ·cases h
   ·cases h
  |_=>cases h
 | data t a bs=>
  cases t with
  | nm n=>
   cases y with
   | data t' b bs'=>
    simp only[qdb]at h
    split at h
    ·rename_i m e hτ
     split at h
     ·rename_i a' b' ha hb
      split at h
      ·rename_i c hc
       obtain⟨ea,rfl⟩:=q0b ha
       obtain⟨eb,rfl⟩:=q0b hb
       cases ea
       subst eb
       obtain⟨fs,u1,_,u3,u4,_⟩:=F.nm xt n e hτ
       have hrun:∀w own E vx vy,q0a w own E (.data (.nm n) a bs:RV N) vx->q0a w own E (.data (.nm n) b bs':RV N) vy->∃xs ys,vx=.agg xs/\vy=.agg ys/\(Op.equalIn 10000 xt vx vy).run P w=.ok c w:=by
        rintro w own E vx vy ⟨cx,h1,h2⟩ ⟨cy,h3,h4⟩
        refine⟨_,_,h2,h4,?_⟩
        have e1:Rep w (fun _=>True) (.nm n) a cx:=q09 (fun _ _ _ h=>h) (fun _ _=>trivial) h1
        have e3:Rep w (fun _=>True) (.nm n) b cy:=q09 (fun _ _ _ h=>h) (fun _ _=>trivial) h3
        exact qt2 F 4 (.nm n) a b c hc 9999 xt e w w _ cx cy vx vy (by omega) hτ e1 h2 e3 h4
       split at h
       ·refine⟨_,h,fun w own E vx vy X Y hx hy=>⟨.bool c,?_,rfl⟩⟩
        obtain⟨xs,ys,rfl,rfl,hr⟩:=hrun w own E vx vy hx hy
        rw[Sem.run_bind,run_eqGuard_agg w _ xt X Y xs ys u4,Result.andThen_ok,run_eql_struct,hr]
        rfl
       ·refine⟨_,h,fun w own E vx vy X Y hx hy=>⟨.bool (!c),?_,rfl⟩⟩
        obtain⟨xs,ys,rfl,rfl,hr⟩:=hrun w own E vx vy hx hy
        rw[Sem.run_bind,run_eqGuard_agg w _ xt X Y xs ys u4,Result.andThen_ok,run_neq_struct,hr]
        rfl
       ·cases h
      ·cases h
     ·cases h
    ·cases h
   |_=>cases h
  |_=>cases h
 |_=>cases h
end Go.Eng

set_option linter.unusedVariables false
set_option linter.unusedSimpArgs false
namespace Go.Eng
variable {N:Names} {P:Program} {τ:TypeId->Option TI} {β:Type}
abbrev KK (N:Names) (β:Type):=Slot N->List (Nat×Blk N)->Option β
def Runs (P:Program)(σ:St N)(s:Operand->Value->Prop):Prop:=True
def q2n (P:Program)(σ:St N)(run:Act->Sem Value)(s:Slot N)(ad:List (Nat×Blk N)):Prop:=
 ∀io w0 E a w,RelE io w0 σ E a w->∃v w' E',(run a).run P w=.ok v w'/\RelE io w0 {σ with own:=q0d ad σ.own} E' a w'/\q43 w' (q0d ad σ.own) E' s v
theorem q2n.pure {σ:St N}{run:Act->Sem Value}{r:RV N}(h:∀io w0 E a w,RelE io w0 σ E a w->∃v,(run a).run P w=.ok v w/\q0a w σ.own E r v):q2n P σ run (.one r) []:=
 fun io w0 E a w hr=>let⟨v,h1,h2⟩:=h io w0 E a w hr;⟨v,w,E,h1,hr,h2⟩
theorem q3m (g o n:Nat):(⟨g,o,none⟩:Addr).add n=⟨g,o+n,none⟩:=by
 unfold Addr.add;split<;>simp_all
def qvk:Ty->Bool
 |.int _=>true
 |.bool=>true
 |.str=>true
 |_=>false
def qhm (N:Names)(n:Nat):Option (Ty×Nat):=match N.elT n with
 |some T=>bif qvk T&&(N.body n).all (fun t=>decide (t=T))&&Nat.blt 0 (N.body n).length then some (T,(N.body n).length)else none
 |none=>none
def qhd (len:Nat):Nat:=2*qgb+len
theorem qbe (len:Nat):2*qgb<=qhd len:=Nat.le_add_right _ _
theorem qj9 {m n:Nat}(h:qhd m=2*qgb+n):m=n:=Nat.add_left_cancel h
theorem q6y:∀(ts:List Ty) (T:Ty),(ts.all fun t=>decide (t=T))=true->ts=List.replicate ts.length T
 |[],_,_=>rfl
 |t::ts,T,h=>by
  simp only[List.all_cons,Bool.and_eq_true,decide_eq_true_eq]at h
  rw[lC,List.replicate_succ,h.1,<-q6y ts T h.2]
theorem qa8:∀(ts:List Ty) (off:Nat) (fs:List Field),q2o N τ ts off fs->ts.length=fs.length
 |[],_,[],_=>rfl
 |[],_,_::_,h=>h.elim
 |_::_,_,[],h=>h.elim
 |_::ts,_,_::fs,⟨_,_,_,_,h⟩=>by rw[lC,lC,qa8 ts _ fs h]
theorem qbq (F:Fits P N τ){t:TypeId}{n len:Nat}{e:TypeId}{T:Ty}(hτ:τ t=some ⟨.nm n,e⟩)(ha:qhm N n=some (T,len))(he:e≠0):
  ∃el e',P.underlying t=some (.array len el)/\τ el=some ⟨T,e'⟩/\N.body n=List.replicate len T/\0<len/\qvk T=true:=by
 unfold qhm at ha
 split at ha
 ·rename_i T' hT
  obtain⟨hc,h⟩:=q02 ha
  cases h
  simp only[Bool.and_eq_true]at hc
  obtain⟨⟨h1,h2⟩,h3⟩:=hc
  have h3:0<(N.body n).length:=Nat.le_of_ble_eq_true h3
  obtain⟨fs,hf,h4,_⟩:=F.nm t n e hτ
  rcases hf with⟨h0,_⟩|⟨len',el,i,he',hu,hi,hfs⟩
  ·exact absurd h0 he
  ·subst hfs
   have hl:=qa8 _ _ _ h4
   have hl2:(qrv len' el i.size).toArray.toList.length=len':=by simp[qrv]
   have hlen:len'=(N.body n).length:=by rw[hl,hl2]
   have hb:=q6y _ _ h2
   rw[hlen]at hu h4
   refine⟨el,?_⟩
   cases hbo:N.body n with
   |nil=>rw[hbo]at h3;cases h3
   | cons t0 ts=>
    rw[hbo]at h4 hb
    obtain⟨m,hm⟩:∃m,(t0::ts).length=m+1:=⟨ts.length,rfl⟩
    have hv : (qrv (t0 :: ts).length el i.size).toArray.toList = ({ name := "x", type := el, offset := 0 * i.size, embedded := false, tag := "", pkgPath := "", byteOffset := 0 } : Field) :: ((List.range' 1 m).map fun i' => { name := "x", type := el, offset := i' * i.size, embedded := false, tag := "", pkgPath := "", byteOffset := 0 }) := by
     rw[hm]
     simp only[qrv,List.range'_succ,List.map_cons,List.toArray_cons,Nat.zero_add]
    rw[hv]at h4
    obtain⟨_,⟨e',h5⟩,_⟩:=h4
    have ht0:t0=T:=by
     rw[hm,List.replicate_succ]at hb
     exact(List.cons.inj hb).1
    rw[ht0]at h5
    refine⟨e',by rw[hbo]at hu;exact hu,h5,hb,by simp,h1⟩
 ·cases ha
theorem qlg {w:World}{ok:Nat->Prop}{T:Ty}:∀(xs:List (T.den N.ρ)) (ts:List Ty) (x:HL N.ρ ts) (cells:List Value),ts=List.replicate xs.length T->(∀(m:Nat) z,xs[m]?=some z->q8h N.ρ ts x m=some ⟨T,z⟩)->
  q6v (Rep w ok T) xs cells->q98 w ok (q9l w ok) ts x cells
 |[],ts,x,cells,ht,hg,hr=>by
  subst ht
  exact hr
 |y::ys,ts,x,cells,ht,hg,hr=>by
  subst ht
  obtain⟨c1,c2,e,h1,h2⟩:=hr
  refine⟨c1,c2,e,?_,qlg ys _ x.2 c2 rfl (fun m z hm=>hg (m+1) z hm) h2⟩
  have h0:=hg 0 y rfl
  simp only[lC,List.replicate_succ,q8h,Option.some.injEq,Sigma.mk.injEq,heq_eq_eq,true_and]at h0
  show Rep w ok T x.1 c1
  rw[h0]
  exact h1
theorem qfs {w:World}{ok:Nat->Prop}{T:Ty}:∀(xs:List (T.den N.ρ)) (ts:List Ty) (x:HL N.ρ ts) (cells:List Value),ts=List.replicate xs.length T->(∀(m:Nat) z,xs[m]?=some z->q8h N.ρ ts x m=some ⟨T,z⟩)->
  q98 w ok (q9l w ok) ts x cells->q6v (Rep w ok T) xs cells
 |[],ts,x,cells,ht,hg,hr=>by
  subst ht
  exact hr
 |y::ys,ts,x,cells,ht,hg,hr=>by
  subst ht
  obtain⟨c1,c2,e,h1,h2⟩:=hr
  refine⟨c1,c2,e,?_,qfs ys _ x.2 c2 rfl (fun m z hm=>hg (m+1) z hm) h2⟩
  have h0:=hg 0 y rfl
  simp only[lC,List.replicate_succ,q8h,Option.some.injEq,Sigma.mk.injEq,heq_eq_eq,true_and]at h0
  have h1:Rep w ok T x.1 c1:=h1
  rw[h0]at h1
  exact h1
theorem q9i (T:Ty):∀(len m:Nat),m<=len->q5a N (List.replicate len T) m=m*N.sz T
 |len,0,_=>by cases len<;>simp[q5a]
 |0,m+1,h=>by omega
 |len+1,m+1,h=>by rw[List.replicate_succ,q5a,q9i T len m (by omega),Nat.add_mul,Nat.one_mul,Nat.add_comm]
theorem qd2 (F:Fits P N τ){t el e':TypeId}{T:Ty}{len:Nat}(hu:P.underlying t=some (.array len el))(hel:τ el=some ⟨T,e'⟩)(ad:Addr)(kk:IntKind)(n:Int)(h0:0<=n)(h1:n<len)(w:World):
  (Instr.indexAt t (.pointer (some ad)) (.int kk n)).run P w=.ok (.pointer (some (ad.add (n.toNat*N.sz T)))) w:=by
 have hs:=F.sizeOf hel w
 simp[Instr.indexAt,asIntOf,run_underlying hu,Instr.sureAddr,h0,h1,hs]
def q5z (own:List (Nat×Blk N))(n:Nat)(e:TypeId)(x i:RV N)(k:KK N β):Option β:=
 match qhm N n with
 | some (T,len)=>bif Nat.beq e 0 then none else match i with
  | .int _ m=>match x with
   |.optr id 0 0=>match look own id with
    |some (.row e' T' _ _ _)=>bif Nat.beq e' (qhd len)&&decide (T'=T)then if 0<=m then if m<(len:Int)then k (.one (.optr id m.toNat 0)) []else none else none else none
    |_=>none
   | .sptr t' v bs=>match q0u N t' (.nm n) v with
    |some v=>match N.lst n T v with
     |some l=>if 0<=m then if m<(len:Int)then k (.one (.sptr T (l.getD m.toNat (N.dflt T)) bs)) []else none else none
     |none=>none
    |none=>none
   |_=>none
  |_=>none
 |none=>none
theorem qqk.arr {w:World}{len size n:Nat}{v:Value}{xs:List Value}(h:qqk w (qhd len) size v n xs)(hlen:0<len):
  n=len\/(v=.slice none 0 0/\n=0):=by
 rcases h.2 with hn|⟨g,cap,cur,T,fz,h1,h2,h3,h4,h5⟩
 ·exact .inr hn
 ·exact .inl (qj9 (h4.2 (qbe len)).2).symm
theorem qgg (F:Fits P N τ){σ:St N}{t:TypeId}{n:Nat}{e:TypeId}(hτ:τ t=some ⟨.nm n,e⟩){x i:Operand}{k:KK N β}{r:β}(h:q5z σ.own n e (ev σ x) (ev σ i) k=some r):
  ∃s ad,k s ad=some r/\q2n P σ (fun a=>Instr.indexAt t (a.eval x) (a.eval i)) s ad:=by
 unfold q5z at h
 split at h
 ·rename_i T len ha
  cases hb:Nat.beq e 0 with
  |true=>rw[hb]at h;cases h
  |false=>
  rw[hb]at h
  simp only[cF]at h
  obtain⟨el,e',hu,hel,hbody,hlen,_⟩:=qbq F hτ ha (fun e0=>by rw[e0]at hb;cases hb)
  split at h
  ·rename_i kk m hi
   have hi':∀{io w0 E a w},RelE io w0 σ E a w->a.eval i=.int kk m:=fun hr=>by
    have:=hr.ev i
    rw[hi]at this
    exact this
   split at h
   ·rename_i id hx
    split at h
    ·rename_i e1 T' xs bs p hl
     obtain⟨hc,h2⟩:=q02 h
     clear h
     simp only[Bool.and_eq_true,decide_eq_true_eq]at hc
     obtain⟨hc1,rfl⟩:=hc
     have hc1:=Nat.eq_of_beq_eq_true hc1
     subst hc1
     split at h2
     ·rename_i h0
      split at h2
      ·rename_i h1
       refine⟨_,_,h2,q2n.pure fun io w0 E a w hr=>?_⟩
       have hx':=hr.ev x
       rw[hx]at hx'
       obtain⟨g,cap,n',t2,⟨e2,xs2,bs2,p2,q1,q2⟩,k2,k3,k4⟩:=hx'
       rw[hl]at q1
       cases q1
       subst q2
       obtain⟨cells,c1,_⟩:=hr.own id _ hl
       have hn:xs.length=len:=by
        rcases c1.arr hlen with hn|⟨hv,_⟩
        ·exact hn
        ·rw[k3]at hv;cases hv
       refine⟨_,by rw[k4,hi' hr];exact qd2 F hu hel _ kk m h0 h1 w,g,cap,xs.length,T',⟨_,xs,bs,p,hl,rfl⟩,by omega,k3,?_⟩
       rw[q3m,Nat.zero_mul,Nat.zero_add,Nat.add_zero]
      ·cases h2
     ·cases h2
    ·cases h
   ·rename_i t' v bs hx
    split at h
    ·rename_i v' hv'
     split at h
     ·rename_i l hl
      split at h
      ·rename_i h0
       split at h
       ·rename_i h1
        refine⟨_,_,h,q2n.pure fun io w0 E a w hr=>?_⟩
        have hx':=hr.ev x
        rw[hx]at hx'
        obtain⟨ad,cs,g1,g2,g3,g4⟩:=hx'
        obtain⟨et,rfl⟩:=q0b hv'
        subst et
        obtain⟨l1,l2⟩:=N.lst_ok n T v l hl
        have hlt:m.toNat<l.length:=by rw[l1,hbody,List.length_replicate];omega
        have hg:=l2 m.toNat l[m.toNat] (gE hlt)
        have hg':qf9 (N.body n) (N.un n v) m.toNat=some ⟨T,l[m.toNat]⟩:=by rw[qu5,hg];rfl
        obtain⟨k1,k2⟩:=qas (N.body n) (N.un n v) m.toNat _ cs hg' (q1l g3)
        have hoff:q5a N (N.body n) m.toNat=m.toNat*N.sz T:=by rw[hbody];exact q9i T len _ (by omega)
        rw[hoff]at k1
        refine⟨_,by rw[g1,hi' hr];exact qd2 F hu hel ad kk m h0 h1 w,ad.add (m.toNat*N.sz T),(cs.drop (m.toNat*N.sz T)).take (N.sz T),rfl,by rw[q1e];exact g2,?_,fun j u hu=>?_⟩
        ·rw[gQ,gE hlt]
         exact k1
        ·rw[q4m]
         exact g4 _ _ (q2x hu)
       ·cases h
      ·cases h
     ·cases h
    ·cases h
   ·cases h
  ·cases h
 ·cases h
def q5g (ty:Ty)(e':TypeId)(T':Ty)(xs:List (T'.den N.ρ))(bs:List Nat)(i off:Nat)(k:KK N β):Option β:=
 match ty with
 | .nm n=>match qhm N n with
  | some (T,len)=>bif Nat.beq e' (qhd len)&&Nat.beq i 0&&Nat.beq off 0 then match q0u N (.sl T') (.sl T) xs with
   |some xs=>match N.ofL n T xs with
    |some y=>k (.one (.data (.nm n) y bs)) []
    |none=>none
   |none=>none
   else none
  |none=>none
 |_=>none
theorem qgs {n len:Nat}{T:Ty}(ha:qhm N n=some (T,len)):N.body n=List.replicate len T/\0<len:=by
 unfold qhm at ha
 split at ha
 ·obtain⟨hc,h⟩:=q02 ha
  cases h
  simp only[Bool.and_eq_true]at hc
  exact⟨q6y _ _ hc.1.2,Nat.le_of_ble_eq_true hc.2⟩
 ·cases ha
theorem q4f {ty:Ty}{e':TypeId}{T':Ty}{xs:List (T'.den N.ρ)}{bs:List Nat}{i off:Nat}{k:KK N β}{r:β}(h:q5g ty e' T' xs bs i off k=some r):
  ∃n y,ty=.nm n/\i=0/\off=0/\k (.one (.data (.nm n) y bs)) []=some r/\(∀{β':Type} (k':KK N β'),q5g ty e' T' xs bs i off k'=k' (.one (.data (.nm n) y bs)) [])/\
   ∀{w:World} {ok:Nat->Prop} {v:Value} {cells:List Value},qqk w e' (N.sz T') v xs.length cells->v≠.slice none 0 0->q6v (Rep w ok T') xs cells->Rep w ok (.nm n) y cells:=by
 unfold q5g at h
 split at h
 ·rename_i n
  split at h
  ·rename_i T len ha
   obtain⟨hc,h2⟩:=q02 h
   clear h
   have hc0:=hc
   simp only[Bool.and_eq_true]at hc
   obtain⟨⟨h1,hi⟩,ho⟩:=hc
   have h1:=Nat.eq_of_beq_eq_true h1
   have hi:=Nat.eq_of_beq_eq_true hi
   have ho:=Nat.eq_of_beq_eq_true ho
   split at h2
   ·rename_i xs' hxs
    split at h2
    ·rename_i y hy
     refine⟨n,y,rfl,hi,ho,h2,fun k'=>by simp only[q5g,ha,hc0,cT,hxs,hy],?_⟩
     intro w ok v cells hown hv hrow
     obtain⟨et,rfl⟩:=q0b hxs
     cases et
     obtain⟨hb,hlen⟩:=qgs ha
     subst h1
     have hn:xs.length=len:=by
      rcases hown.arr hlen with hn|⟨hv',_⟩
      ·exact hn
      ·exact absurd hv' hv
     refine q3d (qlg xs _ _ _ (by rw[hn,hb]) ?_ hrow)
     exact N.ofL_ok n _ xs y (by rw[hb,List.length_replicate,hn]) hy
    ·cases h2
   ·cases h2
  ·cases h
 ·cases h
def q48 (own:List (Nat×Blk N))(n:Nat)(e:TypeId)(x:RV N)(lo hi:Option Operand)(k:KK N β):Option β:=
 match qhm N n,lo,hi with
 | some (T,len),none,none=>bif Nat.beq e 0 then none else match x with
  |.optr id 0 0=>match look own id with
   |some (.row e' T' _ _ _)=>bif Nat.beq e' (qhd len)&&decide (T'=T)then k (.one (.own id)) []else none
   |_=>none
  |_=>none
 |_,_,_=>none
theorem qdd (F:Fits P N τ){σ:St N}{t:TypeId}{n:Nat}{e:TypeId}(hτ:τ t=some ⟨.nm n,e⟩){x:Operand}{lo hi:Option Operand}{k:KK N β}{r:β}(h:q48 σ.own n e (ev σ x) lo hi k=some r):
  ∃s ad,k s ad=some r/\q2n P σ (fun a=>Instr.sliceAt t (a.eval x) (lo.map a.eval) (hi.map a.eval) none) s ad:=by
 unfold q48 at h
 split at h
 ·rename_i T len ha
  cases hb:Nat.beq e 0 with
  |true=>rw[hb]at h;cases h
  |false=>
  rw[hb]at h
  simp only[cF]at h
  obtain⟨el,e',hu,hel,hbody,hlen,_⟩:=qbq F hτ ha (fun e0=>by rw[e0]at hb;cases hb)
  split at h
  ·rename_i id hx
   split at h
   ·rename_i e1 T' xs bs p hl
    obtain⟨hc,h2⟩:=q02 h
    clear h
    simp only[Bool.and_eq_true,decide_eq_true_eq]at hc
    obtain⟨hc1,rfl⟩:=hc
    have hc1:=Nat.eq_of_beq_eq_true hc1
    subst hc1
    refine⟨_,_,h2,q2n.pure fun io w0 E a w hr=>?_⟩
    have hx':=hr.ev x
    rw[hx]at hx'
    obtain⟨g,cap,n',t2,⟨e2,xs2,bs2,p2,q1,q2⟩,k2,k3,k4⟩:=hx'
    rw[hl]at q1
    cases q1
    subst q2
    obtain⟨cells,c1,_⟩:=hr.own id _ hl
    rcases c1.2 with⟨hv,hn⟩|⟨g',cap',cur,T0,fz,hv,hg,hfz,hT0,_⟩
    ·rw[k3]at hv;cases hv
    ·rw[k3]at hv
     simp only[Value.slice.injEq,Option.some.injEq,Addr.mk.injEq]at hv
     obtain⟨⟨rfl,_⟩,_,rfl⟩:=hv
     obtain⟨t1,t2⟩:=hT0.2 (qbe len)
     have hn:xs.length=len:=(qj9 t2).symm
     have hs:=F.sizeOf hel w
     refine⟨.slice (some ⟨g,0,none⟩) len len,?_,by rw[k3,t1,hn],xs.length,T',_,xs,bs,p,hl,rfl⟩
     rw[k4]
     have h0:¬len=0:=by omega
     simp[Instr.sliceAt,run_underlying hu,Instr.sureAddr,Instr.sliceBounds,hs,h0,q3m]
   ·cases h
  ·cases h
 ·cases h
def qj5 (tv:Ty)(y:tv.den N.ρ)(e':TypeId)(T':Ty)(i off:Nat):Option (List (T'.den N.ρ)):=
 match tv,y with
 | .nm n,y=>match qhm N n with
  |some (T,len)=>bif Nat.beq e' (qhd len)&&Nat.beq i 0&&Nat.beq off 0 then match N.lst n T y with
   |some l=>q0u N (.sl T) (.sl T') l
   |none=>none
   else none
  |none=>none
 |_,_=>none
theorem qj6 {tv:Ty}{y:tv.den N.ρ}{e':TypeId}{T':Ty}{i off:Nat}{l:List (T'.den N.ρ)}(h:qj5 tv y e' T' i off=some l):
  i=0/\off=0/\∃len,0<len/\e'=qhd len/\l.length=len/\∀{w:World} {ok:Nat->Prop} {cells:List Value},Rep w ok tv y cells->q6v (Rep w ok T') l cells:=by
 unfold qj5 at h
 split at h
 ·rename_i n y
  split at h
  ·rename_i T len ha
   obtain⟨hc,h2⟩:=q02 h
   simp only[Bool.and_eq_true]at hc
   obtain⟨⟨h1,hi⟩,ho⟩:=hc
   split at h2
   ·rename_i l' hl
    obtain⟨et,rfl⟩:=q0b h2
    cases et
    obtain⟨hb,hlen⟩:=qgs ha
    obtain⟨l1,l2⟩:=N.lst_ok n _ y l' hl
    have hll:l'.length=len:=by rw[l1,hb,List.length_replicate]
    refine⟨Nat.eq_of_beq_eq_true hi,Nat.eq_of_beq_eq_true ho,len,hlen,Nat.eq_of_beq_eq_true h1,hll,?_⟩
    intro w ok cells hr
    exact qfs l' _ _ _ (by rw[hll,hb]) l2 (q1l hr)
   ·cases h2
  ·cases h
 ·cases h
end Go.Eng

set_option linter.unusedVariables false
set_option linter.unusedSimpArgs false
namespace Go.Eng
variable {N:Names} {P:Program} {τ:TypeId->Option TI} {β:Type}
def q61 (τ:TypeId->Option TI)(own:List (Nat×Blk N))(ty:TypeId)(dst:Option Nat)(r:RV N)(k:KK N β):Option β:=
 match r with
 | .nil=>match τ ty with
  | some ⟨.sl e,el⟩=>match dst with
   |some d=>match look own (1000+d)with
    |none=>k (.one (.own (1000+d))) [(1000+d,.row el e [] [] false)]
    |some _=>none
   |none=>none
  |_=>k (.one .nil) []
 |r=>k (.one r) []
theorem q88 {σ:St N}{ty:TypeId}{dst:Option Nat}{x:Operand}{k:KK N β}{r:β}(h:q61 τ σ.own ty dst (ev σ x) k=some r):
  ∃s ad,k s ad=some r/\q2n P σ (fun a=>pure (a.eval x)) s ad:=by
 have plain:∀y,ev σ x=y->k (.one y) []=some r->∃s ad,k s ad=some r/\q2n P σ (fun a=>pure (a.eval x)) s ad:=fun y hy hk=>
  ⟨_,_,hk,q2n.pure fun io w0 E a w hr=>⟨_,rfl,by rw[<-hy];exact hr.ev x⟩⟩
 unfold q61 at h
 split at h
 ·rename_i hx
  split at h
  ·rename_i e el hτ
   split at h
   ·rename_i d
    split at h
    ·rename_i hl
     refine⟨_,_,h,fun io w0 E a w hr=>?_⟩
     have hv:a.eval x=.slice none 0 0:=by
      have:=hr.ev x
      rw[hx]at this
      exact this
     have hadd:=hr.add (Ext.refl w) (V:=.slice none 0 0) (b:=.row el e [] [] false) hl (fun g hg=>by cases hg)
      ⟨[],by rw[q06];exact⟨by simp,.inl ⟨rfl,rfl⟩⟩,rfl⟩
     refine⟨_,w,_,rfl,hadd,?_,?_⟩
     ·rw[q06];exact hv
     ·exact⟨0,e,el,[],[],false,by rw[show q0d [(1000+d,Blk.row el e [] [] false)] σ.own=ins _ _ σ.own from rfl,q08,if_pos rfl],rfl⟩
    ·cases h
   ·cases h
  ·exact plain _ hx h
 ·exact plain _ rfl h
theorem q6w:∀(ts:List Ty) (off:Nat) (fs:List Field) (x:HL N.ρ ts) (i:Nat) (tv:TV N),q2o N τ ts off fs->qf9 ts x i=some tv->
  ∃f e,fs[i]?=some f/\f.offset=off+q5a N ts i/\τ f.type=some ⟨tv.t,e⟩/\N.sz tv.t≠0
 |[],_,_,_,_,_,_,h=>by cases h
 |t::ts,off,[],_,_,_,hf,_=>hf.elim
 |t::ts,off,f::fs,x,0,tv,hf,h=>by
  simp only[qf9,Option.some.injEq]at h
  subst h
  obtain⟨f1,⟨e,f2⟩,f3,_,_⟩:=hf
  exact⟨f,e,rfl,by simp[q5a,f1],f2,f3⟩
 |t::ts,off,f::fs,x,i+1,tv,hf,h=>by
  obtain⟨_,_,_,_,f5⟩:=hf
  obtain⟨f',e,h1,h2,h3,h4⟩:=q6w ts _ fs x.2 i tv f5 (by simpa[qf9]using h)
  exact⟨f',e,by simpa using h1,by rw[h2];simp[q5a,Nat.add_assoc],h3,h4⟩
def qao:List Ty->Nat->Bool
 |[],_=>false
 |_::_,0=>true
 |_::ts,i+1=>qao ts i
theorem q6x:∀(ts:List Ty) (off:Nat) (fs:List Field) (i:Nat),q2o N τ ts off fs->qao ts i=true->
  ∃f e ty,fs[i]?=some f/\f.offset=off+q5a N ts i/\τ f.type=some ⟨ty,e⟩/\N.sz ty≠0
 |[],_,_,_,_,h=>by cases h
 |t::ts,off,[],_,hf,_=>hf.elim
 |t::ts,off,f::fs,0,hf,h=>by
  obtain⟨f1,⟨e,f2⟩,f3,_,_⟩:=hf
  exact⟨f,e,t,rfl,by simp[q5a,f1],f2,f3⟩
 |t::ts,off,f::fs,i+1,hf,h=>by
  obtain⟨_,_,_,_,f5⟩:=hf
  obtain⟨f',e,ty,h1,h2,h3,h4⟩:=q6x ts _ fs i f5 (by simpa[qao]using h)
  exact⟨f',e,ty,by simpa using h1,by rw[h2];simp[q5a,Nat.add_assoc],h3,h4⟩
def q1q (τ:TypeId->Option TI)(xt:TypeId)(x:RV N)(f:Nat)(k:KK N β):Option β:=
 match τ xt with
 | some ⟨.nm m,e⟩=>bif Nat.beq e 0 then match x with
  | .sptr t v bs=>match q0u N t (.nm m) v with
   |some v=>match qf9 (N.body m) (N.un m v) f with
    |some tv=>k (.one (.sptr tv.t tv.x bs)) []
    |none=>none
   |none=>none
  |.bptr id off=>bif qao (N.body m) f then k (.one (.bptr id (off+q5a N (N.body m) f))) []else none
  |.optr id i off=>bif qao (N.body m) f then k (.one (.optr id i (off+q5a N (N.body m) f))) []else none
  |_=>none
  else none
 |_=>none
theorem qa3 (F:Fits P N τ){xt:TypeId}{fs:Array Field}(u1:P.underlying xt=some (.struct fs)){f:Nat}{fd:Field}{ty:Ty}{e:TypeId}(g1:fs.toList[f]?=some fd)(g3:τ fd.type=some ⟨ty,e⟩)(g4:N.sz ty≠0)(ad:Addr)(w:World):
  (Instr.fieldAt xt (.pointer (some ad)) f).run P w=.ok (.pointer (some (ad.add fd.offset))) w:=by
 have g1':fs[f]?=some fd:=by simpa using g1
 have hs:=F.sizeOf g3 w
 simp only[Instr.fieldAt,Sem.run_bind,run_underlying u1,Result.andThen_ok,g1',Instr.sureAddr,Sem.run_pure,fieldPlace,hs,g4,if_false]
theorem qbx (F:Fits P N τ){σ:St N}{xt:TypeId}{x:Operand}{f:Nat}{k:KK N β}{r:β}(h:q1q τ xt (ev σ x) f k=some r):
  ∃s ad,k s ad=some r/\q2n P σ (fun a=>Instr.fieldAt xt (a.eval x) f) s ad:=by
 unfold q1q at h
 split at h
 ·rename_i m e hτ
  obtain⟨he,h⟩:=q02 h
  obtain⟨fs,u1,u2,_⟩:=F.nm xt m e hτ
  have u1:=u1.struct (Nat.eq_of_beq_eq_true he)
  split at h
  ·rename_i t v bs hx
   split at h
   ·rename_i v' hv'
    split at h
    ·rename_i tv htv
     refine⟨_,_,h,q2n.pure fun io w0 E a w hr=>?_⟩
     have hx':=hr.ev x
     rw[hx]at hx'
     obtain⟨ad,cs,h1,h2,h3,h4⟩:=hx'
     obtain⟨et,rfl⟩:=q0b hv'
     subst et
     obtain⟨k1,k2⟩:=qas (N.body m) (N.un m v) f tv cs htv (q1l h3)
     obtain⟨fd,e',g1,g2,g3,g4⟩:=q6w _ 0 _ _ f tv u2 htv
     rw[Nat.zero_add]at g2
     refine⟨_,by rw[h1];exact qa3 F u1 g1 g3 g4 ad w,ad.add fd.offset,_,rfl,by rw[q1e];exact h2,k1,fun j u hu=>?_⟩
     rw[q4m,g2]
     exact h4 _ _ (q2x hu)
    ·cases h
   ·cases h
  ·rename_i id off hx
   obtain⟨hf,h⟩:=q02 h
   refine⟨_,_,h,q2n.pure fun io w0 E a w hr=>?_⟩
   have hx':=hr.ev x
   rw[hx]at hx'
   obtain⟨h1,g,h2,h3⟩:=hx'
   obtain⟨fd,e',ty,g1,g2,g3,g4⟩:=q6x _ 0 _ f u2 hf
   rw[Nat.zero_add]at g2
   exact⟨_,by rw[h3];exact qa3 F u1 g1 g3 g4 _ w,h1,g,h2,by rw[q3m,g2]⟩
  ·rename_i id i off hx
   obtain⟨hf,h⟩:=q02 h
   refine⟨_,_,h,q2n.pure fun io w0 E a w hr=>?_⟩
   have hx':=hr.ev x
   rw[hx]at hx'
   obtain⟨g,cap,n,t,h1,h2,h3,h4⟩:=hx'
   obtain⟨fd,e',ty,g1,g2,g3,g4⟩:=q6x _ 0 _ f u2 hf
   rw[Nat.zero_add]at g2
   exact⟨_,by rw[h4];exact qa3 F u1 g1 g3 g4 _ w,g,cap,n,t,h1,h2,h3,by rw[q3m,g2,Nat.add_assoc]⟩
  ·cases h
 ·cases h
def q1r (τ:TypeId->Option TI)(own:List (Nat×Blk N))(t:TypeId)(x i:RV N)(k:KK N β):Option β:=
 match τ t with
 | some ⟨.sl e,_⟩=>match i with
  | .int _ n=>match x with
   |.data t' l bs=>match q0u N t' (.sl e) l with
    |some l=>if 0<=n then if n<(l.length:Int)then k (.one (.sptr e (l.getD n.toNat (N.dflt e)) bs)) []else none else none
    |none=>none
   |.own id=>match look own id with
    |some (.row _ e' xs _ _)=>bif decide (e'=e)then if 0<=n then if n<(xs.length:Int)then k (.one (.optr id n.toNat 0)) []else none else none else none
    |_=>none
   |_=>none
  |_=>none
 |some ⟨.nm n,e⟩=>q5z own n e x i k
 |_=>none
theorem qfy (F:Fits P N τ){t e e':TypeId}{ty:Ty}(hτ:τ t=some ⟨.sl ty,e⟩)(ad:Addr)(len cap:Nat)(kk:IntKind)(n:Int)(h0:0<=n)(h1:n<len)(w:World):
  (Instr.indexAt t (.slice (some ad) len cap) (.int kk n)).run P w=.ok (.pointer (some (ad.add (n.toNat*N.sz ty)))) w:=by
 obtain⟨u1,⟨e'',u2⟩,_⟩:=F.sl t ty e hτ
 have hs:=F.sizeOf u2 w
 simp[Instr.indexAt,asIntOf,run_underlying u1,h0,h1,hs]
theorem qby (F:Fits P N τ){σ:St N}{t:TypeId}{x i:Operand}{k:KK N β}{r:β}(h:q1r τ σ.own t (ev σ x) (ev σ i) k=some r):
  ∃s ad,k s ad=some r/\q2n P σ (fun a=>Instr.indexAt t (a.eval x) (a.eval i)) s ad:=by
 unfold q1r at h
 split at h
 ·rename_i e el hτ
  split at h
  ·rename_i kk n hi
   have hi':∀{io w0 E a w},RelE io w0 σ E a w->a.eval i=.int kk n:=fun hr=>by
    have:=hr.ev i
    rw[hi]at this
    exact this
   split at h
   ·rename_i t' l bs hx
    split at h
    ·rename_i l' hl'
     split at h
     ·rename_i h0
      split at h
      ·rename_i h1
       refine⟨_,_,h,q2n.pure fun io w0 E a w hr=>?_⟩
       have hx':=hr.ev x
       rw[hx]at hx'
       obtain⟨cs,k1,k2⟩:=hx'
       obtain⟨et,rfl⟩:=q0b hl'
       subst et
       obtain⟨A,cap,c1,c2,c2',c3⟩:=k1
       have c4:cs=[a.eval x]:=k2
       rw[c1]at c4
       have c5:a.eval x=.slice A l.length cap:=(List.cons.inj c4).1.symm
       have h1:n<(l.length:Int):=h1
       have hlt:n.toNat<l.length:=by omega
       obtain⟨ad,ccs,d1,d2,d3,d4⟩:=c3 n.toNat l[n.toNat] (gE hlt)
       subst d1
       refine⟨_,by rw[c5,hi' hr];exact qfy F (e':=0) hτ ad l.length cap kk n h0 h1 w,ad.add (n.toNat*N.sz e),ccs,rfl,by rw[q1e];exact d2,?_,fun j u hu=>by rw[q4m];exact d4 j u hu⟩
       rw[gQ,gE hlt]
       exact d3
      ·cases h
     ·cases h
    ·cases h
   ·rename_i id hx
    split at h
    ·rename_i e1 e' xs bs p hl
     obtain⟨he,h2⟩:=q02 h
     clear h
     have h:=h2
     clear h2
     have he:e'=e:=by simpa using he
     subst he
     split at h
     ·rename_i h0
      split at h
      ·rename_i h1
       refine⟨_,_,h,q2n.pure fun io w0 E a w hr=>?_⟩
       have hx':=hr.ev x
       rw[hx]at hx'
       obtain⟨k1,k2⟩:=hx'
       obtain⟨cells,g1,g2⟩:=hr.own id _ hl
       rcases g1.2 with⟨hv,hn⟩|⟨g,cap,cur,_,_,hv,_⟩
       ·omega
       ·refine⟨_,by rw[k1,hv,hi' hr];exact qfy F (e':=0) hτ _ xs.length cap kk n h0 h1 w,g,cap,xs.length,e',⟨e1,xs,bs,p,hl,rfl⟩,by omega,hv,?_⟩
        rw[q3m,Nat.zero_add,Nat.add_zero]
      ·cases h
     ·cases h
    ·cases h
   ·cases h
  ·cases h
 ·rename_i n e hτ
  exact qgg F hτ h
 ·cases h
def q87 (τ:TypeId->Option TI)(t:TypeId)(x i:RV N)(k:KK N β):Option β:=
 match τ t with
 | some ⟨.str,_⟩=>match i with
  |.int _ n=>match x with
   |.str l=>if 0<=n then if n<(l.length:Int)then k (.one (.int .u8 (l.getD n.toNat 0))) []else none else none
   |_=>none
  |_=>none
 |_=>none
theorem qi2 (F:Fits P N τ){σ:St N}{t:TypeId}{x i:Operand}{k:KK N β}{r:β}(h:q87 τ t (ev σ x) (ev σ i) k=some r):
  ∃s ad,k s ad=some r/\q2n P σ (fun a=>Instr.index t (a.eval x) (a.eval i)) s ad:=by
 unfold q87 at h
 split at h
 ·rename_i el hτ
  split at h
  ·rename_i kk n hi
   split at h
   ·rename_i l hx
    split at h
    ·rename_i h0
     split at h
     ·rename_i h1
      refine⟨_,_,h,q2n.pure fun io w0 E a w hr=>?_⟩
      have hx':=hr.ev x
      have hi':=hr.ev i
      rw[hx]at hx'
      rw[hi]at hi'
      obtain⟨s,k1,k2⟩:=hx'
      subst k2
      rw[q0r]at h1
      refine⟨.int .u8 ((s[n.toNat]'(by omega)).toNat),?_,?_⟩
      ·rw[k1,show a.eval i=_ from hi',run_index_string w t s kk n (F.str t el hτ).1,dif_pos ⟨h0,h1⟩]
      ·show _=_
       congr 1
       have hlt:n.toNat<(q0o s).length:=by rw[q0r];omega
       rw[gQ,gE hlt]
       simp only[q0o,List.getElem_map,Option.getD_some]
       rfl
     ·cases h
    ·cases h
   ·cases h
  ·cases h
 ·cases h
end Go.Eng

set_option linter.unusedVariables false
set_option linter.unusedSimpArgs false
namespace Go.Eng
variable {N:Names} {P:Program} {τ:TypeId->Option TI} {β:Type} {io:Io} {w0 w w':World} {σ:St N} {E:Env} {a:Act}
theorem q7a {β:Type}:∀(new l:List (Nat×β)) (j:Nat),look (q0d new l) j=match look new j with
  |some b=>some b
  |none=>look l j
 |[],l,j=>rfl
 | (i,v)::r,l,j=>by
  simp only[q0d,q08,q7a r l j,look]
  cases h:(i==j)with
  |true=>
   have:i=j:=by simpa using h
   simp[this]
  |false=>
   have:i≠j:=by simpa using h
   simp[this]
def qwl:List Ty->Nat->Option Ty
 |[],_=>none
 |t::_,0=>some t
 |_::ts,i+1=>qwl ts i
theorem q4k:∀(ts:List Ty) (off:Nat) (fs:List Field) (i:Nat) (t:Ty),q2o N τ ts off fs->qwl ts i=some t->∃f e,fs[i]?=some f/\f.offset=off+q5a N ts i/\τ f.type=some ⟨t,e⟩
 |[],_,_,_,_,_,h=>by cases h
 |_::_,_,[],_,_,hf,_=>hf.elim
 |t::ts,off,f::fs,0,t',hf,h=>by
  cases h
  obtain⟨f1,⟨e,f2⟩,_⟩:=hf
  exact⟨f,e,rfl,by simp[q5a,f1],f2⟩
 |t::ts,off,f::fs,i+1,t',hf,h=>by
  obtain⟨_,_,_,_,f5⟩:=hf
  obtain⟨f',e,h1,h2,h3⟩:=q4k ts _ fs i t' f5 h
  exact⟨f',e,by simpa using h1,by rw[h2];simp[q5a,Nat.add_assoc],h3⟩
theorem q6g {w:World}{ok:Nat->Prop}{t:Ty}{x:t.den N.ρ}{v:Value}{cs:List Value}(hr:Rep w ok t x cs)(hv:AsV t v cs):v.cells.toList=cs:=by
 cases t with
 |nm n=>rw[show v=_ from hv];rfl
 |_=>
  have hv':cs=[v]:=hv
  have hone:=q7t hr v (by rw[hv'];simp)
  rw[hv']
  cases v<;>first|rfl|cases hone
def qc5:RV N->Bool
 |.own _=>true
 |.fn _ _=>true
 |.bptr _ _=>true
 |_=>false
def qcy:RV N->Bool
 |.nil=>true
 |_=>false
def qxd (g:(t:Ty)->t.den N.ρ->Option (List (RV N))):(ts:List Ty)->HL N.ρ ts->Option (List (RV N))
 |[],_=>some []
 |t::ts,x=>match g t x.1,qxd g ts x.2 with
  |some l,some m=>some (l++m)
  |_,_=>none
def expl (bs:List Nat):Nat->(t:Ty)->t.den N.ρ->Option (List (RV N))
 |_,.int k,n=>some [.int k n]
 |_,.bool,b=>some [.bool b]
 |_,.str,l=>some [.str l]
 |_,.sl e,x=>some [.data (.sl e) x bs]
 |_,.opq,_=>some [.undef]
 |0,.nm _,_=>none
 |f+1,.nm n,x=>qxd (expl bs f) (N.body n) (N.un n x)
theorem qkf {w:World}{own:List (Nat×Blk N)}{E:Env}{bs:List Nat}{g:(t:Ty)->t.den N.ρ->Option (List (RV N))}
  (hg:∀(t:Ty) (x:t.den N.ρ) l cs,g t x=some l->Rep w (okb w.heap.size own E bs) t x cs->l.length=cs.length/\∀(i:Nat) r u,l[i]?=some r->cs[i]?=some u->q0a w own E r u):
  ∀(ts:List Ty) (x:HL N.ρ ts) (l:List (RV N)) (cs:List Value),qxd g ts x=some l->q98 w (okb w.heap.size own E bs) (q9l w (okb w.heap.size own E bs)) ts x cs->l.length=cs.length/\∀(i:Nat) r u,l[i]?=some r->cs[i]?=some u->q0a w own E r u
 |[],_,l,cs,h,hr=>by
  cases h
  rw[show cs=[]from hr]
  exact⟨rfl,fun i r u hi _=>by simp at hi⟩
 | t::ts,x,l,cs,h,⟨c1,c2,e,h1,h2⟩=>by
  subst e
  simp only[qxd]at h
  split at h
  ·rename_i l1 l2 e1 e2
   cases h
   obtain⟨k1,k2⟩:=hg t x.1 l1 c1 e1 h1
   obtain⟨k3,k4⟩:=qkf hg ts x.2 l2 c2 e2 h2
   refine⟨by simp[k1,k3],fun i r u hi hu=>?_⟩
   by_cases hlt:i<l1.length
   ·rw[List.getElem?_append_left hlt]at hi
    rw[List.getElem?_append_left (by omega)]at hu
    exact k2 i r u hi hu
   ·rw[List.getElem?_append_right (by omega)]at hi
    rw[List.getElem?_append_right (by omega),<-k1]at hu
    exact k4 _ r u hi hu
  ·cases h
theorem qon {w:World}{own:List (Nat×Blk N)}{E:Env}{bs:List Nat}:∀(f:Nat) (t:Ty) (x:t.den N.ρ) (l:List (RV N)) (cs:List Value),expl bs f t x=some l->Rep w (okb w.heap.size own E bs) t x cs->
  l.length=cs.length/\∀(i:Nat) r u,l[i]?=some r->cs[i]?=some u->q0a w own E r u:=by
 intro f
 have flat:∀(t:Ty) (x:t.den N.ρ) (cs:List Value) (u:Value),cs=[u]->Rep w (okb w.heap.size own E bs) t x cs->AsV t u cs->∀l,l=[q6d t x bs]->l.length=cs.length/\∀(i:Nat) r u,l[i]?=some r->cs[i]?=some u->q0a w own E r u:=by
  intro t x cs u hc hr hv l hl
  have:=q21 hr hv
  subst hc
  subst hl
  refine⟨rfl,fun i r u' hi hu=>?_⟩
  match i,hi with
  |0,hi=>
   simp only[List.getElem?_cons_zero,Option.some.injEq]at hi hu
   subst hi
   subst hu
   exact this
 induction f with
 |zero=>
  intro t x l cs h hr
  cases t with
  |nm n=>cases h
  |int k=>exact flat (.int k) x cs _ hr hr hr l (Option.some.inj h).symm
  |bool=>exact flat .bool x cs _ hr hr hr l (Option.some.inj h).symm
  |str=>obtain⟨s,e,h2⟩:=hr;exact flat .str x cs _ e ⟨s,e,h2⟩ e l (Option.some.inj h).symm
  |sl e'=>obtain⟨A,cap,e,h2⟩:=hr;exact flat (.sl e') x cs _ e ⟨A,cap,e,h2⟩ e l (Option.some.inj h).symm
  |opq=>obtain⟨v,e,h2⟩:=hr;exact flat .opq x cs _ e ⟨v,e,h2⟩ e l (Option.some.inj h).symm
 |succ f ih=>
  intro t x l cs h hr
  cases t with
  |nm n=>exact qkf ih (N.body n) (N.un n x) l cs h (q1l hr)
  |int k=>exact flat (.int k) x cs _ hr hr hr l (Option.some.inj h).symm
  |bool=>exact flat .bool x cs _ hr hr hr l (Option.some.inj h).symm
  |str=>obtain⟨s,e,h2⟩:=hr;exact flat .str x cs _ e ⟨s,e,h2⟩ e l (Option.some.inj h).symm
  |sl e'=>obtain⟨A,cap,e,h2⟩:=hr;exact flat (.sl e') x cs _ e ⟨A,cap,e,h2⟩ e l (Option.some.inj h).symm
  |opq=>obtain⟨v,e,h2⟩:=hr;exact flat .opq x cs _ e ⟨v,e,h2⟩ e l (Option.some.inj h).symm
def q26 (own:List (Nat×Blk N)):List Nat->Bool
 |[]=>true
 |i::r=>(match look own i with|none=>true|some _=>false)&&q26 own r
theorem q19 {own:List (Nat×Blk N)}:∀{l:List Nat},q26 own l=true->∀i∈l,look own i=none
 |[],_,i,hi=>by cases hi
 | x::l,h,i,hi=>by
  simp only[q26,Bool.and_eq_true]at h
  rcases List.mem_cons.1 hi with rfl|hi
  ·cases hl:look own i with
   |none=>rfl
   |some b=>rw[hl]at h;exact absurd h.1 (by simp)
  ·exact q19 h.2 i hi
theorem qfi {w:World}{own:List (Nat×Blk N)}{E:Env}{r:RV N}{v:Value}(hl:qc5 r=true)(hr:q0a w own E r v)(hE:∀id,(∃n t,q5u own id n t)->(E id).cells=#[E id]):v.cells=#[v]:=by
 cases r<;>try(cases hl;done)
 case own id=>obtain⟨rfl,h⟩:=hr;exact hE id h
 case fn f caps=>rw[hr.1];rfl
 case bptr id off=>obtain⟨_,g,_,rfl⟩:=hr;rfl
theorem RelE.rowVal {io:Io}{w0 w:World}{σ:St N}{E:Env}{a:Act}(h:RelE io w0 σ E a w)(id:Nat)(hr:∃n t,q5u σ.own id n t):(E id).cells=#[E id]:=by
 obtain⟨n,t,e,xs,bs,p,h1,_⟩:=hr
 obtain⟨_,A,cap,hv⟩:=h.rowRep h1
 rw[hv]
 rfl
def q1d (own:List (Nat×Blk N))(tv:Ty)(v:RV N):Option (List (RV N)):=
 match tv with
 | .nm n=>match v with
  |.mp id=>match look own id with
   |some (.vals m l)=>bif Nat.beq m n&&Nat.beq l.length (N.size n)then some l else none
   |_=>none
  |v=>match toDen own (.nm n) v with
   |some (y,b)=>expl b 8 (.nm n) y
   |none=>none
 |.opq=>bif qc5 v then some [v]else none
 |tv=>bif qc5 v||qcy v then some [v]else match toDen own tv v with
  |some (y,b)=>some [q6d tv y b]
  |none=>none
theorem q8p (hr:RelE io w0 σ E a w){tv:Ty}{rx:RV N}{vx:Value}(hx0:q0a w σ.own E rx vx){vs:List (RV N)}(h:q1d σ.own tv rx=some vs):
  ∃cs:List Value,(vx).cells.toList=cs/\cs.length=vs.length/\cs.length=N.sz tv/\(∀u∈cs,u.oneCell'=true)/\∀(i:Nat) r u,vs[i]?=some r->cs[i]?=some u->q0a w σ.own E r u:=by
 have hl:∀{tv:Ty},N.sz tv=1->qc5 (rx)=true->vs=[rx]->∃cs:List Value,(vx).cells.toList=cs/\cs.length=vs.length/\cs.length=N.sz tv/\(∀u∈cs,u.oneCell'=true)/\∀(i:Nat) r u,vs[i]?=some r->cs[i]?=some u->q0a w σ.own E r u:=by
  intro tv hs hlo hv
  subst hv
  have hx:=hx0
  have hc:=qfi hlo hx hr.rowVal
  refine⟨[vx],by rw[hc],rfl,hs.symm,fun u hu=>?_,fun i r u hi hu=>?_⟩
  ·simp at hu
   subst hu
   generalize rx=q at hlo hx
   cases q<;>try(cases hlo;done)
   case own id=>
    obtain⟨e1,n,t,e',xs,bs,p,h1,_⟩:=hx
    obtain⟨_,A,cap,hv⟩:=hr.rowRep h1
    rw[e1,hv];rfl
   case fn f caps=>rw[hx.1];rfl
   case bptr id off=>obtain⟨_,g,_,hv⟩:=hx;rw[hv];rfl
  ·match i,hi with
   |0,hi=>
    simp only[List.getElem?_cons_zero,Option.some.injEq]at hi hu
    subst hi
    subst hu
    exact hx
 have hn:∀{tv:Ty},N.sz tv=1->qcy (rx)=true->vs=[rx]->∃cs:List Value,(vx).cells.toList=cs/\cs.length=vs.length/\cs.length=N.sz tv/\(∀u∈cs,u.oneCell'=true)/\∀(i:Nat) r u,vs[i]?=some r->cs[i]?=some u->q0a w σ.own E r u:=by
  intro tv hs hlo hv
  subst hv
  have hx:=hx0
  have hxn:rx=.nil:=by
   generalize rx=q at hlo
   cases q<;>first|rfl|cases hlo
  rw[hxn]at hx
  have hv:vx=.slice none 0 0:=hx
  rw[hxn,hv]
  refine⟨[.slice none 0 0],rfl,rfl,hs.symm,fun u hu=>by simp at hu;subst hu;rfl,fun i r u hi hu=>?_⟩
  match i,hi with
  |0,hi=>
   simp only[List.getElem?_cons_zero,Option.some.injEq]at hi hu
   subst hi
   subst hu
   rfl
 have hd:∀{tv:Ty},(∀n,tv≠.nm n)->N.sz tv=1->∀y b,toDen σ.own tv (rx)=some (y,b)->vs=[q6d tv y b]->∃cs:List Value,(vx).cells.toList=cs/\cs.length=vs.length/\cs.length=N.sz tv/\(∀u∈cs,u.oneCell'=true)/\∀(i:Nat) r u,vs[i]?=some r->cs[i]?=some u->q0a w σ.own E r u:=by
  intro tv hnn hs y b hy hv
  obtain⟨cs,h1,h2⟩:=hr.toDen hy (hx0)
  have h3:=q6g h1 h2
  have h4:=qgo h1 hnn h2
  subst hv
  refine⟨cs,h3,by rw[h4];rfl,q05 h1,q7t h1,fun i r u hi hu=>?_⟩
  rw[h4]at hu
  match i,hi with
  |0,hi=>
   simp only[List.getElem?_cons_zero,Option.some.injEq]at hi hu
   subst hi
   subst hu
   exact q21 h1 h2
 have hgen:∀{tv:Ty},(∀n,tv≠.nm n)->N.sz tv=1->(bif qc5 (rx)||qcy (rx)then some [rx]else match toDen σ.own tv (rx)with|some (y,b)=>some [q6d tv y b]|none=>none)=some vs->∃cs:List Value,(vx).cells.toList=cs/\cs.length=vs.length/\cs.length=N.sz tv/\(∀u∈cs,u.oneCell'=true)/\∀(i:Nat) r u,vs[i]?=some r->cs[i]?=some u->q0a w σ.own E r u:=by
  intro tv hnn hs h
  cases hlo:qc5 (rx)with
  |true=>rw[hlo]at h;exact hl hs hlo (Option.some.inj h).symm
  | false=>
   cases hni:qcy (rx)with
   |true=>rw[hlo,hni]at h;exact hn hs hni (Option.some.inj h).symm
   | false=>
    rw[hlo,hni]at h
    simp only[Bool.or_self,cF]at h
    split at h
    ·rename_i y b hy
     exact hd hnn hs y b hy (Option.some.inj h).symm
    ·cases h
 cases tv with
 | nm n=>
  simp only[q1d]at h
  split at h
  ·split at h
   ·rename_i id _ m l hlk
    obtain⟨hc,h⟩:=q02 h
    simp only[Bool.and_eq_true]at hc
    cases h
    obtain⟨arr,k1,k2,k3,k4⟩:=hr.own id _ hlk
    refine⟨arr.toList,by rw[hx0.2,k1];rfl,by simpa using k2,by rw[Array.length_toList,k2];exact Nat.eq_of_beq_eq_true hc.2,k3,fun i r u hi hu=>k4 i r u hi (by simpa using hu)⟩
   ·cases h
  ·split at h
   ·rename_i y b hy
    obtain⟨cs,h1,h2⟩:=hr.toDen hy (hx0)
    obtain⟨k1,k2⟩:=qon 8 (.nm n) y vs cs h h1
    exact⟨cs,q6g h1 h2,k1.symm,q05 h1,q7t h1,k2⟩
   ·cases h
 |opq=>
  simp only[q1d]at h
  cases hlo:qc5 (rx)with
  |true=>rw[hlo]at h;exact hl rfl hlo (Option.some.inj h).symm
  |false=>rw[hlo]at h;cases h
 |int k=>exact hgen (fun n hn=>by cases hn) rfl h
 |bool=>exact hgen (fun n hn=>by cases hn) rfl h
 |str=>exact hgen (fun n hn=>by cases hn) rfl h
 |sl e=>exact hgen (fun n hn=>by cases hn) rfl h
def qhp:RV N->Bool
 |.int _ _=>true
 |.bool _=>true
 |.str _=>true
 |.nil=>true
 |.own _=>true
 |.bptr _ _=>true
 |.fn _ _=>true
 |.data t _ _=>match t with
  |.nm _=>false
  |_=>true
 |_=>false
theorem RelE.cellOne (h:RelE io w0 σ E a w){r:RV N}{v:Value}(hr:q0a w σ.own E r v)(hc:qhp r=true):v.oneCell'=true:=by
 cases r with
 |int k n=>rw[show v=_ from hr];rfl
 |bool b=>rw[show v=_ from hr];rfl
 |str l=>obtain⟨s,e,_⟩:=hr;rw[e];rfl
 |nil=>rw[show v=_ from hr];rfl
 |own id=>
  obtain⟨rfl,n,t,e,xs,bs,p,h1,_⟩:=hr
  obtain⟨_,A,cap,hv⟩:=h.rowRep h1
  rw[hv];rfl
 |bptr id off=>obtain⟨_,g,_,rfl⟩:=hr;rfl
 |fn f caps=>rw[hr.1];rfl
 |data t x bs=>
  obtain⟨cs,h1,h2⟩:=hr
  have hn:∀n,t≠.nm n:=fun n e=>by subst e;cases hc
  have:=qgo h1 hn h2
  exact q7t h1 v (by rw[this];simp)
 |undef=>cases hc
 |sptr t x bs=>cases hc
 |optr id i off=>cases hc
 |osl id lo n=>cases hc
 |mp id=>cases hc
 |nilf=>cases hc
def q8k (d:Nat):Nat->List (Option (TypeId×Ty))->List (RV N)->List (RV N)×List (Nat×Blk N)
 |j,some (el,e)::ts,.nil::l=>match q8k d (j+1) ts l with
  |(m,es)=>(.own (2000+d+10000*j)::m,(2000+d+10000*j,.row el e [] [] false)::es)
 |j,_::ts,r::l=>match q8k d (j+1) ts l with
  |(m,es)=>(r::m,es)
 |_,_,l=>(l,[])
theorem q63 (d:Nat):∀(j:Nat) (ts:List (Option (TypeId×Ty))) (l m:List (RV N)) (es:List (Nat×Blk N)),q8k d j ts l=(m,es)->
  m.length=l.length/\(es.map (·.1)).Nodup/\(∀p∈es,2000+d+10000*j<=p.1/\∃el e,p.2=.row el e [] [] false)/\
  ∀(i:Nat) r,m[i]?=some r->l[i]?=some r\/(l[i]?=some .nil/\∃p∈es,r=.own p.1)
 |j,[],l,m,es,h=>by
  have h:(l,[])=(m,es):=by cases l<;>exact h
  cases h
  exact⟨rfl,List.nodup_nil,(fun p hp=>by cases hp),fun i r hr=>.inl hr⟩
 | j,t::ts,[],m,es,h=>by
  have h:(([]:List (RV N)),([]:List (Nat×Blk N)))=(m,es):=by
   rcases t with _|⟨el,e⟩<;>exact h
  cases h
  exact⟨rfl,List.nodup_nil,(fun p hp=>by cases hp),fun i r hr=>.inl hr⟩
 | j, t::ts,x::l,m,es,h=>by
  have plain:(match q8k d (j+1) ts l with|(m,es)=>(x::m,es))=(m,es)->m.length=(x::l).length/\(es.map (·.1)).Nodup/\(∀p∈es,2000+d+10000*j<=p.1/\∃el e,p.2=.row el e [] [] false)/\
    ∀(i:Nat) r,m[i]?=some r->(x::l)[i]?=some r\/((x::l)[i]?=some .nil/\∃p∈es,r=.own p.1):=by
   intro h
   split at h
   rename_i m1 es1 h1
   cases h
   obtain⟨k1,k2,k3,k4⟩:=q63 d (j+1) ts l m1 es h1
   refine⟨by simp[k1],k2,fun p hp=>⟨by have:=(k3 p hp).1;omega,(k3 p hp).2⟩,fun i r hr=>?_⟩
   cases i with
   |zero=>exact .inl (by simpa using hr)
   |succ i=>simpa using k4 i r (by simpa using hr)
  rcases t with _|⟨el,e⟩
  ·exact plain h
  ·cases x with
   | nil=>
    simp only[q8k]at h
    generalize h1:q8k d (j+1) ts l=q at h
    obtain⟨m1,es1⟩:=q
    cases h
    obtain⟨k1,k2,k3,k4⟩:=q63 d (j+1) ts l m1 es1 h1
    refine⟨by simp[k1],?_,fun p hp=>?_,fun i r hr=>?_⟩
    ·rw[List.map_cons,List.nodup_cons]
     refine⟨fun hm=>?_,k2⟩
     obtain⟨p,hp,e1⟩:=List.mem_map.1 hm
     have:=(k3 p hp).1
     simp only at e1
     omega
    ·rcases List.mem_cons.1 hp with rfl|hp
     ·exact⟨nR _,el,e,rfl⟩
     ·exact⟨by have:=(k3 p hp).1;omega,(k3 p hp).2⟩
    ·cases i with
     |zero=>
      right
      refine⟨rfl,_,mS,?_⟩
      simpa using hr.symm
     |succ i=>
      rcases k4 i r (by simpa using hr)with h2|⟨h2,p,hp,h3⟩
      ·exact .inl (by simpa using h2)
      ·exact .inr ⟨by simpa using h2,p,mC _ hp,h3⟩
   |_=>exact plain h
theorem RelE.addNils (h:RelE io w0 σ E a w):∀(es:List (Nat×Blk N)),(es.map (·.1)).Nodup->(∀p∈es,look σ.own p.1=none/\∃el e,p.2=.row el e [] [] false)->
  ∃E',RelE io w0 {σ with own:=q0d es σ.own} E' a w/\(∀p∈es,look (q0d es σ.own) p.1=some p.2/\E' p.1=.slice none 0 0)/\(∀r v,q0a w σ.own E r v->q0a w (q0d es σ.own) E' r v)/\∀id,id∉es.map (·.1)->look (q0d es σ.own) id=look σ.own id
 |[],_,_=>⟨E,h,(fun p hp=>by cases hp),fun r v hr=>hr,fun id _=>rfl⟩
 | (i,b)::es,hn,hes=>by
  rw[List.map_cons,List.nodup_cons]at hn
  obtain⟨E1,h1,h2,h3,h4⟩:=h.addNils es hn.2 (fun p hp=>hes p (mC _ hp))
  obtain⟨hno,el,e,hb⟩:=hes (i,b) mS
  simp only at hno hb
  subst hb
  have hno1:look (q0d es σ.own) i=none:=(h4 i hn.1).trans hno
  have hV:∀g,q0j (.slice none 0 0)=some g->w.heap.size<=g:=fun g hg=>by cases hg
  have hadd:=h1.add (Ext.refl w) (V:=.slice none 0 0) (b:=.row el e [] [] false) hno1 (fun g hg=>by cases hg) ⟨[],by rw[q06];exact⟨by simp,.inl ⟨rfl,rfl⟩⟩,rfl⟩
  refine⟨_,hadd,fun p hp=>?_,fun r v hr=>q28 (Ext.refl w) hno1 hV (h3 r v hr),fun id hid=>?_⟩
  ·rcases List.mem_cons.1 hp with rfl|hp
   ·exact⟨by simp only[q0d,q08,if_true],q06 _ _ _⟩
   ·have hne:p.1≠i:=fun e=>hn.1 (e▸List.mem_map.2 ⟨p,hp,rfl⟩)
    obtain⟨k1,k2⟩:=h2 p hp
    exact⟨by simp only[q0d];rw[q08,if_neg (Ne.symm hne)];exact k1,by rw[q13 _ _ hne];exact k2⟩
  ·rw[List.map_cons,List.mem_cons,not_or]at hid
   simp only[q0d]
   rw[q08,if_neg (Ne.symm hid.1)]
   exact h4 id hid.2
theorem qp8 {es:List (Nat×Blk N)}{own:List (Nat×Blk N)}{E':Env}{m l:List (RV N)}{cs:List Value}(hes:∀p∈es,look own p.1=some p.2/\E' p.1=.slice none 0 0)(hrow:∀p∈es,∃el e,p.2=.row el e [] [] false)
  (hm:∀(i:Nat) r,m[i]?=some r->l[i]?=some r\/(l[i]?=some .nil/\∃p∈es,r=.own p.1)) (hl:∀(i:Nat) r u,l[i]?=some r->cs[i]?=some u->q0a w own E' r u):
  ∀(i:Nat) r u,m[i]?=some r->cs[i]?=some u->q0a w own E' r u:=by
 intro i r u hi hu
 rcases hm i r hi with h1|⟨h1,p,hp,rfl⟩
 ·exact hl i r u h1 hu
 ·have hu2:u=.slice none 0 0:=hl i _ u h1 hu
  obtain⟨k1,k2⟩:=hes p hp
  obtain⟨el,e,k3⟩:=hrow p hp
  rw[k3]at k1
  exact⟨by rw[hu2,k2],0,e,el,[],[],false,k1,rfl⟩
def q7c (own:List (Nat×Blk N))(dst:Option Nat)(n:Nat)(l:List (RV N))(k:KK N β):Option β:=
 match dst with
 | some d=>match look own (1000+d)with
  |none=>match q8k d 0 (N.rowsAt n) l with
   |(m,es)=>bif Nat.beq l.length (N.size n)&&l.all qhp&&q26 own (es.map (·.1))then k (.one (.mp (1000+d))) ((1000+d,.vals n m)::es)else none
  |some _=>none
 |none=>none
theorem q2n.vals {run:Act->Sem Value}{dst:Option Nat}{n:Nat}{l:List (RV N)}{k:KK N β}{r:β}(h:q7c σ.own dst n l k=some r)
  (hrun:l.length=N.size n->∀io w0 E a w,RelE io w0 σ E a w->∃cs:List Value,(run a).run P w=.ok (.agg cs.toArray) w/\cs.length=l.length/\∀(i:Nat) r u,l[i]?=some r->cs[i]?=some u->q0a w σ.own E r u):
  ∃s ad,k s ad=some r/\q2n P σ run s ad:=by
 unfold q7c at h
 split at h
 ·rename_i d
  split at h
  ·rename_i hl
   split at h
   rename_i m es hes
   obtain⟨hc,h⟩:=q02 h
   simp only[Bool.and_eq_true]at hc
   obtain⟨⟨hc1,hc2⟩,hc3⟩:=hc
   refine⟨_,_,h,fun io w0 E a w hr=>?_⟩
   obtain⟨cs,r1,r2,r3⟩:=hrun (Nat.eq_of_beq_eq_true hc1) io w0 E a w hr
   obtain⟨k1,k2,k3,k4⟩:=q63 d 0 _ _ _ _ hes
   have hfr:=q19 hc3
   obtain⟨E1,h1,h2,h3,h4⟩:=hr.addNils es k2 (fun p hp=>⟨hfr _ (List.mem_map.2 ⟨p,hp,rfl⟩),(k3 p hp).2⟩)
   have hlen:l.length=N.size n:=Nat.eq_of_beq_eq_true hc1
   have hno:look (q0d es σ.own) (1000+d)=none:=by
    rw[h4]
    ·exact hl
    ·intro hm
     obtain⟨p,hp,e⟩:=List.mem_map.1 hm
     have:=(k3 p hp).1
     omega
   have hcell:=qp8 (w:=w) h2 (fun p hp=>(k3 p hp).2) k4 (fun i r u hi hu=>h3 r u (r3 i r u hi hu))
   have hadd:=h1.add (Ext.refl w) (V:=.agg cs.toArray) (b:=.vals n m) hno (fun g hg=>by cases hg) ⟨cs.toArray,q06 _ _ _,by simp[r2,k1],fun u hu=>by
    obtain⟨i,hi⟩:=List.getElem?_of_mem hu
    have hi:cs[i]?=some u:=by simpa using hi
    have hlt:i<l.length:=by rw[<-r2];exact(List.getElem?_eq_some_iff.1 hi).1
    exact hr.cellOne (r3 i l[i] u (gE hlt) hi) (List.all_eq_true.1 hc2 _ (gM hlt)),fun i r u hi hu=>q28 (Ext.refl w) hno (fun g hg=>by cases hg) (hcell i r u hi (by simpa using hu))⟩
   refine⟨_,w,_,r1,hadd,?_⟩
   show q53 _ _/\_
   refine⟨.inr (.inr (.inr ⟨n,m,?_⟩)),(q06 _ _ _).symm⟩
   show look (ins (1000+d) (Blk.vals n m) (q0d es σ.own)) (1000+d)=_
   rw[q08,if_pos rfl]
  ·cases h
 ·cases h
def q6a (τ:TypeId->Option TI)(own:List (Nat×Blk N))(xt:TypeId)(dst:Option Nat)(x:RV N)(f:Nat)(k:KK N β):Option β:=
 match x with
 | .data t v bs=>match τ xt with
  | some ⟨.nm m,e⟩=>bif Nat.beq e 0 then match q0u N t (.nm m) v with
   |some v=>match qf9 (N.body m) (N.un m v) f with
    |some tv=>k (.one (q6d tv.t tv.x bs)) []
    |none=>none
   |none=>none
   else none
  |_=>none
 | .mp id=>match look own id with
  | some (.vals m' l)=>match τ xt with
   | some ⟨.nm m,e⟩=>bif Nat.beq e 0&&Nat.beq m' m then match qwl (N.body m) f with
    |some (.nm n)=>q7c own dst n ((l.drop (q5a N (N.body m) f)).take (N.size n)) k
    |some _=>match l[q5a N (N.body m) f]? with
     |some r=>k (.one r) []
     |none=>none
    |none=>none
    else none
   |_=>none
  |_=>none
 |_=>none
theorem qi1 (F:Fits P N τ){σ:St N}{xt:TypeId}{x:Operand}{dst:Option Nat}{f:Nat}{k:KK N β}{r:β}(h:q6a τ σ.own xt dst (ev σ x) f k=some r):
  ∃s ad,k s ad=some r/\q2n P σ (fun a=>Instr.field xt (a.eval x) f) s ad:=by
 unfold q6a at h
 split at h
 ·rename_i t v bs hx
  split at h
  ·rename_i m e hτ
   obtain⟨he,h⟩:=q02 h
   split at h
   ·rename_i v' hv'
    split at h
    ·rename_i tv htv
     refine⟨_,_,h,q2n.pure fun io w0 E a w hr=>?_⟩
     have hx':=hr.ev x
     rw[hx]at hx'
     obtain⟨cs,h1,h2⟩:=hx'
     obtain⟨et,rfl⟩:=q0b hv'
     subst et
     obtain⟨fs,u1,u2,_⟩:=F.nm xt m e hτ
     have u1:=u1.struct (Nat.eq_of_beq_eq_true he)
     obtain⟨k1,k2⟩:=qas (N.body m) (N.un m v) f tv cs htv (q1l h1)
     obtain⟨fd,e',g1,g2,g3,g4⟩:=q6w _ 0 _ _ f tv u2 htv
     rw[Nat.zero_add]at g2
     obtain⟨u,p1,p2⟩:=F.part (w:=w) g3 k1 k2
     have g1':fs[f]?=some fd:=by simpa using g1
     refine⟨u,?_,q21 k1 p2⟩
     rw[show a.eval x=_ from h2]
     simp only[Instr.field,Sem.run_bind,run_underlying u1,Result.andThen_ok,g1',asAgg,g2]
     exact p1
    ·cases h
   ·cases h
  ·cases h
 ·rename_i id hx
  split at h
  ·rename_i m' l hlk
   split at h
   ·rename_i m e hτ
    obtain⟨he,h⟩:=q02 h
    simp only[Bool.and_eq_true]at he
    obtain⟨he,hm⟩:=he
    obtain rfl:=Nat.eq_of_beq_eq_true hm
    have hv:∀{io w0 E a w},RelE io w0 σ E a w->∃arr:Array Value,a.eval x=.agg arr/\arr.size=l.length/\∀(i:Nat) r u,l[i]?=some r->arr[i]?=some u->q0a w σ.own E r u:=by
     intro io w0 E a w hr
     have hx':=hr.ev x
     rw[hx]at hx'
     obtain⟨arr,k1,k2,k3,k4⟩:=hr.own id _ hlk
     exact⟨arr,hx'.2.trans k1,k2,k4⟩
    obtain⟨fs,u1,u2,_⟩:=F.nm xt m' e hτ
    have u1:=u1.struct (Nat.eq_of_beq_eq_true he)
    split at h
    ·rename_i n hty
     refine q2n.vals h (fun _ io w0 E a w hr=>?_)
     obtain⟨arr,k1,k2,k3⟩:=hv hr
     obtain⟨fd,e',g1,g2,g3⟩:=q4k _ 0 _ f _ u2 hty
     rw[Nat.zero_add]at g2
     have g1':fs[f]?=some fd:=by simpa using g1
     have hs:=F.sizeOf g3 w
     have ha:=F.isAgg g3 w
     refine⟨((arr.toList.drop (q5a N (N.body m') f)).take (N.size n)),?_,by simp[k2],fun i r u hi hu=>?_⟩
     ·rw[k1]
      simp only[Instr.field,Sem.run_bind,run_underlying u1,Result.andThen_ok,g1',asAgg,g2]
      simp only[Go.part,Sem.run_bind,ha,Result.andThen_ok,hs,if_true,Sem.run_pure]
      congr 2
      obtain⟨arr⟩:=arr
      rw[List.extract_toArray]
      congr 1
      simp[List.extract_eq_take_drop,Names.sz]
     ·rw[List.getElem?_take]at hi hu
      split at hi
      ·rename_i hlt
       rw[if_pos hlt,List.getElem?_drop]at hu
       rw[List.getElem?_drop]at hi
       exact k3 _ r u hi (by simpa using hu)
      ·cases hi
    ·rename_i ty hnn hty
     split at h
     ·rename_i r' hr'
      refine⟨_,_,h,q2n.pure fun io w0 E a w hr=>?_⟩
      obtain⟨arr,k1,k2,k3⟩:=hv hr
      obtain⟨fd,e',g1,g2,g3⟩:=q4k _ 0 _ f _ u2 hty
      rw[Nat.zero_add]at g2
      have g1':fs[f]?=some fd:=by simpa using g1
      have ha:=F.isAgg g3 w
      have ha:(Go.isAgg fd.type).run P w=.ok false w:=by
       cases ty with
       |nm n=>exact absurd rfl (hnn n)
       |_=>exact ha
      have hlt:q5a N (N.body m') f<arr.size:=by rw[k2];exact(List.getElem?_eq_some_iff.1 hr').1
      refine⟨arr[q5a N (N.body m') f],?_,k3 _ r' _ hr' (by simp[hlt])⟩
      rw[k1]
      simp only[Instr.field,Sem.run_bind,run_underlying u1,Result.andThen_ok,g1',asAgg,g2]
      simp[Go.part,ha,hlt]
     ·cases h
    ·cases h
   ·cases h
  ·cases h
 ·cases h
def zeroCells (N:Names):Nat->Ty->List (RV N)
 |_,.int k=>[.int k 0]
 |_,.bool=>[.bool false]
 |_,.str=>[.str []]
 |_,.sl _=>[.nil]
 |_,.opq=>[.undef]
 |0,.nm _=>[]
 |f+1,.nm n=>(N.body n).flatMap (zeroCells N f)
theorem qbl {own:List (Nat×Blk N)}:∀(f:Nat) (t:Ty) (cs:List Value),q3z N f t cs=true->(zeroCells N f t).length=cs.length/\∀(i:Nat) r u,(zeroCells N f t)[i]?=some r->cs[i]?=some u->q0a w own E r u:=by
 have one:∀(f:Nat) (r0:RV N) (u0:Value),q0a w own E r0 u0->([r0]:List (RV N)).length=[u0].length/\∀(i:Nat) r u,[r0][i]?=some r->[u0][i]?=some u->q0a w own E r u:=by
  intro f r0 u0 h
  refine⟨rfl,fun i r u hi hu=>?_⟩
  match i,hi with
  |0,hi=>
   simp only[List.getElem?_cons_zero,Option.some.injEq]at hi hu
   subst hi hu
   exact h
 have flat:∀(f:Nat) (t:Ty),(∀n,t≠.nm n)->∀cs,q3z N f t cs=true->(zeroCells N f t).length=cs.length/\∀(i:Nat) r u,(zeroCells N f t)[i]?=some r->cs[i]?=some u->q0a w own E r u:=by
  intro f t hn cs h
  unfold q3z at h
  split at h
  ·simp only[Bool.and_eq_true,decide_eq_true_eq]at h
   obtain⟨rfl,rfl⟩:=h
   have this:∀kk,zeroCells N f (.int kk)=[RV.int kk 0]:=fun kk=>by cases f<;>rfl
   rw[this]
   exact one 0 _ _ rfl
  ·rename_i b
   cases b with
   |true=>cases h
   |false=>
    have:zeroCells N f .bool=[RV.bool false]:=by cases f<;>rfl
    rw[this]
    exact one 0 _ _ rfl
  ·rename_i s
   have:zeroCells N f .str=[RV.str []]:=by cases f<;>rfl
   rw[this]
   refine one 0 _ _ ⟨s,rfl,?_⟩
   simp only[List.isEmpty_iff]at h
   unfold q0o
   rw[h]
   rfl
  ·rename_i e
   have:zeroCells N f (.sl e)=[RV.nil]:=by cases f<;>rfl
   rw[this]
   exact one 0 _ _ rfl
  ·have:zeroCells N f .opq=[RV.undef]:=by cases f<;>rfl
   rw[this]
   exact one 0 _ _ trivial
  ·rename_i n
   exact(hn n rfl).elim
  ·cases h
 intro f
 induction f with
 |zero=>
  intro t cs h
  cases t with
  |nm n=>cases h
  |_=>exact flat 0 _ (fun n hn=>by cases hn) cs h
 | succ f ih=>
  intro t cs h
  cases t with
  | nm n=>
   have h2:qbm (q3z N f) N.sz (N.body n) cs=true:=by
    have e:q3z N (f+1) (.nm n) cs=qbm (q3z N f) N.sz (N.body n) cs:=by unfold q3z;rfl
    rw[<-e];exact h
   clear h
   show((N.body n).flatMap (zeroCells N f)).length=_/\_
   show _/\∀(i:Nat) r u,((N.body n).flatMap (zeroCells N f))[i]?=some r->cs[i]?=some u->q0a w own E r u
   generalize N.body n=ts at h2 ⊢
   rename qbm (q3z N f) N.sz ts cs=true=>h
   induction ts generalizing cs with
   |nil=>
    simp only[qbm,List.isEmpty_iff]at h
    rw[h]
    exact⟨rfl,fun i r u hi _=>by simp at hi⟩
   | cons t ts ih2=>
    simp only[qbm,Bool.and_eq_true]at h
    obtain⟨k1,k2⟩:=ih t _ h.1
    obtain⟨k3,k4⟩:=ih2 (cs.drop (N.sz t)) h.2
    have hc:cs=cs.take (N.sz t)++cs.drop (N.sz t):=(List.take_append_drop _ cs).symm
    refine⟨?_,fun i r u hi hu=>?_⟩
    ·rw[List.flatMap_cons,lA,k1,k3,<-lA,List.take_append_drop]
    ·rw[List.flatMap_cons]at hi
     rw[hc]at hu
     by_cases hlt:i<(zeroCells N f t).length
     ·rw[List.getElem?_append_left hlt]at hi
      rw[List.getElem?_append_left (by rw[<-k1];exact hlt)]at hu
      exact k2 i r u hi hu
     ·rw[List.getElem?_append_right (by omega)]at hi
      rw[List.getElem?_append_right (by rw[<-k1];omega),<-k1]at hu
      exact k4 _ r u hi hu
  |_=>exact flat (f+1) _ (fun n hn=>by cases hn) cs h
end Go.Eng

set_option linter.unusedVariables false
set_option linter.unusedSimpArgs false
namespace Go.Eng
variable {N:Names} {P:Program} {τ:TypeId->Option TI} {β:Type}
def q60 (τ:TypeId->Option TI)(own:List (Nat×Blk N))(t:TypeId)(dst:Option Nat)(x:RV N)(k:KK N β):Option β:=
 match τ t with
 | some ⟨ty,_⟩=>match x with
  |.sptr t' v bs=>match qrt ty 8 t' v 0 with
   |some y=>k (.one (q6d ty y bs)) []
   |none=>none
  | .optr id i off=>match look own id with
   |some (.row e' e xs bs _)=>match qrt ty 8 e (xs.getD i (N.dflt e)) off with
    |some y=>k (.one (q6d ty y bs)) []
    |none=>q5g ty e' e xs bs i off k
   |_=>none
  | .bptr id off=>match look own id with
   |some (.whole t' v bs)=>match qrt ty 8 t' v off with
    |some y=>k (.one (q6d ty y bs)) []
    |none=>none
   | some (.cells l)=>match ty with
    | .nm n=>bif(N.rowsAt n).isEmpty then match impl own 8 (.nm n) ((l.drop off).take (N.size n))with
      |some (y,bs)=>k (.one (.data (.nm n) y bs)) []
      |none=>none
     else q7c own dst n ((l.drop off).take (N.size n)) k
    |_=>match l[off]? with
     |some r=>k (.one r) []
     |none=>none
   |_=>none
  |_=>none
 |none=>none
theorem RelE.box {io:Io}{w0 w:World}{σ:St N}{E:Env}{a:Act}(h:RelE io w0 σ E a w){id g:Nat}{T:TypeId}{arr:Array Value}(hg:w.heap[g]?=some (.cells arr T (0,0)))(off:Nat):
  ∀(j:Nat) u,((arr.toList.drop off))[j]?=some u->w.cell? ((⟨g,off,none⟩:Addr).add j)=some u:=by
 intro j u hu
 rw[q3m,cell_of_row w g _ arr T (0,0) hg]
 rw[List.getElem?_drop]at hu
 simpa using hu
theorem qkc (F:Fits P N τ){σ:St N}{t:TypeId}{dst:Option Nat}{x:Operand}{k:KK N β}{r:β}(h:q60 τ σ.own t dst (ev σ x) k=some r):
  ∃s ad,k s ad=some r/\q2n P σ (fun a=>Instr.loadAt t (a.eval x)) s ad:=by
 unfold q60 at h
 split at h
 ·rename_i ty e hτ
  split at h
  ·rename_i t' v bs hx
   split at h
   ·rename_i y hy
    refine⟨_,_,h,q2n.pure fun io w0 E a w hr=>?_⟩
    have hx':=hr.ev x
    rw[hx]at hx'
    obtain⟨ad,cs,h1,h2,h3,h4⟩:=hx'
    obtain⟨k1,k2⟩:=qg7 8 t' v 0 y cs hy h3
    obtain⟨u,p1,p2⟩:=F.load hτ (w:=w) (ad:=ad) k1 (fun j u hu=>h4 j u (by have:=q2x hu;simpa using this))
    exact⟨u,by rw[h1];exact p1,q21 k1 p2⟩
   ·cases h
  ·rename_i id i off hx
   split at h
   ·rename_i e' ty' xs bs p hl
    split at h
    ·rename_i y hy
     refine⟨_,_,h,q2n.pure fun io w0 E a w hr=>?_⟩
     have hx':=hr.ev x
     rw[hx]at hx'
     obtain⟨g,cap,n,t',⟨e2,xs2,bs2,p2,q1,q2⟩,h2,h3,h4⟩:=hx'
     rw[hl]at q1
     cases q1
     obtain⟨cells,c1,c2⟩:=hr.own id _ hl
     have hlt:i<xs.length:=by omega
     obtain⟨ccs,d1,d2,d3⟩:=qdl (fun x cs hx=>q05 hx) c2 i xs[i] (gE hlt)
     rw[gQ,gE hlt]at hy
     obtain⟨k1,k2⟩:=qg7 8 ty' _ off y ccs hy d1
     rcases c1.2 with⟨hv,hn⟩|⟨g',cap',cur,T0,fz,hv,hg,_,_,_,_,_,ht⟩
     ·rw[h3]at hv;cases hv
     ·rw[h3]at hv
      simp only[Value.slice.injEq,Option.some.injEq,Addr.mk.injEq]at hv
      obtain⟨⟨rfl,_⟩,_,rfl⟩:=hv
      obtain⟨u,p1,p2⟩:=F.load hτ (w:=w) (ad:=⟨g,i*N.sz ty'+off,none⟩) k1 (fun j u hu=>by
       have h5:=q2x hu
       rw[<-d2]at h5
       have h6:=q2x h5
       rw[<-ht,List.getElem?_take]at h6
       split at h6
       ·rw[q3m,cell_of_row w g _ cur _ _ hg,show i*N.sz ty'+off+j=i*N.sz ty'+(off+j)from by omega]
        simpa using h6
       ·cases h6)
      exact⟨u,by rw[h4];exact p1,q21 k1 p2⟩
    ·obtain⟨n,y,rfl,rfl,rfl,h1,_,h3⟩:=q4f h
     refine⟨_,_,h1,q2n.pure fun io w0 E a w hr=>?_⟩
     have hx':=hr.ev x
     rw[hx]at hx'
     obtain⟨g,cap,n',t',⟨e2,xs2,bs2,p2,q1,q2⟩,g2,g3,g4⟩:=hx'
     rw[hl]at q1
     cases q1
     obtain⟨cells,c1,c2⟩:=hr.own id _ hl
     have hrep:=h3 c1 (by rw[g3];exact fun e=>by cases e) c2
     rcases c1.2 with⟨hv,hn⟩|⟨g',cap',cur,T0,fz,hv,hg,_,_,_,_,_,ht⟩
     ·rw[g3]at hv;cases hv
     ·rw[g3]at hv
      simp only[Value.slice.injEq,Option.some.injEq,Addr.mk.injEq]at hv
      obtain⟨⟨rfl,_⟩,_,rfl⟩:=hv
      obtain⟨u,p1,p2⟩:=F.load hτ (w:=w) (ad:=⟨g,0*N.sz ty'+0,none⟩) hrep (fun j u hu=>by
       rw[<-ht,List.getElem?_take]at hu
       split at hu
       ·rw[q3m,cell_of_row w g _ cur _ _ hg,show 0*N.sz ty'+0+j=j from by omega]
        simpa using hu
       ·cases hu)
      exact⟨u,by rw[g4];exact p1,cells,hrep,p2⟩
   ·cases h
  ·rename_i id off hx
   split at h
   ·rename_i t' v bs hl
    split at h
    ·rename_i y hy
     refine⟨_,_,h,q2n.pure fun io w0 E a w hr=>?_⟩
     have hx':=hr.ev x
     rw[hx]at hx'
     obtain⟨h1,g,h2,h3⟩:=hx'
     obtain⟨g',T,arr,c1,c2,c3⟩:=hr.own id _ hl
     rw[h2]at c1
     cases c1
     obtain⟨k1,k2⟩:=qg7 8 t' v off y _ hy c3
     obtain⟨u,p1,p2⟩:=F.load hτ (w:=w) (ad:=⟨g,off,none⟩) k1 (fun j u hu=>hr.box (id:=id) c2 off j u (by rw[List.getElem?_take]at hu;split at hu;exact hu;cases hu))
     exact⟨u,by rw[h3];exact p1,q21 k1 p2⟩
    ·cases h
   ·rename_i l hl
    have hbox:∀{io w0 E a w},RelE io w0 σ E a w->∃g T arr,a.eval x=.pointer (some ⟨g,off,none⟩)/\w.heap[g]?=some (.cells arr T (0,0))/\arr.size=l.length/\∀(i:Nat) r u,l[i]?=some r->arr[i]?=some u->q0a w σ.own E r u:=by
     intro io w0 E a w hr
     have hx':=hr.ev x
     rw[hx]at hx'
     obtain⟨h1,g,h2,h3⟩:=hx'
     obtain⟨g',T,arr,c1,c2,c3,c4⟩:=hr.own id _ hl
     rw[h2]at c1
     cases c1
     exact⟨g,T,arr,h3,c2,c3,c4⟩
    split at h
    ·rename_i n
     cases hd:(N.rowsAt n).isEmpty with
     | true=>
      rw[hd,cT]at h
      split at h
      ·rename_i y bs hy
       refine⟨_,_,h,q2n.pure fun io w0 E a w hr=>?_⟩
       obtain⟨g,T,arr,h3,c2,c3,c4⟩:=hbox hr
       have k1:Rep w (okb w.heap.size σ.own E bs) (.nm n) y ((arr.toList.drop off).take (N.size n)):=hr.impl 8 (.nm n) _ y bs _ hy (by simp[c3]) (fun i r u hi hu=>by
        rw[List.getElem?_take]at hi hu
        split at hi
        ·rename_i hlt
         rw[if_pos hlt,List.getElem?_drop]at hu
         rw[List.getElem?_drop]at hi
         exact c4 _ r u hi (by simpa using hu)
        ·cases hi)
       obtain⟨u,p1,p2⟩:=F.load hτ (w:=w) (ad:=⟨g,off,none⟩) k1 (fun j u hu=>hr.box (id:=id) c2 off j u (by rw[List.getElem?_take]at hu;split at hu;exact hu;cases hu))
       exact⟨u,by rw[h3];exact p1,_,k1,p2⟩
      ·cases h
     | false=>
      rw[hd,cF]at h
      refine q2n.vals h (fun hlen io w0 E a w hr=>?_)
      obtain⟨g,T,arr,h3,c2,c3,c4⟩:=hbox hr
      have hcl:((arr.toList.drop off).take (N.size n)).length=((l.drop off).take (N.size n)).length:=by simp[c3]
      refine⟨_,?_,hcl,fun i r u hi hu=>?_⟩
      ·rw[h3]
       exact F.loadCells hτ (hcl.trans hlen) (fun j u hu=>hr.box (id:=id) c2 off j u (by rw[List.getElem?_take]at hu;split at hu;exact hu;cases hu))
      ·rw[List.getElem?_take]at hi hu
       split at hi
       ·rename_i hlt
        rw[if_pos hlt,List.getElem?_drop]at hu
        rw[List.getElem?_drop]at hi
        exact c4 _ r u hi (by simpa using hu)
       ·cases hi
    ·rename_i hnn
     split at h
     ·rename_i r' hr'
      refine⟨_,_,h,q2n.pure fun io w0 E a w hr=>?_⟩
      obtain⟨g,T,arr,h3,c2,c3,c4⟩:=hbox hr
      have hlt:off<arr.size:=by rw[c3];exact(List.getElem?_eq_some_iff.1 hr').1
      have hc:w.cell? ⟨g,off,none⟩=some arr[off]:=by rw[cell_of_row w g _ arr T (0,0) c2];simp[hlt]
      have ha:(isAgg t).run P w=.ok false w:=by
       have:=F.isAgg hτ w
       cases ty with
       |nm n=>exact absurd rfl (hnn n)
       |_=>exact this
      refine⟨arr[off],?_,c4 off r' _ hr' (by simp[hlt])⟩
      rw[h3]
      simp[Instr.loadAt,Instr.sureAddr,loadVar,ha,Go.load,Sem.run,hc]
     ·cases h
   ·cases h
  ·cases h
 ·cases h
end Go.Eng

set_option linter.unusedVariables false
set_option linter.unusedSimpArgs false
namespace Go.Eng
variable {N:Names} {P:Program} {τ:TypeId->Option TI} {β:Type}
def qk1 (σ:St N):Option Operand->Option Int
 |none=>some 0
 |some o=>match ev σ o with
  |.int _ n=>some n
  |_=>none
def qk0 (σ:St N)(len:Nat):Option Operand->Option Int
 |none=>some len
 |some o=>match ev σ o with
  |.int _ n=>some n
  |_=>none
theorem qej {σ:St N}{lo:Option Operand}{l:Int}(h:qk1 σ lo=some l)(w:World)(io w0 E)(a:Act)(hr:RelE io w0 σ E a w):(lo=none/\l=0)\/∃o k,lo=some o/\a.eval o=.int k l:=by
 unfold qk1 at h
 split at h
 ·cases h;exact .inl ⟨rfl,rfl⟩
 ·rename_i o
  split at h
  ·rename_i k n hn
   cases h
   have:=hr.ev o
   rw[hn]at this
   exact .inr ⟨o,k,rfl,this⟩
  ·cases h
theorem qei {σ:St N}{len:Nat}{hi:Option Operand}{l:Int}(h:qk0 σ len hi=some l)(w:World)(io w0 E)(a:Act)(hr:RelE io w0 σ E a w):(hi=none/\l=len)\/∃o k,hi=some o/\a.eval o=.int k l:=by
 unfold qk0 at h
 split at h
 ·cases h;exact .inl ⟨rfl,rfl⟩
 ·rename_i o
  split at h
  ·rename_i k n hn
   cases h
   have:=hr.ev o
   rw[hn]at this
   exact .inr ⟨o,k,rfl,this⟩
  ·cases h
def z12b (N:Names)(dst:Option Nat):Bool:=match dst with
 |some d=>N.oslD d
 |none=>false
def qaj (σ:St N)(e:Ty)(x:RV N)(lo hi:Option Operand)(k:KK N β):Option β:=
 match x with
 | .own id=>match look σ.own id with
  |some (.row _ e' xs _ _)=>bif decide (e'=e)then match qk1 σ lo,qk0 σ xs.length hi with
   |some a,some b=>if 0<=a then if a<=b then if b<=(xs.length:Int)then k (.one (.osl id a.toNat (b-a).toNat)) []else none else none else none
   |_,_=>none
   else none
  |_=>none
 |_=>none
def q5i (τ:TypeId->Option TI)(σ:St N)(t:TypeId)(dst:Option Nat)(x:RV N)(lo hi:Option Operand)(k:KK N β):Option β:=
 match τ t with
 | some ⟨.str,_⟩=>match x with
  |.str l=>match qk1 σ lo,qk0 σ l.length hi with
   |some a,some b=>if 0<=a then if a<=b then if b<=(l.length:Int)then k (.one (.str ((l.take b.toNat).drop a.toNat))) []else none else none else none
   |_,_=>none
  |_=>none
 | some ⟨.sl e,_⟩=>bif z12b N dst then qaj σ e x lo hi k else match toDen σ.own (.sl e) x with
  |some (l,bs)=>match qk1 σ lo,qk0 σ l.length hi with
   |some a,some b=>if 0<=a then if a<=b then if b<=(l.length:Int)then k (.one (.data (.sl e) ((l.take b.toNat).drop a.toNat) bs)) []else none else none else none
   |_,_=>none
  |none=>none
 |some ⟨.nm n,e⟩=>q48 σ.own n e x lo hi k
 |_=>none
theorem q5q {b:Bool}{len cap:Nat}{lo hi:Option Operand}{a:Act}{l h:Int}(hl:(lo=none/\l=0)\/∃o k,lo=some o/\a.eval o=.int k l)(hh:(hi=none/\h=len)\/∃o k,hi=some o/\a.eval o=.int k h)
  (h0:0<=l) (h1:l<=h) (h2:h<=len) (hc:len<=cap) (w:World):
  (Instr.sliceBounds b len cap (lo.map a.eval) (hi.map a.eval) none).run P w=.ok (l.toNat,h.toNat,cap) w:=by
 have eh:(h.toNat:Int)=h:=Int.toNat_of_nonneg (by omega)
 rcases hl with⟨rfl,rfl⟩|⟨o,k,rfl,ho⟩<;>rcases hh with⟨rfl,rfl⟩|⟨o',k',rfl,ho'⟩
 ·simp[Instr.sliceBounds]
 ·simp only[Instr.sliceBounds,Option.map_some,Option.map_none,ho',Sem.run_bind,Sem.run_pure,Result.andThen_ok,run_sliceBound w k' h cap _ (by omega) (by omega)]
  simp
 ·have:=run_sliceBound (P:=P) w k l len (if(none:Option Value).isSome then .slice3C else .sliceB) h0 (by omega)
  simp only[Instr.sliceBounds,Option.map_some,Option.map_none,ho,Sem.run_bind,Sem.run_pure,Result.andThen_ok,this]
  simp
 ·have:=run_sliceBound (P:=P) w k l h.toNat (if(none:Option Value).isSome then .slice3C else .sliceB) h0 (by omega)
  simp only[Instr.sliceBounds,Option.map_some,Option.map_none,ho,ho',Sem.run_bind,Sem.run_pure,Result.andThen_ok,run_sliceBound w k' h cap _ (by omega) (by omega),this]
theorem qgm (s:ByteArray)(l h:Nat):q0o (s.extract l h)=((q0o s).take h).drop l:=by
 simp only[q0o,ByteArray.data_extract,Array.toList_extract,List.extract_eq_take_drop,List.map_take,List.map_drop]
 rw[List.drop_take]
theorem qgk (F:Fits P N τ){σ:St N}{t:TypeId}{e:Ty}{el:TypeId}(hτ:τ t=some ⟨.sl e,el⟩){x:Operand}{lo hi:Option Operand}{k:KK N β}{r:β}(h:qaj σ e (ev σ x) lo hi k=some r):
  ∃s ad,k s ad=some r/\q2n P σ (fun a=>Instr.sliceAt t (a.eval x) (lo.map a.eval) (hi.map a.eval) none) s ad:=by
 unfold qaj at h
 split at h
 ·rename_i id hx
  split at h
  ·rename_i e1 e' xs bs p hl
   obtain⟨he,h3⟩:=q02 h
   clear h
   have h:=h3
   clear h3
   have he:e'=e:=by simpa using he
   subst he
   split at h
   ·rename_i p q hp hq
    split at h
    ·rename_i h0
     split at h
     ·rename_i h1
      split at h
      ·rename_i h2
       refine⟨_,_,h,q2n.pure fun io w0 E a w hr=>?_⟩
       have hx':=hr.ev x
       rw[hx]at hx'
       obtain⟨k1,_⟩:=hx'
       obtain⟨_,A,cap,k2⟩:=hr.rowRep hl
       have hcap:xs.length<=cap:=by
        obtain⟨cells,g1,_⟩:=hr.own id _ hl
        rcases g1.2 with⟨hv,hn⟩|⟨g,cap',cur,_,_,hv,_,_,_,hnc,_⟩
        ·omega
        ·rw[k2]at hv;cases hv;exact hnc
       obtain⟨u1,⟨e2,u2⟩,_⟩:=F.sl t e' el hτ
       have hb:=q5q (P:=P) (b:=true) (qej hp w io w0 E a hr) (qei hq w io w0 E a hr) h0 h1 h2 hcap w
       have hs:=F.sizeOf u2 w
       have hqp:(q-p).toNat=q.toNat-p.toNat:=by omega
       refine⟨_,?_,A,cap,xs.length,e',⟨e1,xs,bs,_,hl,rfl⟩,by omega,k2,rfl⟩
       rw[k1,k2,hqp]
       simp only[Instr.sliceAt,Instr.slice,Sem.run_bind,run_underlying u1,Result.andThen_ok,Sem.run_pure,hb,hs]
      ·cases h
     ·cases h
    ·cases h
   ·cases h
  ·cases h
 ·cases h
theorem qi7 (F:Fits P N τ){σ:St N}{t:TypeId}{dst:Option Nat}{x:Operand}{lo hi:Option Operand}{k:KK N β}{r:β}(h:q5i τ σ t dst (ev σ x) lo hi k=some r):
  ∃s ad,k s ad=some r/\q2n P σ (fun a=>Instr.sliceAt t (a.eval x) (lo.map a.eval) (hi.map a.eval) none) s ad:=by
 unfold q5i at h
 split at h
 ·rename_i el hτ
  split at h
  ·rename_i l hx
   split at h
   ·rename_i p q hp hq
    split at h
    ·rename_i h0
     split at h
     ·rename_i h1
      split at h
      ·rename_i h2
       refine⟨_,_,h,q2n.pure fun io w0 E a w hr=>?_⟩
       have hx':=hr.ev x
       rw[hx]at hx'
       obtain⟨s,k1,k2⟩:=hx'
       subst k2
       rw[q0r]at h2 hq
       have hb:=q5q (P:=P) (b:=false) (qej hp w io w0 E a hr) (qei hq w io w0 E a hr) h0 h1 h2 (nR _) w
       refine⟨.string (s.extract p.toNat q.toNat),?_,_,rfl,qgm s _ _⟩
       rw[k1]
       simp only[Instr.sliceAt,Instr.slice,Sem.run_bind,run_underlying (F.str t el hτ).1,Result.andThen_ok,Option.isSome_none,Bool.false_eq_true,if_false,Sem.run_pure,hb]
      ·cases h
     ·cases h
    ·cases h
   ·cases h
  ·cases h
 ·rename_i e el hτ
  cases ho:z12b N dst with
  |true=>
   rw[ho,cT]at h
   exact qgk F hτ h
  | false =>
   rw[ho,cF]at h
   split at h
   ·rename_i l bs hx
    split at h
    ·rename_i p q hp hq
     split at h
     ·rename_i h0
      split at h
      ·rename_i h1
       split at h
       ·rename_i h2
        refine⟨_,_,h,q2n.pure fun io w0 E a w hr=>?_⟩
        obtain⟨cs,⟨A,cap,c1,c2,c2',c3⟩,k2⟩:=hr.toDen hx (hr.ev x)
        have c4:cs=[a.eval x]:=k2
        rw[c1]at c4
        have c5:a.eval x=.slice A l.length cap:=(List.cons.inj c4).1.symm
        obtain⟨u1,⟨e',u2⟩,_⟩:=F.sl t e el hτ
        have hb:=q5q (P:=P) (b:=true) (qej hp w io w0 E a hr) (qei hq w io w0 E a hr) h0 h1 h2 c2 w
        have hs:=F.sizeOf u2 w
        have hlen:((l.take q.toNat).drop p.toNat).length=q.toNat-p.toNat:=by rw[lD,lT];omega
        refine⟨.slice (if cap=p.toNat then A else A.map (·.add (p.toNat*N.sz e))) (q.toNat-p.toNat) (cap-p.toNat),?_,_,⟨if cap=p.toNat then A else A.map (·.add (p.toNat*N.sz e)),cap-p.toNat,by rw[hlen],by rw[hlen];omega,fun hA=>?_,fun i y hy=>?_⟩,rfl⟩
        ·rw[c5]
         simp only[Instr.sliceAt,Instr.slice,Sem.run_bind,run_underlying u1,Result.andThen_ok,Sem.run_pure,hb,hs]
        ·split at hA
         ·omega
         ·rw[Option.map_eq_none_iff]at hA
          have:=c2' hA
          omega
        ·have hilt:i<((l.take q.toNat).drop p.toNat).length:=(List.getElem?_eq_some_iff.1 hy).1
         rw[hlen]at hilt
         rw[List.getElem?_drop,List.getElem?_take]at hy
         rw[if_pos (by omega)]at hy
         obtain⟨ad,ccs,d1,d2,d3,d4⟩:=c3 _ y hy
         refine⟨ad.add (p.toNat*N.sz e),ccs,?_,by rw[q1e];exact d2,d3,fun j u hu=>?_⟩
         ·rw[if_neg (by omega),d1];rfl
         ·rw[q4m,<-Nat.add_assoc,<-Nat.add_mul]
          exact d4 j u hu
       ·cases h
      ·cases h
     ·cases h
    ·cases h
   ·cases h
 ·rename_i n e hτ
  exact qdd F hτ h
 ·cases h
def q0n (n:Int):Int:=((n.toNat%256:Nat):Int)
theorem qda (xs:List Int):q0o (strOfNums xs)=xs.map q0n:=by
 unfold q0o
 rw[strOfNums_data,List.map_map]
 apply List.map_congr_left
 intro n _
 simp[q0n,UInt8.toNat_ofNat']
def qub {α:Type}:Option α->Bool
 |some _=>true
 |none=>false
def q1y (τ:TypeId->Option TI)(own:List (Nat×Blk N))(src dst:TypeId)(x:RV N)(k:KK N β):Option β:=
 bif qub (τ src)then match τ dst with
 |some ⟨.int k',_⟩=>match x with
  |.int _ n=>k (.one (.int k' (k'.wrap n))) []
  |_=>none
 | some ⟨.str,_⟩=>match x with
  |.str l=>k (.one (.str l)) []
  |.int _ _=>none
  | x=>match τ src with
   |some ⟨.sl (.int .u8),_⟩=>match toDen own (.sl (.int .u8)) x with
    |some (l,_)=>k (.one (.str (l.map q0n))) []
    |none=>none
   |_=>none
 |some ⟨.sl (.int .u8),_⟩=>match x with
  |.str l=>k (.one (.data (.sl (.int .u8)) l [])) []
  |_=>none
 |_=>none
 else none
theorem Fits.under (F:Fits P N τ){t:TypeId}{ti:TI}(h:τ t=some ti):∃d,P.underlying t=some d:=by
 obtain⟨ty,e⟩:=ti
 cases ty with
 |int k=>exact⟨_,(F.int t k e h).1⟩
 |bool=>exact⟨_,(F.bool t e h).1⟩
 |str=>exact⟨_,(F.str t e h).1⟩
 |sl ty=>exact⟨_,(F.sl t ty e h).1⟩
 |nm n=>obtain⟨fs,h1,_⟩:=F.nm t n e h;exact h1.under
 |opq=>obtain⟨⟨d,h1,_⟩,_⟩:=F.opq t e h;exact⟨_,h1⟩
theorem qrk (F:Fits P N τ){src dst e e' el:TypeId}{w:World}{ok:Nat->Prop}{l:List Int}{A:Option Addr}{cap:Nat}(hs:τ src=some ⟨.sl (.int .u8),e⟩)(hd:τ dst=some ⟨.str,e'⟩)
  (hrep:Rep (N:=N) w ok (.sl (.int .u8)) l [.slice A l.length cap]):∃s,(convert src dst (.slice A l.length cap)).run P w=.ok (.string s) w/\q0o s=l.map q0n:=by
 obtain⟨u1,⟨e2,u2⟩,_⟩:=F.sl src _ e hs
 have he:=(F.int e .u8 e2 u2).1
 have hd':=(F.str dst e' hd).1
 obtain⟨A',cap',c1,c2,c2',c3⟩:=hrep
 simp only[List.cons.injEq,Value.slice.injEq,and_true]at c1
 obtain⟨rfl,_,rfl⟩:=c1
 cases A with
 |none=>
  have hl:l=[]:=List.eq_nil_of_length_eq_zero (by have:=c2' rfl;omega)
  subst hl
  exact⟨ByteArray.empty,run_convert_bytes_nil w src e u1 he 0 cap dst hd',rfl⟩
 | some ad=>
  have hl:(loadCells ad l.length).run P w=.ok (l.map (Value.int .u8)).toArray w:=by
   have:=run_loadCells_list (P:=P) w ad (l.map (Value.int .u8)) (fun j v hj=>by
    rw[List.getElem?_map]at hj
    obtain⟨n,hn,rfl⟩:=Option.map_eq_some_iff.1 hj
    obtain⟨ad',ccs,d1,d2,d3,d4⟩:=c3 j n hn
    cases d1
    have:ccs=[.int .u8 n]:=d3
    subst this
    have:=d4 0 _ rfl
    simpa[Names.sz]using this)
   simpa using this
  refine⟨strOfNums l,?_,qda l⟩
  rw[run_convert_bytes_string w src dst e _ l.length cap u1 he hd',run_bytesToString w _ l.length cap l hl,foldl_push_bytes]
  simp[strOfNums,ByteArray.empty,ByteArray.emptyWithCapacity]
  rfl
theorem q5f (F:Fits P N τ){σ:St N}{src dst:TypeId}{x:Operand}{k:KK N β}{r:β}(h:q1y τ σ.own src dst (ev σ x) k=some r):
  ∃s ad,k s ad=some r/\q2n P σ (fun a=>convert src dst (a.eval x)) s ad:=by
 unfold q1y at h
 obtain⟨hsrc,h⟩:=q02 h
 obtain⟨ti,hti⟩:∃ti,τ src=some ti:=by
  cases hs:τ src with
  |none=>rw[hs]at hsrc;cases hsrc
  |some ti=>exact⟨ti,rfl⟩
 obtain⟨d,hd⟩:=F.under hti
 split at h
 ·rename_i k' el hτ
  split at h
  ·rename_i k0 n hx
   refine⟨_,_,h,q2n.pure fun io w0 E a w hr=>?_⟩
   have hx':=hr.ev x
   rw[hx]at hx'
   refine⟨.int k' (k'.wrap n),?_,rfl⟩
   rw[show a.eval x=_ from hx']
   simp only[convert,Sem.run_bind,run_underlying hd,run_underlying (F.int dst k' el hτ).1,Result.andThen_ok]
   cases d<;>rfl
  ·cases h
 ·rename_i el hτ
  split at h
  ·rename_i l hx
   refine⟨_,_,h,q2n.pure fun io w0 E a w hr=>?_⟩
   have hx':=hr.ev x
   rw[hx]at hx'
   obtain⟨s,k1,k2⟩:=hx'
   refine⟨.string s,?_,s,rfl,k2⟩
   rw[k1]
   simp only[convert,Sem.run_bind,run_underlying hd,run_underlying (F.str dst el hτ).1,Result.andThen_ok]
   cases d<;>rfl
  ·cases h
  ·rename_i x' hns hni
   split at h
   ·rename_i el' hτ'
    split at h
    ·rename_i l bs hl
     refine⟨_,_,h,q2n.pure fun io w0 E a w hr=>?_⟩
     obtain⟨cs,hrep,k2⟩:=hr.toDen hl (hr.ev x)
     obtain⟨A,cap,c1,c2,c2',c3⟩:=hrep
     have c4:cs=[a.eval x]:=k2
     rw[c1]at c4
     have c5:a.eval x=.slice A l.length cap:=(List.cons.inj c4).1.symm
     obtain⟨s,r1,r2⟩:=qrk F (e':=el) (el:=el) (w:=w) hτ' hτ (l:=l) (A:=A) (cap:=cap) ⟨A,cap,rfl,c2,c2',c3⟩
     exact⟨_,by rw[c5];exact r1,s,rfl,r2⟩
    ·cases h
   ·cases h
 ·rename_i el hτ
  split at h
  ·rename_i l hx
   refine⟨_,_,h,fun io w0 E a w hr=>?_⟩
   have hx':=hr.ev x
   rw[hx]at hx'
   obtain⟨s,k1,k2⟩:=hx'
   obtain⟨u1,⟨e2,u2⟩,_⟩:=F.sl dst _ el hτ
   have he:=(F.int el .u8 e2 u2).1
   have hrun:=Lib.run_convert_string_bytes (P:=P) w src dst el s hd u1 he
   have hext:Ext w (Lib.bytesWorld w el s):=⟨rfl,rfl,rfl,by simp[Lib.bytesWorld,World.freeze,World.alloc,World.drew,-World.alloc_eq,-World.drew_eq],fun g hg=>Lib.bytesWorld_at_old w el s g hg⟩
   refine⟨_,_,E,by show(convert src dst (a.eval x)).run P w=_;rw[k1];exact hrun,hr.ext hext,_,⟨some ⟨w.heap.size,0,none⟩,grownCap w s.size 0 el,?_,?_,(fun h=>by cases h),fun i n hn=>?_⟩,rfl⟩
   ·rw[<-k2,q0r]
   ·rw[<-k2,q0r];exact grownCap_ge w s.size 0 el
   ·have hsz:w.heap.size<(Lib.bytesWorld w el s).heap.size:=(Array.getElem?_eq_some_iff.1 (Lib.bytesWorld_at_new w el s)).1
    refine⟨⟨w.heap.size,0,none⟩,[.int .u8 n],rfl,⟨⟨hsz,by rw[hr.sc];exact hr.nw _ (.inl hr.kept.size)⟩,fun j hj _ hg=>?_⟩,rfl,fun j u hu=>?_⟩
    ·obtain⟨bj,hbj⟩:=Option.isSome_iff_exists.1 hj
     exact Nat.lt_irrefl _ (hr.blk j bj hbj _ hg).1
    ·match j,hu with
     |0,hu=>
      simp only[List.getElem?_cons_zero,Option.some.injEq]at hu
      subst hu
      simp only[Names.sz,Nat.mul_one,Nat.add_zero]
      rw[q3m,Nat.zero_add,cell_of_row _ _ _ _ _ _ (Lib.bytesWorld_at_new w el s)]
      rw[<-k2]at hn
      simp only[q0o,List.getElem?_map]at hn
      obtain⟨b,hb,rfl⟩:=Option.map_eq_some_iff.1 hn
      have hlt:i<s.data.size:=by simpa using(List.getElem?_eq_some_iff.1 hb).1
      simp only[Lib.bytesCells]
      rw[Array.getElem?_append_left (by simpa using hlt)]
      rw[Array.getElem?_map]
      have hb':s.data[i]?=some b:=by simpa using hb
      rw[hb']
      rfl
  ·cases h
 ·cases h
def q9x (m n:Int):Int:=if n<m then n else m
def qzs (m n:Int):Int:=if m<n then n else m
def qt7 (lo:Bool)(x y:RV N)(k:KK N β):Option β:=
 match x,y with
 |.int kd m,.int _ n=>bif lo then k (.one (.int kd (q9x m n))) []else k (.one (.int kd (qzs m n))) []
 |_,_=>none
theorem qmr {σ:St N}{ts:Array TypeId}{ty:TypeId}{x y:Operand}{k:KK N β}{r:β}(h:qt7 true (ev σ x) (ev σ y) k=some r):
  ∃s ad,k s ad=some r/\q2n P σ (fun a=>Builtin.min_ ts ty #[a.eval x,a.eval y]) s ad:=by
 unfold qt7 at h
 split at h
 ·rename_i kd m kd' n hx hy
  refine⟨_,_,h,q2n.pure fun io w0 E a w hr=>?_⟩
  have hx':=hr.ev x
  have hy':=hr.ev y
  rw[hx]at hx'
  rw[hy]at hy'
  have hx':a.eval x=.int kd m:=hx'
  have hy':a.eval y=.int kd' n:=hy'
  refine⟨.int kd (q9x m n),?_,rfl⟩
  rw[hx',hy']
  simp[Builtin.min_,Builtin.min2,q9x]
 ·cases h
theorem qmq {σ:St N}{ts:Array TypeId}{ty:TypeId}{x y:Operand}{k:KK N β}{r:β}(h:qt7 false (ev σ x) (ev σ y) k=some r):
  ∃s ad,k s ad=some r/\q2n P σ (fun a=>Builtin.max_ ts ty #[a.eval x,a.eval y]) s ad:=by
 unfold qt7 at h
 split at h
 ·rename_i kd m kd' n hx hy
  refine⟨_,_,h,q2n.pure fun io w0 E a w hr=>?_⟩
  have hx':=hr.ev x
  have hy':=hr.ev y
  rw[hx]at hx'
  rw[hy]at hy'
  have hx':a.eval x=.int kd m:=hx'
  have hy':a.eval y=.int kd' n:=hy'
  refine⟨.int kd (qzs m n),?_,rfl⟩
  rw[hx',hy']
  simp[Builtin.max_,Builtin.max2,qzs]
 ·cases h
def qi4 (τ:TypeId->Option TI)(own:List (Nat×Blk N))(t:TypeId)(x:RV N)(k:KK N β):Option β:=
 match τ t with
 |some ⟨.str,_⟩=>match x with
  |.str l=>k (.one (.int .i64 (l.length:Int))) []
  |_=>none
 |some ⟨.sl e,_⟩=>match toDen own (.sl e) x with
  |some (l,_)=>k (.one (.int .i64 (l.length:Int))) []
  |none=>none
 |_=>none
theorem qmp (F:Fits P N τ){σ:St N}{t ty:TypeId}{x:Operand}{k:KK N β}{r:β}(h:qi4 τ σ.own t (ev σ x) k=some r):
  ∃s ad,k s ad=some r/\q2n P σ (fun a=>Builtin.len_ #[t] ty #[a.eval x]) s ad:=by
 unfold qi4 at h
 split at h
 ·rename_i el hτ
  split at h
  ·rename_i l hx
   refine⟨_,_,h,q2n.pure fun io w0 E a w hr=>?_⟩
   have hx':=hr.ev x
   rw[hx]at hx'
   obtain⟨s,k1,k2⟩:=hx'
   refine⟨goInt s.size,?_,by rw[<-k2,q0r];rfl⟩
   rw[k1]
   simp[Builtin.len_,run_underlying (F.str t el hτ).1]
  ·cases h
 ·rename_i e el hτ
  split at h
  ·rename_i l bs hx
   refine⟨_,_,h,q2n.pure fun io w0 E a w hr=>?_⟩
   obtain⟨cs,⟨A,cap,c1,c2,c2',c3⟩,k2⟩:=hr.toDen hx (hr.ev x)
   have c4:cs=[a.eval x]:=k2
   rw[c1]at c4
   have c5:a.eval x=.slice A l.length cap:=(List.cons.inj c4).1.symm
   refine⟨goInt l.length,?_,rfl⟩
   rw[c5]
   simp[Builtin.len_,run_underlying (F.sl t e el hτ).1]
  ·cases h
 ·cases h
end Go.Eng
