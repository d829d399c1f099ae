/- The engine, part W: one operation, and a row of operations.
The engine, part WD: operations that only read or add: what they do does not hang on what else was added.
The engine, part WE: regions whose order is open: reading operations in any order, then a tail in its order.
The engine, part WF: a region whose order is open, followed.
The engine, part WG: regions whose order is open, with stores into boxes and rows that what is not forced ahead of them does not read. -/
import Derived.Test.YtpnabclcnplchaaGreatEngine2
import Derived.Orders
import Derived.StillTail
set_option linter.unusedVariables false
set_option linter.unusedSimpArgs false
namespace Go.Eng
variable {N:Names} {P:Program} {τ:TypeId->Option TI} {β:Type}
def qjl (P:Program)(o:Oper)(σ σ':St N):Prop:=
 ∀io w0 a w (K:Act->World->Prop) (Q:Exit->Act->World->Prop),Rel io w0 σ a w->(∀a' w',Rel io w0 σ' a' w'->K a' w')->o.wp P a w K Q
def qdt (σ:St N)(d:Option Nat)(k:St N->Option β):KK N β:=fun s ad=>k (({σ with own:=q0d ad σ.own}:St N).put d s)
def fin2 (d:Option Nat)(k:St N->Option β):Slot N->St N->Option β:=fun s σ'=>k (σ'.put d s)
inductive Arg where
 |op (o:Operand)
 |cap (id:Nat)
def qwi (σ:St N):Arg->RV N
 |.op o=>ev σ o
 |.cap id=>match look σ.own id with
  |some (.whole _ _ _)=>.bptr id 0
  |some (.cells _)=>.bptr id 0
  |_=>.undef
def argV (a:Act)(E:Env):Arg->Value
 |.op o=>a.eval o
 |.cap id=>E id
def z14j:List (RV N)->Option FuncId
 |[]=>none
 |.fn g _::_=>some g
 |_::l=>z14j l
def quw (Φ:FuncId->Option (Spec N))(f:FuncId)(rs:List (RV N)):Option (Spec N):=
 bif Nat.blt f 1000000 then match z14j rs with
  |some g=>match Φ (f+1000000*(g+1))with
   |some S=>some S
   |none=>Φ f
  |none=>Φ f
 else none
def ctab:List CK->List (RV N)->List (Nat×Nat)
 |.f _ js::l,.fn _ caps::rs=>js.zip caps++ctab l rs
 |_::l,_::rs=>ctab l rs
 |_,_=>[]
def gtab (own:List (Nat×Blk N)):List PK->List (RV N)->List (Nat×Nat)
 |.fn _ js::ps,.fn _ caps::rs=>js.zip caps++gtab own ps rs
 |.bc l::ps,.bptr id 0::rs=>match look own id with
  |some (.cells us)=>ctab l us++gtab own ps rs
  |_=>gtab own ps rs
 |_::ps,_::rs=>gtab own ps rs
 |_,_=>[]
def q62 (own:List (Nat×Blk N))(ps:List PK):Nat->List (RV N)->List Nat
 |0,_=>[]
 |g+1,rs=>match look (gtab own ps rs) rs.length with
  |some id=>id::q62 own ps g (rs++[.bptr id 0])
  |none=>0::q62 own ps g (rs++[.undef])
theorem q8g (own:List (Nat×Blk N))(ps:List PK):∀(g:Nat) (rs:List (RV N)),(q62 own ps g rs).length=g
 |0,_=>rfl
 |g+1,rs=>by
  unfold q62
  split<;>simp[q8g own ps g]
theorem qre {Φ:FuncId->Option (Spec N)}(hΦ:∀f S,Φ f=some S->Good P (f%1000000) S){f:FuncId}{rs:List (RV N)}{S:Spec N}(h:quw Φ f rs=some S):Good P f S:=by
 unfold quw at h
 cases hb:Nat.blt f 1000000 with
 |false=>rw[hb]at h;cases h
 |true=>
 rw[hb,cT]at h
 have hlt:f<1000000:=by simpa[Nat.blt_eq]using hb
 have h0:Φ f=some S->Good P f S:=fun h=>by
  have:=hΦ f S h
  rwa [Nat.mod_eq_of_lt hlt]at this
 split at h
 ·rename_i g _
  split at h
  ·rename_i S' hS
   cases h
   have:=hΦ _ _ hS
   rwa [Nat.add_mul_mod_self_left,Nat.mod_eq_of_lt hlt]at this
  ·exact h0 h
 ·exact h0 h
def qhz (Φ:FuncId->Option (Spec N))(σ:St N)(dst:Option Nat)(f:RV N)(os:List Operand)(k:Slot N->St N->Option β):Option β:=
 match f with
 | .fn f caps=>match quw Φ f (os.map (ev σ))with
  | some S=>bif Nat.beq S.ps.length ((os.map Arg.op++caps.map Arg.cap).length+S.gh)then
    qk7 S σ (qwi σ) ((os.map Arg.op++caps.map Arg.cap)++(q62 σ.own S.ps S.gh ((os.map Arg.op++caps.map Arg.cap).map (qwi σ))).map Arg.cap) dst k
   else none
  |none=>none
 |_=>none
def q47 (τ:TypeId->Option TI)(σ:St N)(ty:TypeId)(dst:Option Nat)(x:Operand)(k:KK N β):Option β:=
 match x with
 |.tmp t=>match σ.reg t with
  |.tup l=>k (.tup l) []
  |_=>q61 τ σ.own ty dst (ev σ x) k
 |_=>q61 τ σ.own ty dst (ev σ x) k
theorem qai {σ:St N}{ty:TypeId}{dst:Option Nat}{x:Operand}{k:KK N β}{r:β}(h:q47 τ σ ty dst x k=some r):
  ∃s ad,k s ad=some r/\q2n P σ (fun a=>pure (a.eval x)) s ad:=by
 unfold q47 at h
 split at h
 ·rename_i t
  split at h
  ·rename_i l hl
   refine⟨_,_,h,fun io w0 E a w hr=>?_⟩
   have hlt:t<σ.regs.length:=by
    rcases Nat.lt_or_ge t σ.regs.length with h'|h'
    ·exact h'
    ·unfold St.reg at hl
     rw[gQ,List.getElem?_eq_none h']at hl
     cases hl
   have hs:σ.regs[t]?=some (.tup l):=by
    unfold St.reg at hl
    rw[gQ,gE hlt]at hl
    rw[gE hlt]
    exact congrArg some hl
   exact⟨_,w,E,rfl,hr,hr.regs t _ hs⟩
  ·exact q88 h
 ·exact q88 h
def qkq:Operand->Bool
 |.const (.slice none 0 0)=>true
 |_=>false
def z112 (τ:TypeId->Option TI)(own:List (Nat×Blk N))(op:BinOp)(t:TypeId)(x:RV N)(k:RV N->Option β):Option β:=
 match τ t with
 | some ⟨.sl e,_⟩=>match toDen own (.sl e) x with
  |some (l,_)=>match op with
   |.eql=>if l.length=0 then none else k (.bool false)
   |.neq=>if l.length=0 then none else k (.bool true)
   |_=>none
  |none=>none
 |_=>none
theorem qb4 {t el:TypeId}(u1:P.underlying t=some (.slice el))(A:Addr)(n cap:Nat)(w:World):(Op.equal t (.slice (some A) n cap) (.slice none 0 0)).run P w=.ok false w:=by
 have one:∀d,(Op.equalIn (d+1) t (.slice (some A) n cap) (.slice none 0 0)).run P w=.ok false w:=fun d=>by
  rw[Op.equalIn]
  simp[run_underlying u1]
 exact one _
theorem qms (F:Fits P N τ){σ:St N}{op:BinOp}{t:TypeId}{x:Operand}{k:RV N->Option β}{r:β}(h:z112 τ σ.own op t (ev σ x) k=some r):
  ∃z,k z=some r/\∀io w0 E a w,RelE io w0 σ E a w->∃v,∀X Y,(do eqGuard op t X Y (a.eval x) (.slice none 0 0);binOp op t (a.eval x) (.slice none 0 0)).run P w=.ok v w/\q0a w σ.own E z v:=by
 unfold z112 at h
 split at h
 ·rename_i e el hτ
  split at h
  ·rename_i l bs hl
   have key:l.length≠0->∀io w0 E a w,RelE io w0 σ E a w->∃A n cap,a.eval x=.slice (some A) n cap:=fun hn io w0 E a w hr=>by
    obtain⟨cs,⟨A,cap,c1,c2,c2',c3⟩,k2⟩:=hr.toDen hl (hr.ev x)
    have c4:cs=[a.eval x]:=k2
    rw[c1]at c4
    have c5:a.eval x=.slice A l.length cap:=(List.cons.inj c4).1.symm
    cases A with
    |none=>have:=c2' rfl;omega
    |some A=>exact⟨A,_,_,c5⟩
   obtain⟨u1,_⟩:=F.sl t e el hτ
   split at h
   ·split at h
    ·cases h
    ·rename_i hn
     refine⟨_,h,fun io w0 E a w hr=>⟨.bool false,fun X Y=>⟨?_,rfl⟩⟩⟩
     obtain⟨A,n,cap,hx⟩:=key hn io w0 E a w hr
     rw[hx]
     simp[eqGuard,binOp,qb4 u1]
   ·split at h
    ·cases h
    ·rename_i hn
     refine⟨_,h,fun io w0 E a w hr=>⟨.bool true,fun X Y=>⟨?_,rfl⟩⟩⟩
     obtain⟨A,n,cap,hx⟩:=key hn io w0 E a w hr
     rw[hx]
     simp[eqGuard,binOp,qb4 u1]
   ·cases h
  ·cases h
 ·cases h
def qkr:Operand->Bool
 |.const .nilFunc=>true
 |_=>false
theorem qff {y:Operand}(h:qkr y=true):y=.const .nilFunc:=by
 unfold qkr at h
 split at h
 ·rfl
 ·cases h
def qt8 (τ:TypeId->Option TI)(op:BinOp)(t:TypeId)(x:RV N)(k:RV N->Option β):Option β:=
 match τ t with
 |some ⟨.opq,1⟩=>match op,x with
  |.eql,.fn _ _=>k (.bool false)
  |.neq,.fn _ _=>k (.bool true)
  |.eql,.nilf=>k (.bool true)
  |.neq,.nilf=>k (.bool false)
  |_,_=>none
 |_=>none
theorem q9j {t:TypeId}{ps rs v}(u1:P.underlying t=some (.func ps rs v))(f:Fn)(b c:Array Value)(w:World):(Op.equal t (.func f b c) .nilFunc).run P w=.ok false w:=by
 have one:∀d,(Op.equalIn (d+1) t (.func f b c) .nilFunc).run P w=.ok false w:=fun d=>by
  rw[Op.equalIn]
  simp[run_underlying u1]
 exact one _
theorem q9k {t:TypeId}{ps rs v}(u1:P.underlying t=some (.func ps rs v))(w:World):(Op.equal t .nilFunc .nilFunc).run P w=.ok true w:=by
 have one:∀d,(Op.equalIn (d+1) t .nilFunc .nilFunc).run P w=.ok true w:=fun d=>by
  rw[Op.equalIn]
  simp[run_underlying u1]
 exact one _
theorem qke (F:Fits P N τ){σ:St N}{op:BinOp}{t:TypeId}{x:Operand}{k:RV N->Option β}{r:β}(h:qt8 τ op t (ev σ x) k=some r):
  ∃z,k z=some r/\∀io w0 E a w,RelE io w0 σ E a w->∃v,∀X Y,(do eqGuard op t X Y (a.eval x) .nilFunc;binOp op t (a.eval x) .nilFunc).run P w=.ok v w/\q0a w σ.own E z v:=by
 unfold qt8 at h
 split at h
 ·rename_i hτ
  obtain⟨ps,rs,vv,hu⟩:∃ps rs v,P.underlying t=some (.func ps rs v):=by
   rcases F.mp t 1 hτ with h0|⟨_,h0⟩|⟨h0,_⟩
   ·cases h0
   ·exact h0
   ·exact absurd h0 (by decide)
  have hfn:∀{io w0 E a w f caps},ev σ x=.fn f caps->RelE io w0 σ E a w->∃c,a.eval x=.func (.func f) #[] c:=fun{io w0 E a w f caps} hx hr=>by
   have:=hr.ev x
   rw[hx]at this
   exact⟨_,this.1⟩
  have hnl:∀{io w0 E a w},ev σ x=.nilf->RelE io w0 σ E a w->a.eval x=.nilFunc:=fun{io w0 E a w} hx hr=>by
   have:=hr.ev x
   rw[hx]at this
   exact this
  split at h
  ·rename_i f caps hx
   refine⟨_,h,fun io w0 E a w hr=>⟨.bool false,fun X Y=>⟨?_,rfl⟩⟩⟩
   obtain⟨c,hc⟩:=hfn hx hr
   rw[hc]
   simp[eqGuard,binOp,q9j hu]
  ·rename_i f caps hx
   refine⟨_,h,fun io w0 E a w hr=>⟨.bool true,fun X Y=>⟨?_,rfl⟩⟩⟩
   obtain⟨c,hc⟩:=hfn hx hr
   rw[hc]
   simp[eqGuard,binOp,q9j hu]
  ·rename_i hx
   refine⟨_,h,fun io w0 E a w hr=>⟨.bool true,fun X Y=>⟨?_,rfl⟩⟩⟩
   rw[hnl hx hr]
   simp[eqGuard,binOp,q9k hu]
  ·rename_i hx
   refine⟨_,h,fun io w0 E a w hr=>⟨.bool false,fun X Y=>⟨?_,rfl⟩⟩⟩
   rw[hnl hx hr]
   simp[eqGuard,binOp,q9k hu]
  ·cases h
 ·cases h
def qgi (τ:TypeId->Option TI)(Φ:FuncId->Option (Spec N))(o:Oper)(σ:St N)(k:St N->Option β):Option β:=
 match o.op with
 |.move x=>q47 τ σ o.type o.dst x (qdt σ o.dst k)
 |.assign x=>q47 τ σ o.type o.dst x (qdt σ o.dst k)
 |.pick c x y=>match ev σ c with
  |.bool b=>bif b then q61 τ σ.own o.type o.dst (ev σ x) (qdt σ o.dst k)else q61 τ σ.own o.type o.dst (ev σ y) (qdt σ o.dst k)
  |_=>none
 |.alloc t=>q46 τ σ.own t o.dst (qdt σ o.dst k)
 |.box t x=>z110 τ σ.own t o.dst (ev σ x) (qdt σ o.dst k)
 |.build t ps=>q73 τ σ t o.dst ps.toList (qdt σ o.dst k)
 |.buildSlice t n ps=>q24 τ σ t n ps.toList o.dst (qdt σ o.dst k)
 |.load t x=>q60 τ σ.own t o.dst (ev σ x) (qdt σ o.dst k)
 |.store t x y=>qc0 τ σ t (ev σ x) (ev σ y) fun σ'=>k (σ'.put o.dst (.tup []))
 |.nilCheck x=>match ev σ x with
  |.bptr i j=>k (σ.put o.dst (.one (.bptr i j)))
  |.sptr t y bs=>k (σ.put o.dst (.one (.sptr t y bs)))
  |.optr i j l=>k (σ.put o.dst (.one (.optr i j l)))
  |.fn f caps=>k (σ.put o.dst (.one (.fn f caps)))
  |_=>none
 | .binOp op t x y _=>match qkq y with
  |true=>z112 τ σ.own op t (ev σ x) fun z=>k (σ.put o.dst (.one z))
  |false=>match qkr y with
   |true=>qt8 τ op t (ev σ x) fun z=>k (σ.put o.dst (.one z))
   |false=>qdb τ op t (ev σ x) (ev σ y) fun z=>k (σ.put o.dst (.one z))
 |.unOp op _ x=>evUn op (ev σ x) fun z=>k (σ.put o.dst (.one z))
 |.convert t t' x=>q9e τ σ t t' o.dst (ev σ x) (qdt σ o.dst k)
 | .makeFunc (.func f) fs cs=>match fs.toList with
  |[]=>match boxIds σ cs.toList with
   |some ids=>k (σ.put o.dst (.one (.fn f ids)))
   |none=>none
  |_=>none
 |.makeMap t res=>qep τ σ t res o.dst (qdt σ o.dst k)
 |.lookup t x i ok=>qi5 τ σ.own t (ev σ x) (ev σ i) ok (qdt σ o.dst k)
 |.mapUpdate t m x y=>q75 τ σ t (ev σ m) (ev σ x) (ev σ y) fun σ'=>k (σ'.put o.dst (.tup []))
 |.insert t m x y=>q75 τ σ t (ev σ m) (ev σ x) (ev σ y) fun σ'=>k (σ'.put o.dst (.tup []))
 |.makeSlice t l c=>q9f τ σ t o.dst l c (qdt σ o.dst k)
 |.slice t x lo hi none=>q5i τ σ t o.dst (ev σ x) lo hi (qdt σ o.dst k)
 |.fieldAddr t x f=>q1q τ t (ev σ x) f (qdt σ o.dst k)
 |.field t x f=>q6a τ σ.own t o.dst (ev σ x) f (qdt σ o.dst k)
 |.indexAddr t x i=>q1r τ σ.own t (ev σ x) (ev σ i) (qdt σ o.dst k)
 |.index t x i=>q87 τ t (ev σ x) (ev σ i) (qdt σ o.dst k)
 | .extract x i=>match x with
  | .tmp t=>match σ.reg t with
   |.tup l=>match l[i]? with
    |some r=>k (σ.put o.dst (.one r))
    |none=>none
   |_=>none
  |_=>none
 | .call c=>match c.callee with
  |.value f=>qhz Φ σ o.dst (ev σ f) c.args.toList (fin2 o.dst k)
  |.builtin .len=>match c.args.toList,c.argTypes.toList with
   |[x],[t]=>qi4 τ σ.own t (ev σ x) (qdt σ o.dst k)
   |_,_=>none
  |.builtin .append=>match c.args.toList,c.argTypes.toList with
   |[x,y],[t,t']=>qdq τ σ t t' o.dst (ev σ x) (ev σ y) (fin2 o.dst k)
   |_,_=>none
  |.builtin .copy=>match c.args.toList,c.argTypes.toList with
   |[x,y],[t,t']=>qml τ σ t t' (ev σ x) (ev σ y) (fin2 o.dst k)
   |_,_=>none
  |.builtin .min=>match c.args.toList with
   |[x,y]=>qt7 true (ev σ x) (ev σ y) (qdt σ o.dst k)
   |_=>none
  |.builtin .max=>match c.args.toList with
   |[x,y]=>qt7 false (ev σ x) (ev σ y) (qdt σ o.dst k)
   |_=>none
  |_=>none
 |_=>none
where
 boxIds (σ:St N):List Operand->Option (List Nat)
  |[]=>some []
  |x::l=>match ev σ x,boxIds σ l with
   |.bptr i 0,some ids=>some (i::ids)
   |_,_=>none
theorem q3x {o:Oper}{s:Sem Value}{a:Act}{w w':World}{v:Value}{K:Act->World->Prop}{Q:Exit->Act->World->Prop}
  (h:execOp a.eval o=(do pure (Next.value (<-s)))) (hr:s.run P w=.ok v w') (hk:K (a.put o.dst v) w'):o.wp P a w K Q:=by
 unfold Oper.wp
 rw[h]
 simp only[Sem.run_bind,hr,Result.andThen_ok,Sem.run_pure]
 exact hk
theorem qx6 {o:Oper}{σ:St N}{run:Act->Sem Value}{s:Slot N}{ad:List (Nat×Blk N)}(he:∀a:Act,execOp a.eval o=(do pure (Next.value (<-run a))))(h:q2n P σ run s ad):
  qjl P o σ (({σ with own:=q0d ad σ.own}:St N).put o.dst s):=by
 rintro io w0 a w K Q ⟨E,hr⟩ hk
 obtain⟨v,w',E',h1,h2,h3⟩:=h io w0 E a w hr
 exact q3x (he a) h1 (hk _ _ ⟨E',h2.put o.dst h3⟩)
theorem qsz {o:Oper}{σ σ':St N}{run:Act->Sem Value}{s:Slot N}(he:∀a:Act,execOp a.eval o=(do pure (Next.value (<-run a))))(h:qs7 P σ run s σ'):
  qjl P o σ (σ'.put o.dst s):=by
 rintro io w0 a w K Q ⟨E,hr⟩ hk
 obtain⟨v,w',E',h1,h2,h3⟩:=h io w0 E a w hr
 exact q3x (he a) h1 (hk _ _ ⟨E',h2.put o.dst h3⟩)
theorem q3v {o:Oper}{σ:St N}{run:Act->Sem Value}{k:St N->Option β}{r:β}(he:∀a:Act,execOp a.eval o=(do pure (Next.value (<-run a))))
  (h:∃s ad,qdt σ o.dst k s ad=some r/\q2n P σ run s ad):∃σ',k σ'=some r/\qjl P o σ σ':=by
 obtain⟨s,ad,h1,h2⟩:=h
 exact⟨_,h1,qx6 he h2⟩
theorem z105 {o:Oper}{σ:St N}{run:Act->Sem Value}{k:St N->Option β}{r:β}(he:∀a:Act,execOp a.eval o=(do pure (Next.value (<-run a))))
  (h:∃s σ',fin2 o.dst k s σ'=some r/\qs7 P σ run s σ'):∃σ',k σ'=some r/\qjl P o σ σ':=by
 obtain⟨s,ad,h1,h2⟩:=h
 exact⟨_,h1,qsz he h2⟩
theorem qec {io:Io}{w0 w:World}{σ:St N}{E:Env}{a:Act}(h:RelE io w0 σ E a w):∀{l:List Operand} {ids:List Nat},qgi.boxIds σ l=some ids->
  l.map a.eval=ids.map E.val/\∀id∈ids,q53 σ.own id/\∃g,E id=.pointer (some ⟨g,0,none⟩)
 |[],ids,hl=>by
  cases hl
  exact⟨rfl,fun _ h=>by cases h⟩
 | x::l,ids,hl=>by
  simp only[qgi.boxIds]at hl
  split at hl
  ·rename_i i ids' hx hl'
   cases hl
   obtain⟨h1,h2⟩:=qec h hl'
   have hv:=h.ev x
   rw[hx]at hv
   obtain⟨k1,g,k2,k3⟩:=hv
   refine⟨by simp only[List.map_cons,h1,k3,k2],fun id hid=>?_⟩
   rcases List.mem_cons.1 hid with rfl|hid
   ·exact⟨k1,g,k2⟩
   ·exact h2 id hid
  ·cases hl
theorem qx9 {S:Spec N}{f:FuncId}(hg:Good P f S){o:Oper}{c:Call}(ho:o.op=.call c){f':Operand}(hc:c.callee=.value f'){a:Act}{w:World}{caps:List Value}(hf:a.eval f'=.func (.func f) #[] caps.toArray)
  {K:Act->World->Prop} {Q:Exit->Act->World->Prop} (h:Calls P f (c.args.map a.eval++caps.toArray) w fun e w'=>∃v,e=.returned v/\K (a.put o.dst v) w'):o.wp P a w K Q:=by
 have he:(execOp a.eval o).run P w=.ok (.enter f (c.args.map a.eval++caps.toArray)) w:=by
  unfold execOp
  simp only[ho,resolve,hc,hf,Deferred.ofValue,Array.empty_append,Sem.run_bind,Sem.run_pure,Result.andThen_ok,invoke]
  exact hg.enter w _
 unfold Oper.wp
 rw[he]
 simp only[Oper.upon]
 refine h.mono ?_
 rintro e w' ⟨v,rfl,hv⟩
 exact hv
theorem q6m (F:Fits P N τ){Φ:FuncId->Option (Spec N)}(hΦ:∀f S,Φ f=some S->Good P (f%1000000) S){o:Oper}{σ:St N}{k:St N->Option β}{r:β}(h:qgi τ Φ o σ k=some r):
  ∃σ',k σ'=some r/\qjl P o σ σ':=by
 obtain⟨dst,op,ty,pos,after,guard⟩:=o
 unfold qgi at h
 cases op with
 |move x=>exact q3v (run:=fun a=>pure (a.eval x)) (fun _=>rfl) (qai (P:=P) h)
 |assign x=>exact q3v (run:=fun a=>pure (a.eval x)) (fun _=>rfl) (qai (P:=P) h)
 | pick c x y=>
  simp only at h
  split at h
  ·rename_i b hb
   have key:∀z,(b=true->z=x)->(b=false->z=y)->q61 τ σ.own ty dst (ev σ z) (qdt σ dst k)=some r->∃σ',k σ'=some r/\qjl P ⟨dst,.pick c x y,ty,pos,after,guard⟩ σ σ':=by
    intro z h1 h2 h
    obtain⟨s,ad,k1,k2⟩:=q88 (P:=P) h
    refine⟨_,k1,?_⟩
    rintro io w0 a w K Q ⟨E,hr⟩ hk
    obtain⟨v,w',E',h3,h4,h5⟩:=k2 io w0 E a w hr
    have hcv:=hr.ev c
    rw[hb]at hcv
    have hcv:a.eval c=.bool b:=hcv
    refine q3x (s:=pure (if b then a.eval x else a.eval y)) ?_ ?_ (hk _ _ ⟨E',h4.put dst h5⟩)
    ·simp only[execOp,hcv,asBool]
     rfl
    ·cases b with
     |true=>rw[if_pos rfl,<-h1 rfl];exact h3
     |false=>rw[if_neg (by simp),<-h2 rfl];exact h3
   cases b with
   |true=>exact key x (fun _=>rfl) (fun e=>by cases e) h
   |false=>exact key y (fun e=>by cases e) (fun _=>rfl) h
  ·cases h
 |alloc t=>exact q3v (fun _=>rfl) (qhx F h)
 |box t x=>exact q3v (fun _=>rfl) (qmi F h)
 |build t ps=>exact q3v (fun _=>rfl) (qhy F h)
 |buildSlice t n ps=>exact q3v (fun _=>rfl) (qah F h)
 |load t x=>exact q3v (fun _=>rfl) (qkc F h)
 |store t x y=>
  obtain⟨σ',h1,h2⟩:=qi8 F h
  refine⟨_,h1,?_⟩
  rintro io w0 a w K Q ⟨E,hr⟩ hk
  obtain⟨w',E',h3,h4⟩:=h2 io w0 E a w hr
  unfold Oper.wp
  simp only[execOp,Sem.run_bind,h3,Result.andThen_ok,Sem.run_pure]
  exact hk _ _ ⟨E',h4.put dst (s:=.tup []) ⟨[],rfl,rfl,fun i r u hi _=>by simp at hi⟩⟩
 | nilCheck x=>
  simp only at h
  have hp:∀(a:Act) ad,a.eval x=.pointer (some ad)->execOp a.eval ⟨dst,.nilCheck x,ty,pos,after,guard⟩=(do pure (Next.value (<-(pure (a.eval x):Sem Value)))):=by
   intro a ad hx
   simp only[execOp,hx]
   rfl
  have go:∀z,ev σ x=z->(∀w own E v,q0a (N:=N) w own E z v->∃ad,v=.pointer (some ad))->k (σ.put dst (.one z))=some r->∃σ',k σ'=some r/\qjl P ⟨dst,.nilCheck x,ty,pos,after,guard⟩ σ σ':=by
   intro z hz hv hk
   refine⟨_,hk,?_⟩
   rintro io w0 a w K Q ⟨E,hr⟩ hK
   have hxr:=hr.ev x
   rw[hz]at hxr
   obtain⟨ad,had⟩:=hv _ _ _ _ hxr
   exact q3x (hp a ad had) rfl (hK _ _ ⟨E,hr.put dst hxr⟩)
  split at h
  ·rename_i i j hx
   exact go _ hx (fun w own E v hv=>by obtain⟨_,g,_,e⟩:=hv;exact⟨_,e⟩) h
  ·rename_i t y bs hx
   exact go _ hx (fun w own E v hv=>by obtain⟨ad,cs,e,_⟩:=hv;exact⟨_,e⟩) h
  ·rename_i i j l hx
   exact go _ hx (fun w own E v hv=>by obtain⟨g,cap,n,t,_,_,_,e⟩:=hv;exact⟨_,e⟩) h
  ·rename_i f caps hx
   refine⟨_,h,?_⟩
   rintro io w0 a w K Q ⟨E,hr⟩ hK
   have hxr:=hr.ev x
   rw[hx]at hxr
   have hv:=hxr.1
   refine q3x (s:=pure (a.eval x)) ?_ rfl (hK _ _ ⟨E,hr.put dst hxr⟩)
   simp only[execOp,hv]
   rfl
  ·cases h
 | binOp op t x y yt=>
  simp only at h
  split at h
  ·rename_i hy
   have hy':y=.const (.slice none 0 0):=by
    unfold qkq at hy
    split at hy
    ·rfl
    ·cases hy
   subst hy'
   obtain⟨z,h1,h2⟩:=qms F h
   refine⟨_,h1,?_⟩
   rintro io w0 a w K Q ⟨E,hr⟩ hK
   obtain⟨v,h3⟩:=h2 io w0 E a w hr
   exact q3x (s:=do eqGuard op t x (.const (.slice none 0 0)) (a.eval x) (a.eval (.const (.slice none 0 0)));binOp op t (a.eval x) (a.eval (.const (.slice none 0 0)))) rfl (h3 _ _).1 (hK _ _ ⟨E,hr.put dst (s:=.one z) (h3 x x).2⟩)
  split at h
  ·rename_i hy
   obtain rfl:=qff hy
   obtain⟨z,h1,h2⟩:=qke F h
   refine⟨_,h1,?_⟩
   rintro io w0 a w K Q ⟨E,hr⟩ hK
   obtain⟨v,h3⟩:=h2 io w0 E a w hr
   exact q3x (s:=do eqGuard op t x (.const .nilFunc) (a.eval x) (a.eval (.const .nilFunc));binOp op t (a.eval x) (a.eval (.const .nilFunc))) rfl (h3 _ _).1 (hK _ _ ⟨E,hr.put dst (s:=.one z) (h3 x x).2⟩)
  obtain⟨z,h1,h2⟩:=qmh F h
  refine⟨_,h1,?_⟩
  rintro io w0 a w K Q ⟨E,hr⟩ hK
  obtain⟨v,h3,h4⟩:=h2 w _ E _ _ x y (hr.ev x) (hr.ev y)
  exact q3x (s:=do eqGuard op t x y (a.eval x) (a.eval y);binOp op t (a.eval x) (a.eval y)) rfl h3 (hK _ _ ⟨E,hr.put dst (s:=.one z) h4⟩)
 |unOp op t x=>
  simp only at h
  obtain⟨z,h1,h2⟩:=qqz h
  refine⟨_,h1,?_⟩
  rintro io w0 a w K Q ⟨E,hr⟩ hK
  obtain⟨v,h3,h4⟩:=h2 P w _ E _ (hr.ev x)
  exact q3x (s:=Op.unary op (a.eval x)) rfl h3 (hK _ _ ⟨E,hr.put dst (s:=.one z) (h4 _ _ _)⟩)
 |convert t t' x=>exact q3v (fun _=>rfl) (qk9 F h)
 | makeFunc fn fs cs=>
  cases fn with
  | func f=>
   simp only at h
   split at h
   ·rename_i hfs
    split at h
    ·rename_i ids hids
     refine⟨_,h,?_⟩
     rintro io w0 a w K Q ⟨E,hr⟩ hK
     obtain⟨b1,b2⟩:=qec hr hids
     have hfs':fs=#[]:=by
      obtain⟨l⟩:=fs
      simp only at hfs
      rw[hfs]
     refine q3x (s:=Instr.makeFunc (.func f) (fs.map a.eval) (cs.map a.eval)) rfl rfl (hK _ _ ⟨E,hr.put dst (s:=.one (.fn f ids)) ⟨?_,b2⟩⟩)
     rw[hfs',<-b1]
     have hcs:cs.map a.eval=(cs.toList.map a.eval).toArray:=by rw[<-Array.toList_map]
     rw[hcs]
     simp
    ·cases h
   ·cases h
  |_=>cases h
 |makeMap t res=>exact q3v (run:=fun a=>Instr.makeMap t (res.map a.eval)) (fun _=>rfl) (qeq F h)
 |lookup t x i ok=>exact q3v (fun _=>rfl) (qgh F h)
 |mapUpdate t m x y=>
  obtain⟨σ',h1,h2⟩:=q6l F h
  refine⟨_,h1,?_⟩
  rintro io w0 a w K Q ⟨E,hr⟩ hk
  obtain⟨w',E',h3,h4⟩:=h2 io w0 E a w hr
  unfold Oper.wp
  simp only[execOp,Sem.run_bind,h3,Result.andThen_ok,Sem.run_pure]
  exact hk _ _ ⟨E',h4.put dst (s:=.tup []) ⟨[],rfl,rfl,fun i r u hi _=>by simp at hi⟩⟩
 |insert t m x y=>
  obtain⟨σ',h1,h2⟩:=q6l F h
  refine⟨_,h1,?_⟩
  rintro io w0 a w K Q ⟨E,hr⟩ hk
  obtain⟨w',E',h3,h4⟩:=h2 io w0 E a w hr
  unfold Oper.wp
  simp only[execOp,Sem.run_bind,h3,Result.andThen_ok,Sem.run_pure]
  exact hk _ _ ⟨E',h4.put dst (s:=.tup []) ⟨[],rfl,rfl,fun i r u hi _=>by simp at hi⟩⟩
 |makeSlice t l c=>exact q3v (fun _=>rfl) (qkd F h)
 |slice t x lo hi mx=>
  cases mx with
  |none=>exact q3v (fun _=>rfl) (qi7 F h)
  |some m=>cases h
 |fieldAddr t x f=>exact q3v (fun _=>rfl) (qbx F h)
 |field t x f=>exact q3v (fun _=>rfl) (qi1 F h)
 |indexAddr t x i=>exact q3v (fun _=>rfl) (qby F h)
 |index t x i=>exact q3v (fun _=>rfl) (qi2 F h)
 | extract x i=>
  simp only at h
  split at h
  ·rename_i t
   split at h
   ·rename_i l hl
    split at h
    ·rename_i z hz
     refine⟨_,h,?_⟩
     rintro io w0 a w K Q ⟨E,hr⟩ hK
     have hlt:t<σ.regs.length:=by
      rcases Nat.lt_or_ge t σ.regs.length with h'|h'
      ·exact h'
      ·unfold St.reg at hl
       rw[gQ,List.getElem?_eq_none h']at hl
       cases hl
     have hs:σ.regs[t]?=some (.tup l):=by
      unfold St.reg at hl
      rw[gQ,gE hlt]at hl
      rw[gE hlt]
      exact congrArg some hl
     obtain⟨vs,v1,v2,v3⟩:=hr.regs t _ hs
     have hlen:=(List.getElem?_eq_some_iff.1 hz).1
     obtain⟨u,hu⟩:∃u,vs[i]?=some u:=⟨_,gE (by omega)⟩
     have hev:a.eval (.tmp t)=.tuple vs.toArray:=by
      rw[<-v1]
      simp only[Act.eval]
     refine q3x (s:=Instr.extract (a.eval (.tmp t)) i) (v:=u) rfl ?_ (hK _ _ ⟨E,hr.put dst (s:=.one z) (v3 i z u hz hu)⟩)
     rw[hev]
     simp only[Instr.extract,List.getElem?_toArray,hu]
     rfl
    ·cases h
   ·cases h
  ·cases h
 | call c=>
  simp only at h
  split at h
  ·rename_i f hf
   unfold qhz at h
   split at h
   ·rename_i f' caps hfn
    split at h
    ·rename_i S hS
     obtain⟨hlen,h⟩:=q02 h
     have hlen:=Nat.eq_of_beq_eq_true hlen
     have hgood:=qre hΦ hS
     obtain⟨s,σ',h1,_,h2⟩:=qk8 hgood h
     refine⟨_,h1,?_⟩
     rintro io w0 a w K Q ⟨E,hr⟩ hK
     have hfv:=hr.ev f
     rw[hfn]at hfv
     refine qx9 hgood rfl hf hfv.1 ?_
     generalize hgs:q62 σ.own S.ps S.gh ((c.args.toList.map Arg.op++caps.map Arg.cap).map (qwi σ))=gs at*
     have hgl:gs.length=S.gh:=by rw[<-hgs];exact q8g _ _ _ _
     have hargs:∀x∈(c.args.toList.map Arg.op++caps.map Arg.cap)++gs.map Arg.cap,q0a w σ.own E (qwi σ x) (argV a E x):=by
      intro x hx
      cases x with
      |op y=>exact hr.ev y
      | cap y=>
       simp only[qwi]
       split
       ·rename_i t x bs hl
        obtain⟨g,T,arr,c1,_⟩:=hr.own y _ hl
        exact⟨.inl ⟨_,_,_,hl⟩,g,c1,c1⟩
       ·rename_i l hl
        obtain⟨g,T,arr,c1,_⟩:=hr.own y _ hl
        exact⟨.inr (.inl ⟨_,hl⟩),g,c1,c1⟩
       ·trivial
     have:=h2 io w0 E a w (argV a E) hr hargs
     have hl:((List.map (argV a E) ((c.args.toList.map Arg.op++caps.map Arg.cap)++gs.map Arg.cap)).take (S.ps.length-S.gh)).toArray=c.args.map a.eval++(caps.map E.val).toArray:=by
      rw[List.map_append,List.take_append_of_le_length (by rw[List.length_map];omega),tL (by rw[List.length_map];omega)]
      generalize c.args=ar
      obtain⟨l⟩:=ar
      simp[Function.comp_def,argV]
     rw[hl]at this
     refine this.mono ?_
     rintro e w' ⟨v,E',rfl,k1,k2⟩
     exact⟨v,rfl,hK _ _ ⟨E',k1.put dst k2⟩⟩
    ·cases h
   ·cases h
  ·rename_i hb
   split at h
   ·rename_i x t hx ht
    have hx':c.args=#[x]:=Array.ext' hx
    have ht':c.argTypes=#[t]:=Array.ext' ht
    refine q3v (run:=fun a=>Builtin.len_ #[t] ty #[a.eval x]) (fun a=>?_) (qmp F h)
    simp only[execOp,resolve,hb,hx',ht',List.map_toArray,List.map]
    rfl
   ·cases h
  ·rename_i hb
   split at h
   ·rename_i x y t t' hx ht
    have hx':c.args=#[x,y]:=Array.ext' hx
    have ht':c.argTypes=#[t,t']:=Array.ext' ht
    refine z105 (run:=fun a=>Builtin.append_ #[t,t'] ty #[a.eval x,a.eval y]) (fun a=>?_) (qgf F h)
    simp only[execOp,resolve,hb,hx',ht',List.map_toArray,List.map]
    rfl
   ·cases h
  ·rename_i hb
   split at h
   ·rename_i x y t t' hx ht
    have hx':c.args=#[x,y]:=Array.ext' hx
    have ht':c.argTypes=#[t,t']:=Array.ext' ht
    refine z105 (run:=fun a=>Builtin.copy_ #[t,t'] ty #[a.eval x,a.eval y]) (fun a=>?_) (qi0 F h)
    simp only[execOp,resolve,hb,hx',ht',List.map_toArray,List.map]
    rfl
   ·cases h
  ·rename_i hb
   split at h
   ·rename_i x y hx
    have hx':c.args=#[x,y]:=Array.ext' hx
    refine q3v (run:=fun a=>Builtin.min_ c.argTypes ty #[a.eval x,a.eval y]) (fun a=>?_) (qmr h)
    simp only[execOp,resolve,hb,hx',List.map_toArray,List.map]
    rfl
   ·cases h
  ·rename_i hb
   split at h
   ·rename_i x y hx
    have hx':c.args=#[x,y]:=Array.ext' hx
    refine q3v (run:=fun a=>Builtin.max_ c.argTypes ty #[a.eval x,a.eval y]) (fun a=>?_) (qmq h)
    simp only[execOp,resolve,hb,hx',List.map_toArray,List.map]
    rfl
   ·cases h
  ·cases h
 |_=>cases h
/-! Rows of operations. -/
def q52 (ops:List Oper)(g:Nat):Option Nat:=match ops[g]? with
 |some o=>o.dst
 |none=>none
def q3p (τ:TypeId->Option TI)(Φ:FuncId->Option (Spec N))(ops:List Oper):List Oper->St N->(St N->Option β)->Option β
 |[],σ,k=>k σ
 | o ::rest,σ,k=>match o.guard with
  |none=>qgi τ Φ o σ fun σ'=>q3p τ Φ ops rest σ' k
  | some (g,want)=>match q52 ops g with
   |none=>q3p τ Φ ops rest (σ.put o.dst (.tup [])) k
   | some d=>match σ.reg d with
    | .one (.bool b)=>
     bif b then
      (bif want then qgi τ Φ o (σ.putS d (.one (.bool true))) fun σ'=>q3p τ Φ ops rest σ' k
      else q3p τ Φ ops rest ((σ.putS d (.one (.bool true))).put o.dst (.tup [])) k)
     else
      (bif want then q3p τ Φ ops rest ((σ.putS d (.one (.bool false))).put o.dst (.tup [])) k
      else qgi τ Φ o (σ.putS d (.one (.bool false))) fun σ'=>q3p τ Φ ops rest σ' k)
    |.tup []=>q3p τ Φ ops rest (σ.put o.dst (.tup [])) k
    |_=>none
theorem Rel.skip {io:Io}{w0 w:World}{σ:St N}{a:Act}(h:Rel io w0 σ a w)(d:Option Nat):Rel io w0 (σ.put d (.tup [])) (a.put d undef) w:=by
 obtain⟨E,h⟩:=h
 exact⟨E,h.put d ⟨[],rfl,rfl,fun i r u hi _=>by simp at hi⟩⟩
theorem Rel.reput {io:Io}{w0 w:World}{σ:St N}{a:Act}{d:Nat}{s:Slot N}(h:Rel io w0 σ a w)(hs:∀E,RelE io w0 σ E a w->q43 w σ.own E s (a.tmps.getD d undef)):Rel io w0 (σ.putS d s) a w:=by
 obtain⟨E,h⟩:=h
 have:=h.put (some d) (hs E h)
 have he:a.put (some d) (a.tmps.getD d undef)=a:=by
  obtain⟨t,df⟩:=a
  simp only[Act.put,Act.mk.injEq,and_true]
  apply Array.ext_getElem?
  intro i
  rw[Array.getElem?_setIfInBounds]
  by_cases hi:d=i
  ·subst hi
   rw[if_pos rfl]
   by_cases hlt:d<t.size
   ·simp[hlt]
   ·simp[hlt]
  ·rw[if_neg hi]
 rw[he]at this
 exact⟨E,this⟩
theorem q91 {io:Io}{w0 w:World}{σ:St N}{E:Env}{a:Act}(h:RelE io w0 σ E a w){d:Nat}{s:Slot N}(hs:σ.reg d=s)(hne:s≠.one .undef):q43 w σ.own E s (a.tmps.getD d undef)/\d<a.tmps.size:=by
 unfold St.reg at hs
 rw[gQ]at hs
 rcases Nat.lt_or_ge d σ.regs.length with h'|h'
 ·rw[gE h']at hs
  exact⟨h.regs d s (by rw[gE h'];exact congrArg some hs),by rw[h.size];exact h'⟩
 ·rw[List.getElem?_eq_none h']at hs
  exact absurd hs.symm hne
theorem q4u {ops:List Oper}{g:Nat}:q52 ops g=((ops.toArray)[g]?).bind (·.dst):=by
 unfold q52
 rw[List.getElem?_toArray]
 cases ops[g]?<;>rfl
theorem q50 (F:Fits P N τ){Φ:FuncId->Option (Spec N)}(hΦ:∀f S,Φ f=some S->Good P (f%1000000) S){ops:List Oper}{k:St N->Option β}{r:β}{io:Io}{w0:World}{Q:Exit->Act->World->Prop}
  (hk:∀σ a w,k σ=some r->Rel io w0 σ a w->Q .normal a w):∀(l:List Oper) (σ:St N),q3p τ Φ ops l σ k=some r->∀a w,Rel io w0 σ a w->wpList P ops.toArray Q l a w
 |[],σ,h,a,w,hr=>hk σ a w h hr
 | o ::rest,σ,h,a,w,hr=>by
  have ih:=q50 F hΦ (ops:=ops) hk rest
  have hstep:∀σ0,Rel io w0 σ0 a w->(qgi τ Φ o σ0 fun σ'=>q3p τ Φ ops rest σ' k)=some r->o.wp P a w (wpList P ops.toArray Q rest) Q:=by
   intro σ0 hr0 h0
   obtain⟨σ',h1,h2⟩:=q6m F hΦ h0
   exact h2 io w0 a w _ Q hr0 (fun a' w' hr'=>ih σ' h1 a' w' hr')
  simp only[q3p]at h
  simp only[wpList]
  split at h
  ·rename_i hg
   rw[if_pos (by simp[Region.wanted,hg])]
   exact .inl (hstep σ hr h)
  ·rename_i g want hg
   have hW:Region.wanted o (yielded ops.toArray a.tmps)=(yielded ops.toArray a.tmps g==some want):=by simp[Region.wanted,hg]
   have hskip:∀σ0,Rel io w0 σ0 a w->Region.wanted o (yielded ops.toArray a.tmps)=false->q3p τ Φ ops rest (σ0.put o.dst (.tup [])) k=some r->
     (if Region.wanted o (yielded ops.toArray a.tmps)=true then o.wp P a w (wpList P ops.toArray Q rest) Q\/(o.asks P a w/\LetsOut Q)else wpList P ops.toArray Q rest (a.put o.dst undef) w):=by
    intro σ0 hr0 hw0 h0
    rw[hw0,if_neg (by simp)]
    exact ih _ h0 _ _ (hr0.skip o.dst)
   have hy:yielded ops.toArray a.tmps g=match(q52 ops g).bind (a.tmps[·]?)with
     |some (.bool b)=>some b
     |_=>none:=by
    unfold yielded
    rw[q4u]
    rfl
   split at h
   ·rename_i hgr
    refine hskip σ hr ?_ h
    rw[hW,hy,hgr]
    rfl
   ·rename_i d hgr
    split at h
    ·rename_i b hb
     obtain⟨E,hrE⟩:=hr
     obtain⟨hv,hlt⟩:=q91 hrE hb (by simp)
     have hv:a.tmps.getD d undef=.bool b:=hv
     have hyb:yielded ops.toArray a.tmps g=some b:=by
      rw[hy,hgr]
      simp only[oB]
      rw[Array.getD_eq_getD_getElem?,Array.getElem?_eq_getElem hlt]at hv
      rw[Array.getElem?_eq_getElem hlt]
      simp only[Option.getD_some]at hv
      rw[hv]
     have hre:Rel io w0 (σ.putS d (.one (.bool b))) a w:=Rel.reput ⟨E,hrE⟩ (fun E' hE'=>hv)
     rw[hyb]at hW
     cases b with
     | true=>
      simp only[cT]at h
      cases want with
      |true=>
       rw[hW]
       exact .inl (hstep _ hre h)
      |false=>exact hskip _ hre (by rw[hW];rfl) h
     | false=>
      simp only[cF]at h
      cases want with
      |true=>exact hskip _ hre (by rw[hW];rfl) h
      |false=>
       rw[hW]
       exact .inl (hstep _ hre h)
    ·rename_i hb
     obtain⟨E,hrE⟩:=hr
     obtain⟨⟨vs,hv,hl,_⟩,hlt⟩:=q91 hrE hb (by simp)
     refine hskip σ ⟨E,hrE⟩ ?_ h
     rw[hW,hy,hgr]
     simp only[oB]
     rw[Array.getD_eq_getD_getElem?,Array.getElem?_eq_getElem hlt]at hv
     rw[Array.getElem?_eq_getElem hlt]
     simp only[Option.getD_some]at hv
     rw[hv]
     rfl
    ·cases h
end Go.Eng

set_option linter.unusedVariables false
set_option linter.unusedSimpArgs false
namespace Go.Eng
variable {N:Names} {P:Program} {τ:TypeId->Option TI} {β:Type}

def Sub (own own':List (Nat×Blk N)):Prop:=∀id b,look own id=some b->look own' id=some b

theorem qhe {own own':List (Nat×Blk N)}(hs:Sub own own'){t:Ty}{r:RV N}{y:t.den N.ρ×List Nat}(h:toDen0 own t r=some y):toDen0 own' t r=some y:=by
  cases r with
  | own id=>
    simp only[toDen0]at h ⊢
    split at h
    · rename_i e ty xs bs p hl
      rw[hs _ _ hl]
      exact h
    · cases h
  |_=>exact h

theorem qko {g g':(t:Ty)->List (RV N)->Option (t.den N.ρ×List Nat)}(hg:∀t l y,g t l=some y->g' t l=some y):∀(ts:List Ty) (l:List (RV N)) (y:HL N.ρ ts×List Nat),qn3 g ts l=some y->qn3 g' ts l=some y
  |[],[],y,h=>h
  |[],_::_,y,h=>by cases h
  | t ::ts,l,y,h=>by
    simp only[qn3]at h ⊢
    split at h
    · rename_i p q hp hq
      rw[hg _ _ _ hp,qko hg ts _ _ hq]
      exact h
    · cases h

theorem qrc {own own':List (Nat×Blk N)}(hs:Sub own own'){t:Ty}{l:List (RV N)}{y:t.den N.ρ×List Nat}(h:qh1 own t l=some y):qh1 own' t l=some y:=by
  unfold qh1 at h ⊢
  split at h
  · exact qhe hs h
  · cases h

theorem qdu {own own':List (Nat×Blk N)}(hs:Sub own own'):∀(f:Nat) (t:Ty) (l:List (RV N)) (y:t.den N.ρ×List Nat),impl own f t l=some y->impl own' f t l=some y
  |0,t,l,y,h=>by cases h
  | f +1,t,l,y,h=>by
    cases t with
    | nm n=>
      simp only[impl,Option.map_eq_some_iff]at h ⊢
      obtain⟨p,hp,hq⟩:=h
      exact⟨p,qko (fun t l y=>qdu hs f t l y) _ _ _ hp,hq⟩
    |_=>exact qrc hs h

theorem q2z {own own':List (Nat×Blk N)}(hs:Sub own own'){t:Ty}{r:RV N}{y:t.den N.ρ×List Nat}(h:toDen own t r=some y):toDen own' t r=some y:=by
  cases r with
  | mp id=>
    simp only[toDen]at h ⊢
    split at h
    · rename_i n l hl
      rw[hs _ _ hl]
      split at h
      · rename_i p hp
        simp only[qdu hs 8 _ _ _ hp]
        exact h
      · cases h
    · cases h
  | _=>
    rw[qlu rfl]at h ⊢
    exact qhe hs h

theorem qbz {own:List (Nat×Blk N)}{ty:TypeId}{dst:Option Nat}{x:RV N}{k:KK N β}{r:β}(h:q61 τ own ty dst x k=some r):
    ∃s ad,k s ad=some r/\(∀p∈ad,look own p.1=none)/\∀own':List (Nat×Blk N),(∀p∈ad,look own' p.1=none)->∀{β':Type} (k':KK N β'),q61 τ own' ty dst x k'=k' s ad:=by
  cases x with
  | nil =>
    simp only[q61]at h ⊢
    split at h
    · rename_i e el hτ
      split at h
      · rename_i d
        split at h
        · rename_i hl
          refine⟨_,_,h,fun p hp=>by rw[List.mem_singleton.1 hp];exact hl,fun own' hf β' k'=>?_⟩
          have:=hf _ mS
          simp only at this
          simp only[this]
        · cases h
      · cases h
    · rename_i hn
      refine⟨_,_,h,(fun p hp=>by cases hp),fun own' hf β' k'=>?_⟩
      first|rfl|(split<;>first|(rename_i e el he;exact(hn _ _ he).elim)|rfl)
  |_=>exact⟨_,_,h,(fun p hp=>by cases hp),fun own' hf β' k'=>rfl⟩

theorem q78 {own:List (Nat×Blk N)}:∀{l:List Nat},(∀i∈l,look own i=none)->q26 own l=true
  |[],_=>rfl
  | i::r,h=>by
    simp only[q26,h i mS,Bool.true_and]
    exact q78 (fun j hj=>h j (mC _ hj))

theorem qa0 {own:List (Nat×Blk N)}{dst:Option Nat}{n:Nat}{l:List (RV N)}{k:KK N β}{r:β}(h:q7c own dst n l k=some r):
    ∃s ad,k s ad=some r/\(∀p∈ad,look own p.1=none)/\∀own':List (Nat×Blk N),(∀p∈ad,look own' p.1=none)->∀{β':Type} (k':KK N β'),q7c own' dst n l k'=k' s ad:=by
  unfold q7c at h
  split at h
  · rename_i d
    split at h
    · rename_i hl
      split at h
      rename_i m es hes
      obtain⟨hc,h⟩:=q02 h
      have hc':=hc
      simp only[Bool.and_eq_true]at hc
      refine⟨_,_,h,fun p hp=>?_,fun own' hf {β'} k'=>?_⟩
      · rcases List.mem_cons.1 hp with rfl|hp
        · exact hl
        · exact q19 hc.2 _ (List.mem_map.2 ⟨p,hp,rfl⟩)
      · have e1:=hf _ mS
        simp only at e1
        have e2:q26 own' (es.map (·.1))=true:=q78 (fun i hi=>by
          obtain⟨p,hp,rfl⟩:=List.mem_map.1 hi
          exact hf p (mC _ hp))
        simp only[q7c,e1,hes,hc.1.1,hc.1.2,e2,Bool.and_self,cT]
    · cases h
  · cases h

theorem qmm {own:List (Nat×Blk N)}{xt:TypeId}{dst:Option Nat}{x:RV N}{f:Nat}{k:KK N β}{r:β}(h:q6a τ own xt dst x f k=some r):
    ∃s ad,k s ad=some r/\(∀p∈ad,look own p.1=none)/\∀own':List (Nat×Blk N),Sub own own'->(∀p∈ad,look own' p.1=none)->∀{β':Type} (k':KK N β'),q6a τ own' xt dst x f k'=k' s ad:=by
  unfold q6a at h
  split at h
  · split at h
    · rename_i hτ
      obtain⟨he,h⟩:=q02 h
      split at h
      · rename_i hc
        split at h
        · rename_i hg
          exact⟨_,[],h,(fun p hp=>by cases hp),fun own' hs hf {β'} k'=>by simp only[q6a,hτ,he,cT,hc,hg]⟩
        · cases h
      · cases h
    · cases h
  · split at h
    · rename_i hl
      split at h
      · rename_i hτ
        obtain⟨he,h⟩:=q02 h
        split at h
        · rename_i n hty
          obtain⟨s,ad,h1,h2,h3⟩:=qa0 h
          exact⟨s,ad,h1,h2,fun own' hs hf {β'} k'=>by simp only[q6a,hs _ _ hl,hτ,he,cT,hty];exact h3 own' hf k'⟩
        · rename_i ty hnn hty
          split at h
          · rename_i hr
            refine⟨_,[],h,(fun p hp=>by cases hp),fun own' hs hf {β'} k'=>?_⟩
            simp only[q6a,hs _ _ hl,hτ,he,cT,hty]
            cases ty with
            |nm n=>exact(hnn n rfl).elim
            |_=>simp only[hr]
          · cases h
        · cases h
      · cases h
    · cases h
  · cases h

theorem qen {xt:TypeId}{x:RV N}{f:Nat}{k:KK N β}{r:β}(h:q1q τ xt x f k=some r):
    ∃s,k s []=some r/\∀{β':Type} (k':KK N β'),q1q τ xt x f k'=k' s []:=by
  unfold q1q at h
  split at h
  · rename_i hτ
    obtain⟨he,h⟩:=q02 h
    split at h
    · split at h
      · rename_i hc
        split at h
        · rename_i hg
          exact⟨_,h,fun{β'} k'=>by simp only[q1q,hτ,he,cT,hc,hg]⟩
        · cases h
      · cases h
    · obtain⟨hf,h⟩:=q02 h
      exact⟨_,h,fun{β'} k'=>by simp only[q1q,hτ,he,hf,cT]⟩
    · obtain⟨hf,h⟩:=q02 h
      exact⟨_,h,fun{β'} k'=>by simp only[q1q,hτ,he,hf,cT]⟩
    · cases h
  · cases h

theorem qkb {own:List (Nat×Blk N)}{n:Nat}{e:TypeId}{x i:RV N}{k:KK N β}{r:β}(h:q5z own n e x i k=some r):
    ∃s,k s []=some r/\∀own':List (Nat×Blk N),Sub own own'->∀{β':Type} (k':KK N β'),q5z own' n e x i k'=k' s []:=by
  unfold q5z at h
  split at h
  · rename_i ha
    cases hb:Nat.beq e 0 with
    |true=>rw[hb]at h;cases h
    |false=>
    rw[hb]at h
    simp only[cF]at h
    split at h
    · split at h
      · split at h
        · rename_i hl
          obtain⟨hc,h⟩:=q02 h
          split at h
          · rename_i h0
            split at h
            · rename_i h1
              exact⟨_,h,fun own' hs {β'} k'=>by simp only[q5z,ha,hb,cF,hs _ _ hl,hc,cT,if_pos h0,if_pos h1]⟩
            · cases h
          · cases h
        · cases h
      · split at h
        · rename_i hv
          split at h
          · rename_i hl
            split at h
            · rename_i h0
              split at h
              · rename_i h1
                exact⟨_,h,fun own' hs {β'} k'=>by simp only[q5z,ha,hb,cF,hv,hl,if_pos h0,if_pos h1]⟩
              · cases h
            · cases h
          · cases h
        · cases h
      · cases h
    · cases h
  · cases h

theorem qgj {own:List (Nat×Blk N)}{n:Nat}{e:TypeId}{x:RV N}{lo hi:Option Operand}{k:KK N β}{r:β}(h:q48 own n e x lo hi k=some r):
    ∃s,k s []=some r/\∀own':List (Nat×Blk N),Sub own own'->∀{β':Type} (k':KK N β'),q48 own' n e x lo hi k'=k' s []:=by
  unfold q48 at h
  split at h
  · rename_i ha
    cases hb:Nat.beq e 0 with
    |true=>rw[hb]at h;cases h
    |false=>
    rw[hb]at h
    simp only[cF]at h
    split at h
    · split at h
      · rename_i hl
        obtain⟨hc,h⟩:=q02 h
        exact⟨_,h,fun own' hs {β'} k'=>by simp only[q48,ha,hb,cF,hs _ _ hl,hc,cT]⟩
      · cases h
    · cases h
  · cases h

theorem qeo {own:List (Nat×Blk N)}{t:TypeId}{x i:RV N}{k:KK N β}{r:β}(h:q1r τ own t x i k=some r):
    ∃s,k s []=some r/\∀own':List (Nat×Blk N),Sub own own'->∀{β':Type} (k':KK N β'),q1r τ own' t x i k'=k' s []:=by
  unfold q1r at h
  split at h
  · rename_i hτ
    split at h
    · split at h
      · split at h
        · rename_i hc
          split at h
          · rename_i h0
            split at h
            · rename_i h1
              exact⟨_,h,fun own' hs {β'} k'=>by simp only[q1r,hτ,hc,if_pos h0,if_pos h1]⟩
            · cases h
          · cases h
        · cases h
      · split at h
        · rename_i hl
          obtain⟨he,h⟩:=q02 h
          split at h
          · rename_i h0
            split at h
            · rename_i h1
              exact⟨_,h,fun own' hs {β'} k'=>by simp only[q1r,hτ,hs _ _ hl,he,cT,if_pos h0,if_pos h1]⟩
            · cases h
          · cases h
        · cases h
      · cases h
    · cases h
  · rename_i hτ
    obtain⟨s,h1,h2⟩:=qkb h
    exact⟨s,h1,fun own' hs {β'} k'=>by simp only[q1r,hτ];exact h2 own' hs k'⟩
  · cases h

theorem qmn {t:TypeId}{x i:RV N}{k:KK N β}{r:β}(h:q87 τ t x i k=some r):
    ∃s,k s []=some r/\∀{β':Type} (k':KK N β'),q87 τ t x i k'=k' s []:=by
  unfold q87 at h
  split at h
  · rename_i hτ
    split at h
    · split at h
      · split at h
        · rename_i h0
          split at h
          · rename_i h1
            exact⟨_,h,fun{β'} k'=>by simp only[q87,hτ,if_pos h0,if_pos h1]⟩
          · cases h
        · cases h
      · cases h
    · cases h
  · cases h

theorem qqw {own:List (Nat×Blk N)}{t:TypeId}{dst:Option Nat}{x:RV N}{k:KK N β}{r:β}(h:q60 τ own t dst x k=some r):
    ∃s ad,k s ad=some r/\(∀p∈ad,look own p.1=none)/\∀own':List (Nat×Blk N),Sub own own'->(∀p∈ad,look own' p.1=none)->∀{β':Type} (k':KK N β'),q60 τ own' t dst x k'=k' s ad:=by
  unfold q60 at h
  split at h
  · rename_i ty e hτ
    split at h
    · split at h
      · rename_i hv
        exact⟨_,[],h,(fun p hp=>by cases hp),fun own' hs hf {β'} k'=>by simp only[q60,hτ,hv]⟩
      · cases h
    · split at h
      · rename_i hl
        split at h
        · rename_i hv
          exact⟨_,[],h,(fun p hp=>by cases hp),fun own' hs hf {β'} k'=>by simp only[q60,hτ,hs _ _ hl,hv]⟩
        · rename_i hv
          obtain⟨n,y,_,_,_,h1,h2,_⟩:=q4f h
          exact⟨_,[],h1,(fun p hp=>by cases hp),fun own' hs hf {β'} k'=>by simp only[q60,hτ,hs _ _ hl,hv];exact h2 k'⟩
      · cases h
    · split at h
      · rename_i hl
        split at h
        · rename_i hv
          exact⟨_,[],h,(fun p hp=>by cases hp),fun own' hs hf {β'} k'=>by simp only[q60,hτ,hs _ _ hl,hv]⟩
        · cases h
      · rename_i hl
        cases ty with
        | nm n=>
          simp only at h
          cases hd:(N.rowsAt n).isEmpty with
          | true=>
            rw[hd,cT]at h
            split at h
            · rename_i hv
              exact⟨_,[],h,(fun p hp=>by cases hp),fun own' hs hf {β'} k'=>by simp only[q60,hτ,hs _ _ hl,hd,cT,qdu hs _ _ _ _ hv]⟩
            · cases h
          | false=>
            rw[hd,cF]at h
            obtain⟨s,ad,h1,h2,h3⟩:=qa0 h
            exact⟨s,ad,h1,h2,fun own' hs hf {β'} k'=>by simp only[q60,hτ,hs _ _ hl,hd,cF];exact h3 own' hf k'⟩
        | _ =>
          simp only at h
          split at h
          · rename_i hv
            exact⟨_,[],h,(fun p hp=>by cases hp),fun own' hs hf {β'} k'=>by simp only[q60,hτ,hs _ _ hl,hv]⟩
          · cases h
      · cases h
    · cases h
  · cases h

theorem qt6 {own:List (Nat×Blk N)}{t:TypeId}{x:RV N}{k:KK N β}{r:β}(h:qi4 τ own t x k=some r):
    ∃s,k s []=some r/\∀own':List (Nat×Blk N),Sub own own'->∀{β':Type} (k':KK N β'),qi4 τ own' t x k'=k' s []:=by
  unfold qi4 at h
  split at h
  · rename_i hτ
    split at h
    · exact⟨_,h,fun own' hs {β'} k'=>by simp only[qi4,hτ]⟩
    · cases h
  · rename_i hτ
    split at h
    · rename_i hd
      exact⟨_,h,fun own' hs {β'} k'=>by simp only[qi4,hτ,q2z hs hd]⟩
    · cases h
  · cases h

theorem qb9 {own own':List (Nat×Blk N)}(hs:Sub own own'){ρ ρ':Operand->RV N}{ts:List Ty}:∀(parts:List (Nat×Operand)) (x:HL N.ρ ts) (bs:List Nat) (r:HL N.ρ ts×List Nat),(∀p∈parts,ρ' p.2=ρ p.2)->q5s own ρ ts parts x bs=some r->q5s own' ρ' ts parts x bs=some r
  |[],x,bs,r,_,h=>h
  | (i, o)::parts,x,bs,r,hp,h=>by
    simp only[q5s]at h ⊢
    split at h
    · rename_i t ht
      split at h
      · rename_i y b hy
        split at h
        · rename_i x' hx'
          rw[hp (i,o) mS,q2z hs hy]
          simp only[ht,hx']
          exact qb9 hs parts x' _ r (fun p hp'=>hp p (mC _ hp')) h
        · cases h
      · cases h
    · cases h
theorem qj8 {own own':List (Nat×Blk N)}(hs:Sub own own'){t:Ty}{r:RV N}{y:List (RV N)}(h:q1d own t r=some y):q1d own' t r=some y:=by
  have gen:∀(b:Bool) (t:Ty),(bif b then some [r]else match toDen own t r with|some (y,b)=>some [q6d t y b]|none=>none)=some y->(bif b then some [r]else match toDen own' t r with|some (y,b)=>some [q6d t y b]|none=>none)=some y:=by
    intro b t h
    cases b with
    |true=>exact h
    | false=>
      simp only[cF]at h ⊢
      split at h
      · rename_i hd
        rw[q2z hs hd]
        exact h
      · cases h
  cases t with
  | nm n=>
    have old:(match toDen own (.nm n) r with|some (y,b)=>expl b 8 (.nm n) y|none=>none)=some y->(match toDen own' (.nm n) r with|some (y,b)=>expl b 8 (.nm n) y|none=>none)=some y:=by
      intro h
      split at h
      · rename_i hd
        rw[q2z hs hd]
        exact h
      · cases h
    cases r with
    | mp id=>
      simp only[q1d]at h ⊢
      split at h
      · rename_i hl
        rw[hs _ _ hl]
        exact h
      · cases h
    |_=>exact old h
  |opq=>exact h
  |int k=>exact gen _ _ h
  |bool=>exact gen _ _ h
  |str=>exact gen _ _ h
  |sl e=>exact gen _ _ h
theorem qd4 {own own':List (Nat×Blk N)}(hs:Sub own own'){ρ ρ':Operand->RV N}{ts:List Ty}:∀(parts:List (Nat×Operand)) (l m:List (RV N)),(∀p∈parts,ρ' p.2=ρ p.2)->q7d own ρ ts parts l=some m->q7d own' ρ' ts parts l=some m
  |[],l,m,_,h=>h
  | (i, o)::parts,l,m,hp,h=>by
    simp only[q7d]at h ⊢
    split at h
    · rename_i t ht
      split at h
      · rename_i vs hvs
        obtain⟨hle,h⟩:=q02 h
        simp only[hp (i,o) mS,qj8 hs hvs,hle,cT]
        exact qd4 hs parts _ m (fun p h=>hp p (mC _ h)) h
      · cases h
    · cases h
theorem qmj {σ:St N}{t:TypeId}{dst:Option Nat}{parts:List (Nat×Operand)}{k:KK N β}{r:β}(h:q73 τ σ t dst parts k=some r):
    ∃s ad,k s ad=some r/\(∀p∈ad,look σ.own p.1=none)/\∀σ':St N,Sub σ.own σ'.own->(∀p∈parts,ev σ' p.2=ev σ p.2)->(∀p∈ad,look σ'.own p.1=none)->∀{β':Type} (k':KK N β'),q73 τ σ' t dst parts k'=k' s ad:=by
  unfold q73 at h
  split at h
  · rename_i n el hτ
    cases hd:(N.rowsAt n).isEmpty with
    | true=>
      rw[hd,cT]at h
      split at h
      · rename_i x bs hx
        exact⟨_,[],h,(fun p hp=>by cases hp),fun σ' hs hp hf {β'} k'=>by simp only[q73,hτ,hd,cT,qb9 hs parts _ _ _ hp hx]⟩
      · cases h
    | false=>
      rw[hd,cF]at h
      split at h
      · rename_i l hl
        obtain⟨s,ad,h1,h2,h3⟩:=qa0 h
        exact⟨s,ad,h1,h2,fun σ' hs hp hf {β'} k'=>by simp only[q73,hτ,hd,cF,qd4 hs parts _ _ hp hl];exact h3 _ hf k'⟩
      · cases h
  · cases h
theorem qd5 {own own':List (Nat×Blk N)}(hs:Sub own own'){ρ ρ':Operand->RV N}{e:Ty}:∀(parts:List (Nat×Operand)) (xs:List (e.den N.ρ)) (bs:List Nat) (r:List (e.den N.ρ)×List Nat),(∀p∈parts,ρ' p.2=ρ p.2)->q7f own ρ e parts xs bs=some r->q7f own' ρ' e parts xs bs=some r
  |[],xs,bs,r,_,h=>h
  | (i,o)::parts,xs,bs,r,hp,h=>by
    simp only[q7f]at h ⊢
    split at h
    · rename_i y b hy
      rw[hp (i,o) mS,q2z hs hy]
      obtain⟨hlt,h⟩:=q02 h
      simp only[hlt,cT]
      exact qd5 hs parts _ _ r (fun p hp'=>hp p (mC _ hp')) h
    · cases h
theorem qdc {σ:St N}{t:TypeId}{len:Nat}{parts:List (Nat×Operand)}{dst:Option Nat}{k:KK N β}{r:β}(h:q24 τ σ t len parts dst k=some r):
    ∃s ad,k s ad=some r/\(∀p∈ad,look σ.own p.1=none)/\∀σ':St N,Sub σ.own σ'.own->(∀p∈parts,ev σ' p.2=ev σ p.2)->(∀p∈ad,look σ'.own p.1=none)->∀{β':Type} (k':KK N β'),q24 τ σ' t len parts dst k'=k' s ad:=by
  unfold q24 at h
  split at h
  · cases h
  · rename_i d
    split at h
    · cases h
    · rename_i hl
      split at h
      · rename_i e el hτ
        obtain⟨hbig,h⟩:=q02 h
        split at h
        · rename_i xs bs hx
          refine⟨_,_,h,(fun p hp=>by rw[List.mem_singleton]at hp;subst hp;exact hl),fun σ' hs hp hf {β'} k'=>?_⟩
          have hl':=hf _ (List.mem_singleton.2 rfl)
          simp only[q24,hl',hτ,hbig,cT,qd5 hs parts _ _ _ hp hx]
        · cases h
      · cases h

theorem qqx {σ : St N}{t:TypeId}{dst:Option Nat}{l c:Operand}{k:KK N β}{r:β}(h:q9f τ σ t dst l c k=some r):
    ∃s ad,k s ad=some r/\(∀p∈ad,look σ.own p.1=none)/\∀σ':St N,ev σ' l=ev σ l->ev σ' c=ev σ c->(∀p∈ad,look σ'.own p.1=none)->∀{β':Type} (k':KK N β'),q9f τ σ' t dst l c k'=k' s ad:=by
  unfold q9f at h
  split at h
  · cases h
  · rename_i d
    split at h
    · cases h
    · rename_i hl
      split at h
      · rename_i e el hτ
        split at h
        · rename_i kn n km m hn hm
          have hs:∀σ':St N,qci σ' l c=qci σ l c:=fun σ'=>by cases l<;>cases c<;>rfl
          cases hsl:qci σ l c with
          | true=>
            rw[hsl,cT]at h
            split at h
            · rename_i h0
              split at h
              · rename_i h1
                refine⟨_,_,h,(fun p hp=>by rw[List.mem_singleton]at hp;subst hp;exact hl),fun σ' e1 e2 hf {β'} k'=>?_⟩
                have e3:=hf _ mS
                simp only at e3
                simp only[q9f,e3,hτ,e1,e2,hn,hm,hs σ',hsl,cT,if_pos h0,if_pos h1]
              · cases h
            · cases h
          | false =>
            rw[hsl,cF]at h
            cases hz:qp2 l with
            | true=>
              rw[hz,cT]at h
              split at h
              · rename_i h0
                split at h
                · rename_i h1
                  refine⟨_,_,h,(fun p hp=>by rw[List.mem_singleton]at hp;subst hp;exact hl),fun σ' e1 e2 hf {β'} k'=>?_⟩
                  have e3:=hf _ mS
                  simp only at e3
                  simp only[q9f,e3,hτ,e1,e2,hn,hm,hs σ',hsl,hz,cT,cF,if_pos h0,if_pos h1]
                · cases h
              · cases h
            | false =>
              rw[hz,cF]at h
              split at h
              · rename_i q hq
                split at h
                · rename_i h0
                  split at h
                  · rename_i h1
                    refine⟨_,_,h,(fun p hp=>by rw[List.mem_singleton]at hp;subst hp;exact hl),fun σ' e1 e2 hf {β'} k'=>?_⟩
                    have e3:=hf _ mS
                    simp only at e3
                    simp only[q9f,e3,hτ,e1,e2,hn,hm,hs σ',hsl,hz,hq,cT,cF,if_pos h0,if_pos h1]
                  · cases h
                · cases h
              · cases h
        · cases h
      · cases h
theorem qmg {own:List (Nat×Blk N)}{t:TypeId}{dst:Option Nat}{k:KK N β}{r:β}(h:q46 τ own t dst k=some r):
    ∃s ad,k s ad=some r/\(∀p∈ad,look own p.1=none)/\∀own':List (Nat×Blk N),(∀p∈ad,look own' p.1=none)->∀{β':Type} (k':KK N β'),q46 τ own' t dst k'=k' s ad:=by
  unfold q46 at h
  split at h
  · cases h
  · rename_i d
    split at h
    · cases h
    · rename_i hl
      split at h
      · rename_i e el hτ
        split at h
        · cases h
        · rename_i hl2
          refine⟨_,_,h,fun p hp=>?_,fun own' hf {β'} k'=>?_⟩
          · rcases List.mem_cons.1 hp with rfl|hp
            · exact hl
            · rw[List.mem_singleton]at hp;subst hp;exact hl2
          · have e1:=hf _ mS
            have e2:=hf _ (mC _ mS)
            simp only at e1 e2
            simp only[q46,e1,e2,hτ]
      · rename_i e hτ
        refine⟨_,_,h,(fun p hp=>by rw[List.mem_singleton]at hp;subst hp;exact hl),fun own' hf {β'} k'=>?_⟩
        have e1:=hf _ mS
        simp only at e1
        simp only[q46,e1,hτ]
      · rename_i n e hτ
        split at h
        · rename_i T len harr
          refine⟨_,_,h,(fun p hp=>by rw[List.mem_singleton]at hp;subst hp;exact hl),fun own' hf {β'} k'=>?_⟩
          have e1:=hf _ mS
          simp only at e1
          simp only[q46,e1,hτ,harr]
        · rename_i harr
          cases hd:(N.rowsAt n).isEmpty with
          | true=>
            rw[hd,cT]at h
            refine⟨_,_,h,(fun p hp=>by rw[List.mem_singleton]at hp;subst hp;exact hl),fun own' hf {β'} k'=>?_⟩
            have e1:=hf _ mS
            simp only at e1
            simp only[q46,e1,hτ,harr,hd,cT]
          | false=>
            rw[hd,cF]at h
            split at h
            rename_i m es hes
            obtain⟨hc,h⟩:=q02 h
            refine⟨_,_,h,fun p hp=>?_,fun own' hf {β'} k'=>?_⟩
            · rcases List.mem_cons.1 hp with rfl|hp
              · exact hl
              · exact q19 hc _ (List.mem_map.2 ⟨p,hp,rfl⟩)
            · have e1:=hf _ mS
              simp only at e1
              have e2:q26 own' (es.map (·.1))=true:=q78 (fun i hi=>by
                obtain⟨p,hp,rfl⟩:=List.mem_map.1 hi
                exact hf p (mC _ hp))
              simp only[q46,e1,hτ,harr,hd,cF,hes,e2,cT]
      · rename_i ty e hn1 hn2 hn3 hτ
        refine⟨_,_,h,(fun p hp=>by rw[List.mem_singleton]at hp;subst hp;exact hl),fun own' hf {β'} k'=>?_⟩
        have e1:=hf _ mS
        simp only at e1
        cases ty<;>first|exact(hn1 _ rfl).elim|exact(hn2 rfl).elim|exact(hn3 _ rfl).elim|simp only[q46,e1,hτ]
      · cases h

theorem qok {b:Bool}{x y:RV N}{k:KK N β}{r:β}(h:qt7 b x y k=some r):
    ∃s,k s []=some r/\∀{β':Type} (k':KK N β'),qt7 b x y k'=k' s []:=by
  unfold qt7 at h
  split at h
  · cases b with
    |true=>exact⟨_,h,fun{β'} k'=>rfl⟩
    |false=>exact⟨_,h,fun{β'} k'=>rfl⟩
  · cases h

theorem q74 {own:List (Nat×Blk N)}{t t':TypeId}{x:RV N}{k:KK N β}{r:β}(h:q1y τ own t t' x k=some r):
    ∃s,k s []=some r/\∀own':List (Nat×Blk N),Sub own own'->∀{β':Type} (k':KK N β'),q1y τ own' t t' x k'=k' s []:=by
  unfold q1y at h
  obtain⟨hsrc,h⟩:=q02 h
  split at h
  · rename_i hτ
    split at h
    · exact⟨_,h,fun own' hs {β'} k'=>by simp only[q1y,hsrc,cT,hτ]⟩
    · cases h
  · rename_i hτ
    cases x with
    |str l=>exact⟨_,h,fun own' hs {β'} k'=>by simp only[q1y,hsrc,cT,hτ]⟩
    |int _ _=>cases h
    | _ =>
      simp only at h
      split at h
      · rename_i hsr
        split at h
        · rename_i hd
          exact⟨_,h,fun own' hs {β'} k'=>by simp only[q1y,hτ,hsr,q2z hs hd];rfl⟩
        · cases h
      · cases h
  · rename_i hτ
    split at h
    · exact⟨_,h,fun own' hs {β'} k'=>by simp only[q1y,hsrc,cT,hτ]⟩
    · cases h
  · cases h

theorem qqv {σ:St N}{t t':TypeId}{dst:Option Nat}{x:RV N}{k:KK N β}{r:β}(h:q9e τ σ t t' dst x k=some r):
    ∃s ad,k s ad=some r/\(∀p∈ad,look σ.own p.1=none)/\∀σ':St N,Sub σ.own σ'.own->(∀p∈ad,look σ'.own p.1=none)->∀{β':Type} (k':KK N β'),q9e τ σ' t t' dst x k'=k' s ad:=by
  cases dst with
  | none=>
    obtain⟨s,h1,h3⟩:=q74 (show q1y τ σ.own t t' x k=some r from h)
    exact⟨s,[],h1,(fun p hp=>by cases hp),fun σ' hs hf β' k'=>h3 _ hs k'⟩
  | some d=>
    unfold q9e at h
    simp only at h
    cases hb:qdo τ t' with
    | none=>
      rw[hb]at h
      obtain⟨s,h1,h3⟩:=q74 h
      exact⟨s,[],h1,(fun p hp=>by cases hp),fun σ' hs hf β' k'=>by simp only[q9e,hb];exact h3 _ hs k'⟩
    | some el=>
      rw[hb]at h
      cases x with
      | str l=>
        simp only at h
        split at h
        · cases h
        · rename_i hl
          obtain⟨hsrc,h⟩:=q02 h
          split at h
          · rename_i hlim
            refine⟨_,_,h,(fun p hp=>by rw[List.mem_singleton.1 hp];exact hl),fun σ' hs hf β' k'=>?_⟩
            have hl':=hf (1000+d,_) (List.mem_singleton.2 rfl)
            simp only at hl'
            simp only[q9e,hb,hl',hsrc,cT,if_pos hlim]
          · cases h
      | _=>
        obtain⟨s,h1,h3⟩:=q74 h
        exact⟨s,[],h1,(fun p hp=>by cases hp),fun σ' hs hf β' k'=>by simp only[q9e,hb];exact h3 _ hs k'⟩

theorem qt4 {op:BinOp}{xt:TypeId}{x y:RV N}{k:RV N->Option β}{r:β}(h:qdb τ op xt x y k=some r):
    ∃z,k z=some r/\∀{β':Type} (k':RV N->Option β'),qdb τ op xt x y k'=k' z:=by
  have hint:∀{op:BinOp} {kx:IntKind} {a b:Int},qi3 op kx a b k=some r->∃z,k z=some r/\∀{β':Type} (k':RV N->Option β'),qi3 op kx a b k'=k' z:=by
    intro op kx a b h
    cases op<;>simp only[qi3]at h ⊢ <;>first
      |exact⟨_,h,fun{β'} _=>rfl⟩
      | (split at h
         · cases h
         · rename_i hb
           exact⟨_,h,fun{β'} k'=>by rw[if_neg hb]⟩)
      |cases h
  have hsh :∀{op:BinOp} {kx:IntKind} {a b:Int},q5h op kx a b k=some r->∃z,k z=some r/\∀{β':Type} (k':RV N->Option β'),q5h op kx a b k'=k' z:=by
    intro op kx a b h
    cases op<;>simp only[q5h]at h ⊢ <;>first
      | (split at h
         · rename_i hb
           exact⟨_,h,fun{β'} k'=>by rw[if_pos hb]⟩
         · cases h)
      |cases h
  have hst :∀{op:BinOp} {a b:List Int},qi9 op a b k=some r->∃z,k z=some r/\∀{β':Type} (k':RV N->Option β'),qi9 op a b k'=k' z:=by
    intro op a b h
    cases op<;>simp only[qi9]at h ⊢ <;>first
      |exact⟨_,h,fun{β'} _=>rfl⟩
      | (split at h
         · rename_i hb
           exact⟨_,h,fun{β'} k'=>by rw[if_pos hb]⟩
         · cases h)
      |cases h
  cases x with
  | int kx a=>
    cases y with
    | int ky b=>
      by_cases h1:op=.shl
      · subst h1
        have h:q5h .shl kx a b k=some r:=h
        exact hsh h
      · by_cases h2:op=.shr
        · subst h2
          have h:q5h .shr kx a b k=some r:=h
          exact hsh h
        · have e:∀{γ:Type} (k:RV N->Option γ),qdb τ op xt (.int kx a) (.int ky b) k=bif decide (kx=ky)then qi3 op kx a b k else none:=by
            intro γ k
            cases op<;>first|rfl|exact absurd rfl h1|exact absurd rfl h2
          rw[e]at h
          obtain⟨hk,h⟩:=q02 h
          obtain⟨z,z1,z2⟩:=hint h
          exact⟨z,z1,fun{β'} k'=>by rw[e,hk];exact z2 k'⟩
    |_=>cases h
  | str a=>
    cases y with
    |str b=>exact hst h
    |_=>cases h
  | bool a=>
    cases y with
    | bool b=>
      simp only[qdb]at h ⊢
      split at h
      · rename_i hτ
        split at h
        · exact⟨_,h,fun{β'} k'=>by simp only[hτ]⟩
        · exact⟨_,h,fun{β'} k'=>by simp only[hτ]⟩
        · cases h
      · cases h
    |_=>cases h
  | data t a bs=>
    cases t with
    | nm n=>
      cases y with
      | data t' b bs'=>
        simp only[qdb]at h ⊢
        split at h
        · rename_i hτ
          split at h
          · rename_i h1 h2
            split at h
            · rename_i h3
              split at h
              · exact⟨_,h,fun{β'} k'=>by simp only[hτ,h1,h2,h3]⟩
              · exact⟨_,h,fun{β'} k'=>by simp only[hτ,h1,h2,h3]⟩
              · cases h
            · cases h
          · cases h
        · cases h
      |_=>cases h
    |_=>cases h
  |_=>cases h

theorem qxc {op:UnOp}{x:RV N}{k:RV N->Option β}{r:β}(h:evUn op x k=some r):
    ∃z,k z=some r/\∀{β':Type} (k':RV N->Option β'),evUn op x k'=k' z:=by
  unfold evUn at h
  split at h
  · exact⟨_,h,fun{β'} _=>rfl⟩
  · exact⟨_,h,fun{β'} _=>rfl⟩
  · exact⟨_,h,fun{β'} _=>rfl⟩
  · cases h

theorem qmu {σ:St N}{t:TypeId}{dst:Option Nat}{x:RV N}{lo hi:Option Operand}{k:KK N β}{r:β}(h:q5i τ σ t dst x lo hi k=some r):
    ∃s,k s []=some r/\∀σ':St N,Sub σ.own σ'.own->(∀o,lo=some o->ev σ' o=ev σ o)->(∀o,hi=some o->ev σ' o=ev σ o)->∀{β':Type} (k':KK N β'),q5i τ σ' t dst x lo hi k'=k' s []:=by
  have e1:∀σ':St N,(∀o,lo=some o->ev σ' o=ev σ o)->qk1 σ' lo=qk1 σ lo:=by
    intro σ' hlo
    cases lo with
    |none=>rfl
    |some o=>simp only[qk1,hlo o rfl]
  have e2:∀σ':St N,(∀o,hi=some o->ev σ' o=ev σ o)->∀n,qk0 σ' n hi=qk0 σ n hi:=by
    intro σ' hhi n
    cases hi with
    |none=>rfl
    |some o=>simp only[qk0,hhi o rfl]
  unfold q5i at h
  split at h
  · rename_i hτ
    split at h
    · split at h
      · rename_i h1 h2
        split at h
        · rename_i a0
          split at h
          · rename_i a1
            split at h
            · rename_i a2
              exact⟨_,h,fun σ' hs hlo hhi {β'} k'=>by simp only[q5i,hτ,e1 σ' hlo,e2 σ' hhi,h1,h2,if_pos a0,if_pos a1,if_pos a2]⟩
            · cases h
          · cases h
        · cases h
      · cases h
    · cases h
  · rename_i hτ
    cases ho:z12b N dst with
    | true=>
      rw[ho,cT]at h
      unfold qaj at h
      split at h
      · split at h
        · rename_i hl
          obtain⟨he,h⟩:=q02 h
          split at h
          · rename_i h1 h2
            split at h
            · rename_i a0
              split at h
              · rename_i a1
                split at h
                · rename_i a2
                  exact⟨_,h,fun σ' hs hlo hhi {β'} k'=>by simp only[q5i,hτ,ho,cT,qaj,hs _ _ hl,he,e1 σ' hlo,e2 σ' hhi,h1,h2,if_pos a0,if_pos a1,if_pos a2]⟩
                · cases h
              · cases h
            · cases h
          · cases h
        · cases h
      · cases h
    | false =>
      rw[ho,cF]at h
      split at h
      · rename_i hd
        split at h
        · rename_i h1 h2
          split at h
          · rename_i a0
            split at h
            · rename_i a1
              split at h
              · rename_i a2
                exact⟨_,h,fun σ' hs hlo hhi {β'} k'=>by simp only[q5i,hτ,ho,cF,q2z hs hd,e1 σ' hlo,e2 σ' hhi,h1,h2,if_pos a0,if_pos a1,if_pos a2]⟩
              · cases h
            · cases h
          · cases h
        · cases h
      · cases h
  · rename_i hτ
    obtain⟨s,h1,h2⟩:=qgj h
    exact⟨s,h1,fun σ' hs hlo hhi {β'} k'=>by simp only[q5i,hτ];exact h2 _ hs k'⟩
  · cases h

theorem qee {ι:Type}{ρ ρ':ι->RV N}{os0:List ι}(hρ0:∀o∈os0,ρ' o=ρ o):∀(js cs:List Nat),q9q ρ os0 js cs=true->q9q ρ' os0 js cs=true
  |[],[],h=>h
  |[],_::_,h=>by cases h
  |_::_,[],h=>by cases h
  | j ::js,c::cs,h=>by
    simp only[q9q,Bool.and_eq_true]at h ⊢
    refine⟨?_,qee hρ0 js cs h.2⟩
    have h1:=h.1
    split at h1
    · rename_i o ho
      rw[hρ0 o (List.mem_of_getElem? ho)]
      exact h1
    · cases h1
theorem qoq {ι:Type}{ρ ρ':ι->RV N}{os0:List ι}(hρ0:∀o∈os0,ρ' o=ρ o)(f:FuncId)(js:List Nat)(r:RV N)(h:qtf ρ os0 f js r=true):qtf ρ' os0 f js r=true:=by
  unfold qtf at h ⊢
  split at h
  · simp only[Bool.and_eq_true]at h ⊢
    exact⟨h.1,qee hρ0 _ _ h.2⟩
  · cases h
theorem q70 {own own':List (Nat×Blk N)}(hs:Sub own own'){fk fk':FuncId->List Nat->RV N->Bool}(hfk:∀f js r,fk f js r=true->fk' f js r=true):∀(l:List CK) (rs:List (RV N)) (x:HC N.ρ l) (B J:List Nat),q1x fk own l rs=some (x,B,J)->q1x fk' own' l rs=some (x,B,J)
  |[],[],x,B,J,h=>h
  |[],_::_,x,B,J,h=>by cases h
  |.c t::l,[],x,B,J,h=>by cases h
  |.o el e::l,[],x,B,J,h=>by cases h
  |.f f js::l,[],x,B,J,h=>by cases h
  | .c t::l,r::rs,x,B,J,h=>by
    simp only[q1x]at h ⊢
    cases hn:qzt t with
    |true=>rw[hn]at h;cases h
    | false=>
      rw[hn]at h
      simp only[cF]at h ⊢
      split at h
      · rename_i x1 b1 y B1 J1 h1 h2
        cases h
        rw[q2z hs h1,q70 hs hfk l rs _ _ _ h2]
      · cases h
  | .o el e::l,r::rs,x,B,J,h=>by
    simp only[q1x]at h ⊢
    split at h
    · rename_i j
      split at h
      · rename_i el' e' xs bs hl
        obtain⟨he,h⟩:=q02 h
        rw[hs _ _ hl]
        simp only[he,cT]
        split at h
        · rename_i xs' y B1 J1 h1 h2
          cases h
          rw[h1,q70 hs hfk l rs _ _ _ h2]
        · cases h
      · cases h
    · cases h
  | .f f js::l,r::rs,x,B,J,h=>by
    simp only[q1x]at h ⊢
    obtain⟨hf,h⟩:=q02 h
    split at h
    · rename_i y B1 J1 h2
      cases h
      rw[hfk f js r hf,q70 hs hfk l rs _ _ _ h2]
      rfl
    · cases h

theorem qv4 {own own':List (Nat×Blk N)}(hs:Sub own own'){t:Ty}{r:RV N}{y:t.den N.ρ×List Nat}(h:readP own t r=some y):readP own' t r=some y:=by
  unfold readP at h ⊢
  split at h
  · split at h
    · rename_i hl
      simp only[hs _ _ hl]
      exact h
    · rename_i hl
      simp only[hs _ _ hl]
      split at h
      · rename_i hi
        simp only[qdu hs 8 _ _ _ hi]
        exact h
      · cases h
    · cases h
  · split at h
    · rename_i hl
      simp only[hs _ _ hl]
      exact h
    · cases h
  · exact h
  · cases h
theorem q45 {ι:Type}{own own':List (Nat×Blk N)}(hs:Sub own own'){ρ ρ':ι->RV N}{os0:List ι}(hρ0:∀o∈os0,ρ' o=ρ o):∀(ps:List PK) (os:List ι) (x:HIn N.ρ ps) (B U:List Nat),(∀o∈os,ρ' o=ρ o)->q0i own ρ os0 ps os=some (x,B,[],U)->q0i own' ρ' os0 ps os=some (x,B,[],U)
  |[],[],x,B,U,hρ,h=>h
  |[],_::_,x,B,U,hρ,h=>by cases h
  |.v t::ps,[],x,B,U,hρ,h=>by cases h
  |.io el e::ps,[],x,B,U,hρ,h=>by cases h
  |.bw t::ps,[],x,B,U,hρ,h=>by cases h
  |.bc l::ps,[],x,B,U,hρ,h=>by cases h
  |.fv f::ps,[],x,B,U,hρ,h=>by cases h
  |.fb f::ps,[],x,B,U,hρ,h=>by cases h
  |.ag n l::ps,[],x,B,U,hρ,h=>by cases h
  |.go el e::ps,[],x,B,U,hρ,h=>by cases h
  |.fn f js::ps,[],x,B,U,hρ,h=>by cases h
  |.rp t::ps,[],x,B,U,hρ,h=>by cases h
  | .rp t::ps,o::os,x,B,U,hρ,h=>by
    simp only[q0i]at h ⊢
    split at h
    · rename_i x1 b1 y1 B1 D1 U1 h1 h2
      cases h
      rw[hρ o mS,qv4 hs h1,q45 hs hρ0 ps os _ _ _ (fun o ho=>hρ o (mC _ ho)) h2]
    · cases h
  | .fn f js::ps,o::os,x,B,U,hρ,h=>by
    simp only[q0i]at h ⊢
    obtain⟨hf,h⟩:=q02 h
    split at h
    · rename_i y1 B1 D1 U1 h2
      cases h
      rw[hρ o mS,qoq hρ0 _ _ _ hf,q45 hs hρ0 ps os _ _ _ (fun o ho=>hρ o (mC _ ho)) h2]
      rfl
    · cases h
  | .go el e::ps,o::os,x,B,U,hρ,h=>by
    simp only[q0i]at h ⊢
    split at h
    · split at h
      · obtain⟨_,h⟩:=q02 h
        split at h
        · cases h
        · cases h
      · cases h
    · rename_i ho
      split at h
      · rename_i y1 B1 D1 U1 h2
        cases h
        rw[hρ o mS,ho]
        simp only
        rw[q45 hs hρ0 ps os _ _ _ (fun o ho=>hρ o (mC _ ho)) h2]
      · cases h
    · cases h
  | .ag n l::ps,o::os,x,B,U,hρ,h=>by
    simp only[q0i]at h ⊢
    split at h
    · rename_i id ho
      split at h
      · rename_i m rs hl
        obtain⟨hm,h⟩:=q02 h
        split at h
        · rename_i x1 b1 J1 y1 B1 D1 U1 h1 h2
          simp only[Option.some.injEq,Prod.mk.injEq,List.append_eq_nil_iff]at h
          obtain⟨rfl,rfl,⟨rfl,rfl⟩,rfl⟩:=h
          rw[hρ o mS,ho]
          simp only
          rw[hs _ _ hl]
          simp only[hm,cT]
          rw[q70 hs (fun f js r h=>qoq hρ0 f js r h) l rs _ _ _ h1,q45 hs hρ0 ps os _ _ _ (fun o ho=>hρ o (mC _ ho)) h2]
          rfl
        · cases h
      · cases h
    · cases h
  | .fv f::ps,o::os,x,B,U,hρ,h=>by
    simp only[q0i]at h ⊢
    obtain⟨hf,h⟩:=q02 h
    split at h
    · rename_i y1 B1 D1 U1 h2
      cases h
      rw[hρ o mS,hf,q45 hs hρ0 ps os _ _ _ (fun o ho=>hρ o (mC _ ho)) h2]
      rfl
    · cases h
  | .fb f::ps,o::os,x,B,U,hρ,h=>by
    simp only[q0i]at h
    split at h
    · split at h
      · obtain⟨_,h⟩:=q02 h
        split at h
        · cases h
        · cases h
      · cases h
    · cases h
  | .v t::ps,o::os,x,B,U,hρ,h=>by
    simp only[q0i]at h ⊢
    split at h
    · rename_i x1 b1 y1 B1 D1 U1 h1 h2
      cases h
      rw[hρ o mS,q2z hs h1,q45 hs hρ0 ps os _ _ _ (fun o ho=>hρ o (mC _ ho)) h2]
    · cases h
  | .io el e::ps,o::os,x,B,U,hρ,h=>by
    simp only[q0i]at h
    split at h
    · split at h
      · obtain⟨_,h⟩:=q02 h
        split at h
        · cases h
        · cases h
      · cases h
    · cases h
  | .bw t::ps,o::os,x,B,U,hρ,h=>by
    simp only[q0i]at h
    split at h
    · split at h
      · split at h
        · cases h
        · cases h
      · cases h
    · cases h
  | .bc l::ps,o::os,x,B,U,hρ,h=>by
    simp only[q0i]at h
    split at h
    · split at h
      · split at h
        · cases h
        · cases h
      · cases h
    · cases h

theorem q36 {ι:Type}{own:List (Nat×Blk N)}{ρ:ι->RV N}{B':List Nat}{os0:List ι}:∀(ps:List PK) (os:List ι) (x:HIn N.ρ ps) (B U:List Nat) (y:HOut N.ρ ps),q0i own ρ os0 ps os=some (x,B,[],U)->q2h own ρ B' ps os y=[]
  |[],[],x,B,U,y,h=>rfl
  |[],_::_,x,B,U,y,h=>by cases h
  |.v t::ps,[],x,B,U,y,h=>by cases h
  |.io el e::ps,[],x,B,U,y,h=>by cases h
  |.bw t::ps,[],x,B,U,y,h=>by cases h
  |.bc l::ps,[],x,B,U,y,h=>by cases h
  |.fv f::ps,[],x,B,U,y,h=>by cases h
  |.fb f::ps,[],x,B,U,y,h=>by cases h
  |.ag n l::ps,[],x,B,U,y,h=>by cases h
  |.go el e::ps,[],x,B,U,y,h=>by cases h
  |.fn f js::ps,[],x,B,U,y,h=>by cases h
  |.rp t::ps,[],x,B,U,y,h=>by cases h
  | .rp t::ps,o::os,x,B,U,y,h=>by
    simp only[q0i]at h
    split at h
    · rename_i x1 b1 y1 B1 D1 U1 h1 h2
      cases h
      exact q36 ps os y1 B1 U y h2
    · cases h
  | .fn f js::ps,o::os,x,B,U,y,h=>by
    simp only[q0i]at h
    obtain⟨hf,h⟩:=q02 h
    split at h
    · rename_i y1 B1 D1 U1 h2
      cases h
      exact q36 ps os y1 B U y h2
    · cases h
  | .go el e::ps,o::os,x,B,U,y,h=>by
    simp only[q0i]at h
    split at h
    · split at h
      · obtain⟨_,h⟩:=q02 h
        split at h
        · cases h
        · cases h
      · cases h
    · split at h
      · rename_i y1 B1 D1 U1 h2
        cases h
        exact q36 ps os y1 B U y h2
      · cases h
    · cases h
  | .ag n l::ps,o::os,x,B,U,y,h=>by
    simp only[q0i]at h
    split at h
    · split at h
      · obtain⟨_,h⟩:=q02 h
        split at h
        · rename_i x1 b1 J1 y1 B1 D1 U1 h1 h2
          simp only[Option.some.injEq,Prod.mk.injEq,List.append_eq_nil_iff]at h
          obtain⟨rfl,rfl,⟨rfl,rfl⟩,rfl⟩:=h
          exact q36 ps os y1 B1 U1 y h2
        · cases h
      · cases h
    · cases h
  | .fv f::ps,o::os,x,B,U,y,h=>by
    simp only[q0i]at h
    obtain⟨hf,h⟩:=q02 h
    split at h
    · rename_i y1 B1 D1 U1 h2
      cases h
      exact q36 ps os y1 B U y h2
    · cases h
  | .fb f::ps,o::os,x,B,U,y,h=>by
    simp only[q0i]at h
    split at h
    · split at h
      · obtain⟨_,h⟩:=q02 h
        split at h
        · cases h
        · cases h
      · cases h
    · cases h
  | .v t::ps,o::os,x,B,U,y,h=>by
    simp only[q0i]at h
    split at h
    · rename_i x1 b1 y1 B1 D1 U1 h1 h2
      cases h
      exact q36 ps os y1 B1 U y h2
    · cases h
  | .io el e::ps,o::os,x,B,U,y,h=>by
    simp only[q0i]at h
    split at h
    · split at h
      · obtain⟨_,h⟩:=q02 h
        split at h
        · cases h
        · cases h
      · cases h
    · cases h
  | .bw t::ps,o::os,x,B,U,y,h=>by
    simp only[q0i]at h
    split at h
    · split at h
      · split at h
        · cases h
        · cases h
      · cases h
    · cases h
  | .bc l::ps,o::os,x,B,U,y,h=>by
    simp only[q0i]at h
    split at h
    · split at h
      · split at h
        · cases h
        · cases h
      · cases h
    · cases h

theorem q4i (B:List Nat)(d j:Nat):∀(l:List CK) (i:Nat) (x:HC N.ρ l),(q3i B d j i l x).map (·.1)=q3h d j i l
  |[],i,x=>rfl
  |.c t::l,i,x=>q4i B d j l (i+1) x.2
  |.o el e::l,i,x=>by simp[q3i,q3h,q4i B d j l (i+1) x.2]
  |.f f js::l,i,x=>q4i B d j l (i+1) x.2
theorem q6r (B:List Nat)(d:Nat):∀(rs:List RK) (j:Nat) (x:HRes N.ρ rs),(q7n B d rs j x).map (·.1)=q5o d rs j
  |[],j,x=>rfl
  |.v t::rs,j,x=>q6r B d rs (j+1) x.2
  |.own el e::rs,j,x=>by simp[q7n,q5o,q6r B d rs (j+1) x.2]
  |.ag n l::rs,j,x=>by simp[q7n,q5o,q6r B d rs (j+1) x.2,q4i B d j l 0 x.1]

/-- A call that only reads what was there. -/
def q9u {ι:Type}(S:Spec N)(own:List (Nat×Blk N))(ρ:ι->RV N)(os:List ι)(dst:Option Nat)(k:KK N β):Option β:=
  match q0i own ρ os S.ps os with
  | some (x,B,[],[])=>bif q26 own (q5o (dst.getD 0) S.rs 0)&&q3g (q5o (dst.getD 0) S.rs 0)then
      (S.f x).bind fun r=>k (qy2 (q1o B (dst.getD 0) S.rs 0 (S.out r).1)) (q7n B (dst.getD 0) S.rs 0 (S.out r).1)
    else none
  |_=>none

theorem qmk {ι:Type}{S:Spec N}{own:List (Nat×Blk N)}{ρ:ι->RV N}{os:List ι}{dst:Option Nat}{k:KK N β}{r:β}(h:q9u S own ρ os dst k=some r):
    ∃s ad,k s ad=some r/\(∀p∈ad,look own p.1=none)/\∀(own':List (Nat×Blk N)) (ρ':ι->RV N),Sub own own'->(∀o∈os,ρ' o=ρ o)->(∀p∈ad,look own' p.1=none)->∀{β':Type} (k':KK N β'),q9u S own' ρ' os dst k'=k' s ad:=by
  unfold q9u at h
  split at h
  · rename_i x B hc
    obtain⟨hf,h⟩:=q02 h
    simp only[Bool.and_eq_true]at hf
    obtain⟨hf,hnd⟩:=hf
    obtain⟨y,hy,hk⟩:=Option.bind_eq_some_iff.1 h
    refine⟨_,_,hk,fun p hp=>?_,fun own' ρ' hs hρ hf' β' k'=>?_⟩
    · refine q19 hf p.1 ?_
      rw[<-q6r (N:=N) B (dst.getD 0) S.rs 0 (S.out y).1]
      exact List.mem_map.2 ⟨p,hp,rfl⟩
    · have hfr:q26 own' (q5o (dst.getD 0) S.rs 0)=true:=q78 (fun i hi=>by
        rw[<-q6r (N:=N) B (dst.getD 0) S.rs 0 (S.out y).1]at hi
        obtain⟨p,hp,rfl⟩:=List.mem_map.1 hi
        exact hf' p hp)
      simp only[q9u,q45 hs hρ S.ps os x B [] hρ hc,hfr,hnd,Bool.and_self,cT,hy,oB]
  · cases h

theorem qul (own:List (Nat×Blk N)):qxw own []=true:=by
  unfold qxw
  rw[List.all_eq_true]
  rintro⟨i,b⟩ _
  have:∀l,q1j [] l=false:=fun l=>by
    unfold q1j
    rw[List.any_eq_false]
    intro i _
    simp
  cases b<;>simp[this]

theorem qqu {ι:Type}{S:Spec N}{σ:St N}{ρ:ι->RV N}{os:List ι}{dst:Option Nat}{s:Slot N}{ad:List (Nat×Blk N)}(h:q9u S σ.own ρ os dst (fun s ad=>some (s,ad))=some (s,ad)){k:Slot N->St N->Option β}:
    qk7 S σ ρ os dst k=k s {σ with own:=q0d ad σ.own}:=by
  unfold q9u at h
  split at h
  · rename_i x B hc
    obtain⟨hf,h⟩:=q02 h
    simp only[Bool.and_eq_true]at hf
    obtain⟨hf,hnd⟩:=hf
    obtain⟨y,hy,hk⟩:=Option.bind_eq_some_iff.1 h
    cases hk
    have hm:q1j [] B=false:=by
      unfold q1j
      rw[List.any_eq_false]
      intro i _
      simp
    simp only[qk7,hc,hnd,show q3g ([]:List Nat)=true from rfl,hm,qul,hf,nF,Bool.and_self,cT,hy,oB,havR,q36 S.ps os x B [] _ hc,List.nil_append]
  · cases h

def qyf (o:Oper):List Nat:=o.op.operands.toList.filterMap fun|.tmp t=>some t|_=>none

structure Agree (o:Oper) (σ σ':St N):Prop where
  regs:∀t∈qyf o,σ'.reg t=σ.reg t
  sub:Sub σ.own σ'.own

theorem qol (σ σ':St N)(v:Value):Eng.ev σ' (.const v)=Eng.ev σ (.const v):=by
  cases v with
  | slice a l c=>
    cases a with
    | none=>
      cases l with
      | zero=>
        cases c with
        |zero=>rfl
        |succ _=>rfl
      |succ _=>rfl
    |some _=>rfl
  |_=>rfl

theorem Agree.ev {o:Oper}{σ σ':St N}(h:Agree o σ σ'){x:Operand}(hx:x∈o.op.operands.toList):Eng.ev σ' x=Eng.ev σ x:=by
  cases x with
  | tmp t=>
    have:=h.regs t (List.mem_filterMap.2 ⟨_,hx,rfl⟩)
    simp only[Eng.ev,this]
  |const v=>exact qol σ σ' v
  |_=>rfl

theorem qer {o:Oper}{σ:St N}{ty:TypeId}{dst:Option Nat}{x:Operand}(hx:x∈o.op.operands.toList){k:KK N β}{r:β}(h:q47 τ σ ty dst x k=some r):
    ∃s ad,k s ad=some r/\(∀p∈ad,look σ.own p.1=none)/\∀σ':St N,Agree o σ σ'->(∀p∈ad,look σ'.own p.1=none)->∀{β':Type} (k':KK N β'),q47 τ σ' ty dst x k'=k' s ad:=by
  have base:q61 τ σ.own ty dst (ev σ x) k=some r->(∀(σ':St N),Agree o σ σ'->∀{β':Type} (k':KK N β'),q47 τ σ' ty dst x k'=q61 τ σ'.own ty dst (ev σ' x) k')->∃s ad,k s ad=some r/\(∀p∈ad,look σ.own p.1=none)/\∀σ':St N,Agree o σ σ'->(∀p∈ad,look σ'.own p.1=none)->∀{β':Type} (k':KK N β'),q47 τ σ' ty dst x k'=k' s ad:=by
    intro hb he
    obtain⟨s,ad,h1,h2,h3⟩:=qbz hb
    exact⟨s,ad,h1,h2,fun σ' hA hf β' k'=>by rw[he σ' hA k',hA.ev hx];exact h3 _ hf k'⟩
  cases x with
  | tmp t=>
    have ht:t∈qyf o:=List.mem_filterMap.2 ⟨_,hx,rfl⟩
    unfold q47 at h
    simp only at h
    cases hl:σ.reg t with
    | tup l=>
      rw[hl]at h
      exact⟨_,_,h,(fun p hp=>by cases hp),fun σ' hA hf β' k'=>by simp only[q47,hA.regs t ht,hl]⟩
    | one r0=>
      rw[hl]at h
      exact base h (fun σ' hA β' k'=>by simp only[q47,hA.regs t ht,hl])
  |const v=>exact base h (fun σ' hA β' k'=>rfl)
  |global g=>exact base h (fun σ' hA β' k'=>rfl)
  |func f=>exact base h (fun σ' hA β' k'=>rfl)

def bxB (own:List (Nat×Blk N))(id:Nat):Bool:=match look own id with
  |some (.whole _ _ _)=>true
  |some (.cells _)=>true
  |_=>false
theorem qwr {σ σ':St N}(hs:Sub σ.own σ'.own){id:Nat}(h:bxB σ.own id=true):qwi σ' (.cap id)=qwi σ (.cap id):=by
  unfold bxB at h
  simp only[qwi]
  split at h
  · rename_i hl
    first|rw[hl,hs _ _ hl]|rw[hs _ _ hl]
  · rename_i hl
    first|rw[hl,hs _ _ hl]|rw[hs _ _ hl]
  · cases h

def evE (τ:TypeId->Option TI)(Φ:FuncId->Option (Spec N))(o:Oper)(σ:St N)(k:KK N β):Option β:=
  match o.op with
  |.move x=>q47 τ σ o.type o.dst x k
  |.assign x=>q47 τ σ o.type o.dst x k
  |.load t x=>q60 τ σ.own t o.dst (ev σ x) k
  | .nilCheck x=>match ev σ x with
    |.bptr i j=>k (.one (.bptr i j)) []
    |.sptr t y bs=>k (.one (.sptr t y bs)) []
    |.optr i j l=>k (.one (.optr i j l)) []
    |.fn f caps=>k (.one (.fn f caps)) []
    |_=>none
  |.binOp op t x y _=>qdb τ op t (ev σ x) (ev σ y) fun z=>k (.one z) []
  |.unOp op _ x=>evUn op (ev σ x) fun z=>k (.one z) []
  |.convert t t' x=>q9e τ σ t t' o.dst (ev σ x) k
  |.slice t x lo hi none=>q5i τ σ t o.dst (ev σ x) lo hi k
  | .pick c x y=>match ev σ c with
    |.bool b=>bif b then q61 τ σ.own o.type o.dst (ev σ x) k else q61 τ σ.own o.type o.dst (ev σ y) k
    |_=>none
  |.alloc t=>q46 τ σ.own t o.dst k
  |.build t ps=>q73 τ σ t o.dst ps.toList k
  |.buildSlice t n ps=>q24 τ σ t n ps.toList o.dst k
  |.makeSlice t l c=>q9f τ σ t o.dst l c k
  |.fieldAddr t x f=>q1q τ t (ev σ x) f k
  |.field t x f=>q6a τ σ.own t o.dst (ev σ x) f k
  |.indexAddr t x i=>q1r τ σ.own t (ev σ x) (ev σ i) k
  |.index t x i=>q87 τ t (ev σ x) (ev σ i) k
  | .extract x i=>match x with
    | .tmp t=>match σ.reg t with
      | .tup l=>match l[i]? with
        |some r=>k (.one r) []
        |none=>none
      |_=>none
    |_=>none
  | .call c=>match c.callee with
    | .value f=>match ev σ f with
      | .fn f caps=>match quw Φ f (c.args.toList.map (ev σ))with
        |some S=>bif Nat.beq S.gh 0&&Nat.beq S.ps.length (c.args.toList.map Arg.op++caps.map Arg.cap).length&&caps.all (bxB σ.own)then q9u S σ.own (qwi σ) (c.args.toList.map Arg.op++caps.map Arg.cap) o.dst k else none
        |none=>none
      |_=>none
    | .builtin .len=>match c.args.toList,c.argTypes.toList with
      |[x],[t]=>qi4 τ σ.own t (ev σ x) k
      |_,_=>none
    | .builtin .min=>match c.args.toList with
      |[x,y]=>qt7 true (ev σ x) (ev σ y) k
      |_=>none
    | .builtin .max=>match c.args.toList with
      |[x,y]=>qt7 false (ev σ x) (ev σ y) k
      |_=>none
    |_=>none
  |_=>none

theorem z111 {Φ:FuncId->Option (Spec N)}{o:Oper}{σ:St N}{k:KK N β}{r:β}(h:evE τ Φ o σ k=some r):
    ∃s ad,k s ad=some r/\(∀p∈ad,look σ.own p.1=none)/\∀σ':St N,Agree o σ σ'->(∀p∈ad,look σ'.own p.1=none)->∀{β':Type} (k':KK N β'),evE τ Φ o σ' k'=k' s ad:=by
  obtain⟨dst,op,ty,pos,after,guard⟩:=o
  have none0:∀(own:List (Nat×Blk N)),∀p∈([]:List (Nat×Blk N)),look own p.1=none:=fun own p hp=>by cases hp
  unfold evE at h
  cases op with
  | move x=>
    obtain⟨s,ad,h1,h2,h3⟩:=qer (o:=⟨dst,.move x,ty,pos,after,guard⟩) (by simp[Op.operands]) h
    exact⟨s,ad,h1,h2,fun σ' hA hf β' k'=>h3 σ' hA hf k'⟩
  | assign x=>
    obtain⟨s,ad,h1,h2,h3⟩:=qer (o:=⟨dst,.assign x,ty,pos,after,guard⟩) (by simp[Op.operands]) h
    exact⟨s,ad,h1,h2,fun σ' hA hf β' k'=>h3 σ' hA hf k'⟩
  | build t ps=>
    obtain⟨s,ad,h1,h2,h3⟩:=qmj h
    exact⟨s,ad,h1,h2,fun σ' hA hf β' k'=>by simp only[evE];exact h3 σ' hA.sub (fun p hp=>hA.ev (by simp only[Op.operands];exact List.mem_map.2 ⟨p,hp,rfl⟩)) hf k'⟩
  | makeSlice t l c=>
    obtain⟨s,ad,h1,h2,h3⟩:=qqx h
    exact⟨s,ad,h1,h2,fun σ' hA hf β' k'=>by simp only[evE];exact h3 σ' (hA.ev (by simp[Op.operands])) (hA.ev (by simp[Op.operands])) hf k'⟩
  | alloc t=>
    obtain⟨s,ad,h1,h2,h3⟩:=qmg h
    exact⟨s,ad,h1,h2,fun σ' hA hf β' k'=>by simp only[evE];exact h3 _ hf k'⟩
  | buildSlice t n ps=>
    obtain⟨s,ad,h1,h2,h3⟩:=qdc h
    exact⟨s,ad,h1,h2,fun σ' hA hf β' k'=>by simp only[evE];exact h3 σ' hA.sub (fun p hp=>hA.ev (by simp only[Op.operands];exact List.mem_map.2 ⟨p,hp,rfl⟩)) hf k'⟩
  | pick c x y=>
    simp only at h
    split at h
    · rename_i b hb
      have hc:∀σ':St N,Agree ⟨dst,.pick c x y,ty,pos,after,guard⟩ σ σ'->ev σ' c=.bool b:=fun σ' hA=>by rw[hA.ev (x:=c) (by simp[Op.operands])];exact hb
      cases b with
      | true=>
        simp only[cT]at h
        obtain⟨s,ad,h1,h2,h3⟩:=qbz h
        refine⟨s,ad,h1,h2,fun σ' hA hf β' k'=>?_⟩
        simp only[evE,hc σ' hA,hA.ev (x:=x) (by simp[Op.operands]),cT]
        exact h3 _ hf k'
      | false=>
        simp only[cF]at h
        obtain⟨s,ad,h1,h2,h3⟩:=qbz h
        refine⟨s,ad,h1,h2,fun σ' hA hf β' k'=>?_⟩
        simp only[evE,hc σ' hA,hA.ev (x:=y) (by simp[Op.operands]),cF]
        exact h3 _ hf k'
    · cases h
  | load t x=>
    obtain⟨s,ad,h1,h2,h3⟩:=qqw h
    exact⟨s,ad,h1,h2,fun σ' hA hf β' k'=>by simp only[evE,hA.ev (x:=x) (by simp[Op.operands])];exact h3 _ hA.sub hf k'⟩
  | nilCheck x=>
    simp only at h
    split at h
    · rename_i hx
      exact⟨_,_,h,none0 _,fun σ' hA hf β' k'=>by simp only[evE,hA.ev (x:=x) (by simp[Op.operands]),hx]⟩
    · rename_i hx
      exact⟨_,_,h,none0 _,fun σ' hA hf β' k'=>by simp only[evE,hA.ev (x:=x) (by simp[Op.operands]),hx]⟩
    · rename_i hx
      exact⟨_,_,h,none0 _,fun σ' hA hf β' k'=>by simp only[evE,hA.ev (x:=x) (by simp[Op.operands]),hx]⟩
    · rename_i hx
      exact⟨_,_,h,none0 _,fun σ' hA hf β' k'=>by simp only[evE,hA.ev (x:=x) (by simp[Op.operands]),hx]⟩
    · cases h
  | binOp op t x y yt=>
    obtain⟨z,h1,h3⟩:=qt4 h
    exact⟨.one z,[],h1,none0 _,fun σ' hA hf β' k'=>by simp only[evE,hA.ev (x:=x) (by simp[Op.operands]),hA.ev (x:=y) (by simp[Op.operands])];exact h3 fun z=>k' (.one z) []⟩
  | unOp op t x=>
    obtain⟨z,h1,h3⟩:=qxc h
    exact⟨.one z,[],h1,none0 _,fun σ' hA hf β' k'=>by simp only[evE,hA.ev (x:=x) (by simp[Op.operands])];exact h3 fun z=>k' (.one z) []⟩
  | convert t t' x=>
    obtain⟨s,ad,h1,h2,h3⟩:=qqv h
    exact⟨s,ad,h1,h2,fun σ' hA hf β' k'=>by simp only[evE,hA.ev (x:=x) (by simp[Op.operands])];exact h3 _ hA.sub hf k'⟩
  | slice t x lo hi mx=>
    cases mx with
    | none=>
      obtain⟨s,h1,h3⟩:=qmu h
      refine⟨s,[],h1,none0 _,fun σ' hA hf β' k'=>?_⟩
      simp only[evE,hA.ev (x:=x) (by simp[Op.operands])]
      exact h3 σ' hA.sub (fun o ho=>hA.ev (by simp[Op.operands,ho])) (fun o ho=>hA.ev (by simp[Op.operands,ho])) k'
    |some m=>cases h
  | fieldAddr t x f=>
    obtain⟨s,h1,h3⟩:=qen h
    exact⟨s,[],h1,none0 _,fun σ' hA hf β' k'=>by simp only[evE,hA.ev (x:=x) (by simp[Op.operands])];exact h3 k'⟩
  | field t x f=>
    obtain⟨s,ad,h1,h2,h3⟩:=qmm h
    exact⟨s,ad,h1,h2,fun σ' hA hf β' k'=>by simp only[evE,hA.ev (x:=x) (by simp[Op.operands])];exact h3 _ hA.sub hf k'⟩
  | indexAddr t x i=>
    obtain⟨s,h1,h3⟩:=qeo h
    exact⟨s,[],h1,none0 _,fun σ' hA hf β' k'=>by simp only[evE,hA.ev (x:=x) (by simp[Op.operands]),hA.ev (x:=i) (by simp[Op.operands])];exact h3 _ hA.sub k'⟩
  | index t x i=>
    obtain⟨s,h1,h3⟩:=qmn h
    exact⟨s,[],h1,none0 _,fun σ' hA hf β' k'=>by simp only[evE,hA.ev (x:=x) (by simp[Op.operands]),hA.ev (x:=i) (by simp[Op.operands])];exact h3 k'⟩
  | extract x i=>
    simp only at h
    split at h
    · rename_i t
      split at h
      · rename_i l hl
        split at h
        · rename_i z hz
          refine⟨_,_,h,none0 _,fun σ' hA hf β' k'=>?_⟩
          have:=hA.regs t (by simp[qyf,Op.operands])
          simp only[evE,this,hl,hz]
        · cases h
      · cases h
    · cases h
  | call c=>
    simp only at h
    split at h
    · rename_i f hf
      split at h
      · rename_i f' caps hfn
        split at h
        · rename_i S hS
          obtain⟨hg,h⟩:=q02 h
          have hg':=hg
          simp only[Bool.and_eq_true]at hg'
          have hbx:=List.all_eq_true.1 hg'.2
          obtain⟨s,ad,h1,h2,h3⟩:=qmk h
          refine⟨s,ad,h1,h2,fun σ' hA hfr β' k'=>?_⟩
          have e1:ev σ' f=.fn f' caps:=by
            rw[hA.ev (x:=f) (by simp[Op.operands,Call.operands,hf])]
            exact hfn
          have e3:∀y∈c.args.toList,ev σ' y=ev σ y:=fun y hy=>hA.ev (by simp only[Op.operands,Call.operands,Array.toList_append,mA];exact .inr hy)
          have e2:c.args.toList.map (ev σ')=c.args.toList.map (ev σ):=List.map_congr_left e3
          have e4:caps.all (bxB σ'.own)=true:=by
            rw[List.all_eq_true]
            intro y hy
            have:=hbx y hy
            unfold bxB at this ⊢
            split at this
            · rename_i hl;rw[hA.sub _ _ hl]
            · rename_i hl;rw[hA.sub _ _ hl]
            · cases this
          simp only[evE,hf,e1,e2,hS,hg'.1,e4,Bool.and_self,cT]
          refine h3 _ _ hA.sub (fun o ho=>?_) hfr k'
          rcases mA.1 ho with ho|ho
          · obtain⟨y,hy,rfl⟩:=List.mem_map.1 ho
            exact e3 y hy
          · obtain⟨y,hy,rfl⟩:=List.mem_map.1 ho
            exact qwr hA.sub (hbx y hy)
        · cases h
      · cases h
    · rename_i hb
      split at h
      · rename_i x t hx ht
        obtain⟨s,h1,h3⟩:=qt6 h
        refine⟨s,[],h1,none0 _,fun σ' hA hf β' k'=>?_⟩
        have e1:ev σ' x=ev σ x:=hA.ev (by simp only[Op.operands,Call.operands,Array.toList_append,mA,hx];exact .inr mS)
        simp only[evE,hb,hx,ht,e1]
        exact h3 _ hA.sub k'
      · cases h
    · rename_i hb
      split at h
      · rename_i x y hx
        obtain⟨s,h1,h3⟩:=qok h
        refine⟨s,[],h1,none0 _,fun σ' hA hf β' k'=>?_⟩
        have e1:ev σ' x=ev σ x:=hA.ev (by simp only[Op.operands,Call.operands,Array.toList_append,mA,hx];exact .inr mS)
        have e2:ev σ' y=ev σ y:=hA.ev (by simp only[Op.operands,Call.operands,Array.toList_append,mA,hx];exact .inr (mC _ mS))
        simp only[evE,hb,hx,e1,e2]
        exact h3 k'
      · cases h
    · rename_i hb
      split at h
      · rename_i x y hx
        obtain⟨s,h1,h3⟩:=qok h
        refine⟨s,[],h1,none0 _,fun σ' hA hf β' k'=>?_⟩
        have e1:ev σ' x=ev σ x:=hA.ev (by simp only[Op.operands,Call.operands,Array.toList_append,mA,hx];exact .inr mS)
        have e2:ev σ' y=ev σ y:=hA.ev (by simp only[Op.operands,Call.operands,Array.toList_append,mA,hx];exact .inr (mC _ mS))
        simp only[evE,hb,hx,e1,e2]
        exact h3 k'
      · cases h
    · cases h
  |_=>cases h

theorem qxb {Φ:FuncId->Option (Spec N)}{o:Oper}{σ:St N}{s:Slot N}{ad:List (Nat×Blk N)}(h:evE τ Φ o σ (fun s ad=>some (s,ad))=some (s,ad))(hp:∀{β':Type} (k':KK N β'),evE τ Φ o σ k'=k' s ad){k:St N->Option β}:
    qgi τ Φ o σ k=k (({σ with own:=q0d ad σ.own}:St N).put o.dst s):=by
  obtain⟨dst,op,ty,pos,after,guard⟩:=o
  have h1:=hp (qdt σ dst k)
  cases op with
  | call c=>
    simp only[evE,qgi]at h h1 ⊢
    cases hc:c.callee with
    | value f=>
      simp only[hc]at h h1 ⊢
      cases hf:ev σ f with
      | fn f' caps=>
        simp only[hf]at h h1 ⊢
        simp only[qhz]
        cases hS:quw Φ f' (c.args.toList.map (ev σ))with
        |none=>rw[hS]at h;cases h
        | some S=>
          simp only[hS]at h h1 ⊢
          obtain⟨hg,h⟩:=q02 h
          simp only[Bool.and_eq_true]at hg
          have hg0:=Nat.eq_of_beq_eq_true hg.1.1
          have hg1:=Nat.eq_of_beq_eq_true hg.1.2
          have hg2:Nat.beq S.ps.length ((c.args.toList.map Arg.op++caps.map Arg.cap).length+S.gh)=true:=by
            rw[hg0,Nat.add_zero,hg1]
            exact Nat.beq_refl _
          rw[hg2,cT]
          rw[show(c.args.toList.map Arg.op++caps.map Arg.cap)++(q62 σ.own S.ps S.gh ((c.args.toList.map Arg.op++caps.map Arg.cap).map (qwi σ))).map Arg.cap=c.args.toList.map Arg.op++caps.map Arg.cap from by rw[hg0];simp[q62]]
          rw[qqu h]
          rfl
      |_=>rw[hf]at h;cases h
    |invoke r m=>rw[hc]at h;cases h
    | builtin b=>
      simp only[hc]at h h1 ⊢
      cases b with
      | len=>
        simp only at h h1 ⊢
        exact h1
      | min=>
        simp only at h h1 ⊢
        exact h1
      | max=>
        simp only at h h1 ⊢
        exact h1
      |_=>cases h
  | slice t x lo hi mx=>
    cases mx with
    |none=>exact h1
    |some m=>cases h
  | extract x i=>
    simp only[evE,qgi]at h h1 ⊢
    exact h1
  | pick c x y=>
    simp only[evE,qgi]at h h1 ⊢
    cases hx:ev σ c<;>rw[hx]at h h1<;>first|exact h1|cases h
  | nilCheck x=>
    simp only[evE,qgi]at h h1 ⊢
    cases hx:ev σ x<;>rw[hx]at h h1<;>first|exact h1|cases h
  |move x=>exact h1
  |build t ps=>exact h1
  |alloc t=>exact h1
  |makeSlice t l c=>exact h1
  |buildSlice t n ps=>exact h1
  |assign x=>exact h1
  |load t x=>exact h1
  | binOp op t x y yt=>
    have hn:qkq y=false:=by
      cases hy:qkq y with
      |false=>rfl
      | true=>
        exfalso
        have hy':y=.const (.slice none 0 0):=by
          unfold qkq at hy
          split at hy
          · rfl
          · cases hy
        subst hy'
        simp only[evE,show ev σ (.const (.slice none 0 0))=(.nil:RV N)from rfl]at h
        unfold qdb at h
        cases hx:ev σ x with
        |data t' a bs=>rw[hx]at h;cases t'<;>cases h
        |_=>rw[hx]at h;cases h
    have hnf:qkr y=false:=by
      cases hy:qkr y with
      |false=>rfl
      | true=>
        exfalso
        obtain rfl:=qff hy
        simp only[evE,show ev σ (.const .nilFunc)=(.nilf:RV N)from rfl]at h
        unfold qdb at h
        cases hx:ev σ x with
        |data t' a bs=>rw[hx]at h;cases t'<;>cases h
        |_=>rw[hx]at h;cases h
    simp only[evE,qgi,hn,hnf]at h1 ⊢
    exact h1
  |unOp op t x=>exact h1
  |convert t t' x=>exact h1
  |fieldAddr t x f=>exact h1
  |field t x f=>exact h1
  |indexAddr t x i=>exact h1
  |index t x i=>exact h1
  |_=>cases h

/-- An operation that reads or adds: its effect, wherever it is carried out. -/
theorem qxa (F:Fits P N τ){Φ:FuncId->Option (Spec N)}(hΦ:∀f S,Φ f=some S->Good P (f%1000000) S){o:Oper}{σ:St N}{k:KK N β}{r:β}(h:evE τ Φ o σ k=some r):
    ∃s ad,k s ad=some r/\(∀p∈ad,look σ.own p.1=none)/\∀σ':St N,Agree o σ σ'->(∀p∈ad,look σ'.own p.1=none)->qjl P o σ' (({σ' with own:=q0d ad σ'.own}:St N).put o.dst s)/\∀{β':Type} (k':KK N β'),evE τ Φ o σ' k'=k' s ad:=by
  obtain⟨s,ad,h1,h2,h3⟩:=z111 h
  refine⟨s,ad,h1,h2,fun σ' hA hf=>⟨?_,fun k'=>h3 σ' hA hf k'⟩⟩
  have hp:∀{β':Type} (k':KK N β'),evE τ Φ o σ' k'=k' s ad:=fun k'=>h3 σ' hA hf k'
  have:=qxb (hp fun s ad=>some (s,ad)) hp (k:=fun σ=>some σ)
  obtain⟨σ1,e1,e2⟩:=q6m F hΦ this
  cases e1
  exact e2

end Go.Eng

set_option linter.unusedVariables false
set_option linter.unusedSimpArgs false
namespace Go.Eng
variable {N:Names} {P:Program} {τ:TypeId->Option TI} {β:Type}
structure Eff (N:Names)where
 dst:Option Nat
 s:Slot N
 ad:List (Nat×Blk N)
def q3n (σ:St N)(e:Eff N):St N:=({regs:=σ.regs,own:=q0d e.ad σ.own}:St N).put e.dst e.s
def sq (σ0:St N)(eff:Nat->Eff N):List Nat->St N
 |[]=>σ0
 |j::L=>q3n (sq σ0 eff L) (eff j)
def q3b (ops:List Oper)(i:Nat):List Nat:=match ops[i]? with
 |some o=>(o.after.toList.filter (Region.binds .any)).map (·.on)
 |none=>[]
def qyp:List Nat->List Nat->List Nat
 |[],l=>l
 |i::r,l=>bif l.contains i then qyp r l else qyp r (i::l)
/-! What is done before operation i in any case: bits of a number, row by row. -/
def rowM (T:List Nat)(n:Nat):List Nat->Nat
 |[]=>0
 |j::r=>Nat.lor (Nat.lor (2^j) (bif Nat.blt j n then T.getD (n-1-j) 0 else 0)) (rowM T n r)
def extM (ops:List Oper)(n:Nat)(T:List Nat):List Nat:=rowM T n (q3b ops n)::T
def cloM (ops:List Oper):Nat->List Nat
 |0=>[]
 |n+1=>extM ops n (cloM ops n)
def q4d (m:Nat):Nat->List Nat
 |0=>[]
 |k+1=>bif m.testBit k then k::q4d m k else q4d m k
def clo (ops:List Oper)(_ i:Nat):List Nat:=q4d ((cloM ops (i+1)).headD 0) i
def CloR (ops:List Oper)(j k:Nat):Prop:=∀S:Nat->Prop,(∀j,S j->∀k∈q3b ops j,S k)->(∀k∈q3b ops j,S k)->S k
theorem qpl {ops:List Oper}{T:List Nat}{n:Nat}(hT:∀j,j<n->∀k,(T.getD (n-1-j) 0).testBit k=true->CloR ops j k){i:Nat}:∀(l:List Nat),(∀j∈l,j∈q3b ops i)->∀k,(rowM T n l).testBit k=true->CloR ops i k
 |[],_,k,h=>by simp[rowM]at h
 | j::r,hl,k,h=>by
  have h:(Nat.lor (Nat.lor (2^j) (bif Nat.blt j n then T.getD (n-1-j) 0 else 0)) (rowM T n r)).testBit k=true:=h
  rw[show ∀a b,Nat.lor a b=a|||b from fun _ _=>rfl,show ∀a b,Nat.lor a b=a|||b from fun _ _=>rfl,Nat.testBit_or,Nat.testBit_or,Bool.or_eq_true,Bool.or_eq_true]at h
  rcases h with(h|h)|h
  ·rw[Nat.testBit_two_pow,decide_eq_true_eq]at h
   subst h
   exact fun S _ hp=>hp _ (hl _ mS)
  ·cases hb:Nat.blt j n with
   |false=>rw[hb]at h;simp at h
   |true=>
    rw[hb,cT]at h
    have hj:j<n:=by simpa[Nat.blt_eq]using hb
    exact fun S hS hp=>hT j hj k h S hS (hS j (hp j (hl _ mS)))
  ·exact qpl hT r (fun j hj=>hl j (mC _ hj)) k h
theorem qhr {ops:List Oper}:∀(n:Nat),∀j,j<n->∀k,((cloM ops n).getD (n-1-j) 0).testBit k=true->CloR ops j k
 |0,j,hj=>by omega
 | n+1,j,hj=>by
  intro k h
  by_cases e:j=n
  ·subst e
   rw[show j+1-1-j=0 from by omega]at h
   exact qpl (qhr j) _ (fun _ h=>h) k h
  ·rw[show n+1-1-j=(n-1-j)+1 from by omega]at h
   exact qhr n j (by omega) k h
theorem q8j {m:Nat}:∀{n k:Nat},k∈q4d m n->m.testBit k=true
 |0,k,h=>by cases h
 | n+1,k,h=>by
  unfold q4d at h
  cases hb:m.testBit n with
  |false=>rw[hb,cF]at h;exact q8j h
  |true=>
   rw[hb,cT]at h
   rcases List.mem_cons.1 h with rfl|h
   ·exact hb
   ·exact q8j h
theorem q80 {ops:List Oper}{S:Nat->Prop}(hS:∀j,S j->∀k∈q3b ops j,S k)(f i:Nat)(h:∀k∈q3b ops i,S k)(k:Nat)(hk:k∈clo ops f i):S k:=by
 have h1:=q8j hk
 refine qhr (ops:=ops) (i+1) i (by omega) k ?_ S hS h
 rw[show i+1-1-i=0 from by omega]
 have:(cloM ops (i+1)).headD 0=(cloM ops (i+1)).getD 0 0:=rfl
 rw[<-this]
 exact h1
theorem qpf {σ:St N}{d:Nat}{s:Slot N}(hd:d<σ.regs.length)(t:Nat):(σ.putS d s).reg t=if d=t then s else σ.reg t:=by
 unfold St.putS St.reg
 simp only[gQ,List.getElem?_set]
 by_cases h:d=t
 ·subst h;simp[hd]
 ·simp[h]
theorem q9n (σ:St N)(e:Eff N):(q3n σ e).regs.length=σ.regs.length:=by
 unfold q3n St.put St.putS
 cases e.dst<;>simp
theorem q3w (σ0:St N)(eff:Nat->Eff N):∀L,(sq σ0 eff L).regs.length=σ0.regs.length
 |[]=>rfl
 |j::L=>by rw[sq,q9n,q3w σ0 eff L]
theorem q6j {σ:St N}{e:Eff N}(hd:∀d,e.dst=some d->d<σ.regs.length)(t:Nat):(q3n σ e).reg t=if e.dst=some t then e.s else σ.reg t:=by
 unfold q3n
 cases h:e.dst with
 |none=>rfl
 |some d=>
  simp only[St.put]
  rw[qpf (by exact hd d h)]
  by_cases hdt:d=t
  ·simp[hdt]
  ·simp[hdt];rfl
theorem q2u (σ:St N)(e:Eff N)(id:Nat):look (q3n σ e).own id=match look e.ad id with
  |some b=>some b
  |none=>look σ.own id:=by
 have h:(q3n σ e).own=q0d e.ad σ.own:=by
  unfold q3n St.put St.putS
  cases e.dst<;>rfl
 rw[h,q7a]
 cases look e.ad id<;>rfl
structure EffsOk (σ0:St N) (eff:Nat->Eff N) (m:Nat):Prop where
 dst:∀j,j<m->∀d,(eff j).dst=some d->d<σ0.regs.length
 one:∀i j,i<m->j<m->∀d,(eff i).dst=some d->(eff j).dst=some d->i=j
 ids:∀i j,i<m->j<m->∀id b b',look (eff i).ad id=some b->look (eff j).ad id=some b'->i=j
 fresh:∀j,j<m->∀id b,look (eff j).ad id=some b->look σ0.own id=none
theorem qlr {σ0:St N}{eff:Nat->Eff N}{m:Nat}(h:EffsOk σ0 eff m){t:Nat}:∀{L:List Nat},(∀j∈L,j<m)->(∀j∈L,(eff j).dst=some t->(sq σ0 eff L).reg t=(eff j).s)/\((∀j∈L,(eff j).dst≠some t)->(sq σ0 eff L).reg t=σ0.reg t)
 |[],_=>⟨(fun j hj=>by cases hj),fun _=>rfl⟩
 | i::L,hL=>by
  have ih:=qlr h (L:=L) (t:=t) (fun j hj=>hL j (mC _ hj))
  have hr:(sq σ0 eff (i::L)).reg t=if(eff i).dst=some t then(eff i).s else(sq σ0 eff L).reg t:=
   q6j (fun d hd=>by rw[q3w];exact h.dst i (hL i mS) d hd) t
  rw[hr]
  refine⟨fun j hj hd=>?_,fun hn=>?_⟩
  ·by_cases hi:(eff i).dst=some t
   ·rw[if_pos hi,h.one i j (hL i mS) (hL j hj) t hi hd]
   ·rw[if_neg hi]
    rcases List.mem_cons.1 hj with rfl|hj
    ·exact absurd hd hi
    ·exact ih.1 j hj hd
  ·rw[if_neg (hn i mS)]
   exact ih.2 (fun j hj=>hn j (mC _ hj))
theorem qha {σ0:St N}{eff:Nat->Eff N}{m:Nat}(h:EffsOk σ0 eff m){id:Nat}:∀{L:List Nat},(∀j∈L,j<m)->(∀j∈L,∀b,look (eff j).ad id=some b->look (sq σ0 eff L).own id=some b)/\((∀j∈L,look (eff j).ad id=none)->look (sq σ0 eff L).own id=look σ0.own id)
 |[],_=>⟨(fun j hj=>by cases hj),fun _=>rfl⟩
 | i::L,hL=>by
  have ih:=qha h (L:=L) (id:=id) (fun j hj=>hL j (mC _ hj))
  have hr:look (sq σ0 eff (i::L)).own id=match look (eff i).ad id with
    |some b=>some b
    |none=>look (sq σ0 eff L).own id:=q2u _ _ _
  rw[hr]
  refine⟨fun j hj b hb=>?_,fun hn=>?_⟩
  ·cases hi:look (eff i).ad id with
   |some b'=>
    have:=h.ids i j (hL i mS) (hL j hj) id b' b hi hb
    subst this
    rw[hb]at hi
    exact hi.symm
   |none=>
    rcases List.mem_cons.1 hj with rfl|hj
    ·rw[hb]at hi;cases hi
    ·exact ih.1 j hj b hb
  ·rw[hn i mS]
   exact ih.2 (fun j hj=>hn j (mC _ hj))
theorem RelE.same {io:Io}{w0 w:World}{σ σ':St N}{E:Env}{a:Act}(h:RelE io w0 σ E a w)(hl:σ'.regs.length=σ.regs.length)(hr:∀t,σ'.reg t=σ.reg t)(ho:∀id,look σ'.own id=look σ.own id):RelE io w0 σ' E a w:=by
 have hregs:σ'.regs=σ.regs:=by
  apply List.ext_getElem?
  intro i
  have:=hr i
  unfold St.reg at this
  rw[gQ,gQ]at this
  rcases Nat.lt_or_ge i σ.regs.length with hi|hi
  ·rw[gE (by omega),gE hi]at this ⊢
   simpa using this
  ·rw[List.getElem?_eq_none (by omega),List.getElem?_eq_none hi]
 have hok:∀bs g,okb w.heap.size σ.own E bs g->okb w.heap.size σ'.own E bs g:=fun bs g hg=>⟨hg.1,fun id hid=>hg.2 id (by rw[<-ho];exact hid)⟩
 have hrv:∀r v,q0a w σ.own E r v->q0a w σ'.own E r v:=fun r v hr=>
  q3c (fun _ _ _ _ _ h=>h) (fun bs _ g hg=>hok bs g hg) (fun id n t _ ⟨e,xs,bs,p,k1,k2⟩=>⟨⟨e,xs,bs,p,by rw[ho];exact k1,k2⟩,rfl⟩)
   (fun id _ hb=>⟨by
    rcases hb with⟨t,x,bs,k1⟩|⟨l,k1⟩|⟨kt,vt,es,k1⟩|⟨n,l,k1⟩
    ·exact .inl ⟨t,x,bs,by rw[ho];exact k1⟩
    ·exact .inr (.inl ⟨l,by rw[ho];exact k1⟩)
    ·exact .inr (.inr (.inl ⟨kt,vt,es,by rw[ho];exact k1⟩))
    ·exact .inr (.inr (.inr ⟨n,l,by rw[ho];exact k1⟩)),rfl⟩) hr
 refine⟨h.kept,by rw[hl];exact h.size,h.defers,?_,?_,?_,?_,h.sc,h.nw,?_⟩
 ·intro t s hs
  rw[hregs]at hs
  exact q7u hrv (h.regs t s hs)
 ·intro id b hb
  rw[ho]at hb
  have:=h.own id b hb
  cases b with
  |row e t xs bs p=>
   obtain⟨cells,k1,k2⟩:=this
   exact⟨cells,k1,q0p (fun x cs hx=>q09 (fun _ _ _ h=>h) (hok bs) hx) k2⟩
  |whole t x bs=>
   obtain⟨g,T,arr,k1,k2,k3⟩:=this
   exact⟨g,T,arr,k1,k2,q09 (fun _ _ _ h=>h) (hok bs) k3⟩
  |cells l=>
   obtain⟨g,T,arr,k1,k2,k3,k4⟩:=this
   exact⟨g,T,arr,k1,k2,k3,fun i r u hi hu=>hrv r u (k4 i r u hi hu)⟩
  |mapB kt vt es=>exact this
  |vals n l=>
   obtain⟨arr,k1,k2,k3,k4⟩:=this
   exact⟨arr,k1,k2,k3,fun i r u hi hu=>hrv r u (k4 i r u hi hu)⟩
 ·intro id b hb
  rw[ho]at hb
  exact h.blk id b hb
 ·intro i j b b' h1 h2
  rw[ho]at h1 h2
  exact h.sep i j b b' h1 h2
 ·intro i hi
  obtain⟨b,k1,k2⟩:=h.fx i hi
  exact⟨b,by rw[ho];exact k1,k2⟩
/-! The operations of the head, each in its own state. -/
def qzq (ops:List Oper)(o:Oper):List Nat:=match o.guard with
 |some (g,_)=>(q52 ops g).toList
 |none=>[]
def qg8 (ops:List Oper)(o:Oper):List Nat:=qzq ops o++qyf o
structure AgreeG (ops:List Oper) (o:Oper) (σ σ':St N):Prop where
 regs:∀t∈qg8 ops o,σ'.reg t=σ.reg t
 sub:Sub σ.own σ'.own
 len:σ'.regs.length=σ.regs.length
def q5v (P:Program)(ops:List Oper)(i:Nat)(o:Oper)(σ:St N)(e:Eff N):Prop:=
 e.dst=o.dst/\∀σ',AgreeG ops o σ σ'->(∀p∈e.ad,look σ'.own p.1=none)->∀io w0 a w (K:Act->World->Prop) (Q:Exit->Act->World->Prop),Rel io w0 σ' a w->(∀a' w',Rel io w0 (q3n σ' e) a' w'->K a' w')->wpOp P ops.toArray Q i K a w
def qse (i:Nat):List Oper->Bool
 |[]=>false
 |o::r=>(match o.guard with
  |some (g,_)=>Nat.beq g i
  |none=>false)||qse i r
def qh9 (g:Bool)(s:Slot N)(k:Slot N->Option β):Option β:=
 match g,s with
 |true,.one (.bool b)=>bif b then k (.one (.bool true))else k (.one (.bool false))
 |_,s=>k s
theorem qg3 (g:Bool)(s:Slot N)(k:Slot N->Option β):qh9 g s k=k s:=by
 unfold qh9
 split
 ·rename_i b
  cases b<;>rfl
 ·rfl
def q0v (τ:TypeId->Option TI)(Φ:FuncId->Option (Spec N))(ops:List Oper)(σ0:St N):List Oper->List (Eff N)->(List (Eff N)->Option β)->Option β
 |[],effs,k=>k effs
 |o::rest,effs,k=>
  drawOne (sq σ0 (fun j=>effs.getD j ⟨none,.tup [],[]⟩) (clo ops ops.length effs.length)) o fun s ad=>qh9 (qse effs.length ops) s fun s=>q0v τ Φ ops σ0 rest (effs++[⟨o.dst,s,ad⟩]) k
where
 drawOne (σ:St N) (o:Oper) (k:KK N β):Option β:=
  match o.guard with
  |none=>evE τ Φ o σ k
  | some (g,want)=>match q52 ops g with
   |none=>k (.tup []) []
   |some d=>match σ.reg d with
    |.one (.bool b)=>bif want then(bif b then evE τ Φ o σ k else k (.tup []) [])else(bif b then k (.tup []) []else evE τ Φ o σ k)
    |.tup []=>k (.tup []) []
    |_=>none
def ParD (τ:TypeId->Option TI)(Φ:FuncId->Option (Spec N))(ops:List Oper)(o:Oper)(σ:St N)(s:Slot N)(ad:List (Nat×Blk N)):Prop:=
 ∀σ':St N,AgreeG ops o σ σ'->(∀p∈ad,look σ'.own p.1=none)->∀{β':Type} (k':KK N β'),q0v.drawOne τ Φ ops σ' o k'=k' s ad
theorem q4z (F:Fits P N τ){Φ:FuncId->Option (Spec N)}(hΦ:∀f S,Φ f=some S->Good P (f%1000000) S){ops:List Oper}{i:Nat}{o:Oper}(hi:ops[i]?=some o){σ:St N}{k:KK N β}{r:β}(h:q0v.drawOne τ Φ ops σ o k=some r):
  ∃s ad,k s ad=some r/\(∀p∈ad,look σ.own p.1=none)/\q5v P ops i o σ ⟨o.dst,s,ad⟩/\ParD τ Φ ops o σ s ad:=by
 have hoi:(ops.toArray)[i]?=some o:=by rw[List.getElem?_toArray];exact hi
 have run:∀{k:KK N β},evE τ Φ o σ k=some r->(∀(σ':St N),AgreeG ops o σ σ'->∀io w0 a w,Rel io w0 σ' a w->Region.wanted o (yielded ops.toArray a.tmps)=true)->(∀(σ':St N),AgreeG ops o σ σ'->∀{β':Type} (k':KK N β'),q0v.drawOne τ Φ ops σ' o k'=evE τ Φ o σ' k')->∃s ad,k s ad=some r/\(∀p∈ad,look σ.own p.1=none)/\q5v P ops i o σ ⟨o.dst,s,ad⟩/\ParD τ Φ ops o σ s ad:=by
  intro k hk hw hdr
  obtain⟨s,ad,h1,h2,h3⟩:=qxa F hΦ hk
  refine⟨s,ad,h1,h2,⟨rfl,fun σ' hA hf io w0 a w K Q hr hK=>?_⟩,fun σ' hA hf {β'} k'=>(hdr σ' hA k').trans ((h3 σ' ⟨fun t ht=>hA.regs t (mA.2 (.inr ht)),hA.sub⟩ hf).2 k')⟩
  unfold wpOp
  simp only[hoi]
  rw[if_pos (hw σ' hA io w0 a w hr)]
  exact .inl ((h3 σ' ⟨fun t ht=>hA.regs t (mA.2 (.inr ht)),hA.sub⟩ hf).1 io w0 a w K Q hr hK)
 have skip:∀{k:KK N β},k (.tup []) []=some r->(∀(σ':St N),AgreeG ops o σ σ'->∀io w0 a w,Rel io w0 σ' a w->Region.wanted o (yielded ops.toArray a.tmps)=false)->(∀(σ':St N),AgreeG ops o σ σ'->∀{β':Type} (k':KK N β'),q0v.drawOne τ Φ ops σ' o k'=k' (.tup []) [])->∃s ad,k s ad=some r/\(∀p∈ad,look σ.own p.1=none)/\q5v P ops i o σ ⟨o.dst,s,ad⟩/\ParD τ Φ ops o σ s ad:=by
  intro k hk hw hdr
  refine⟨_,_,hk,(fun p hp=>by cases hp),⟨rfl,fun σ' hA hf io w0 a w K Q hr hK=>?_⟩,fun σ' hA hf {β'} k'=>hdr σ' hA k'⟩
  unfold wpOp
  simp only[hoi]
  rw[if_neg (by rw[hw σ' hA io w0 a w hr];simp)]
  exact hK _ _ (hr.skip o.dst)
 unfold q0v.drawOne at h
 split at h
 ·rename_i hg
  exact run h (fun σ' hA io w0 a w hr=>by simp[Region.wanted,hg]) (fun σ' hA {β'} k'=>by simp only[q0v.drawOne,hg])
 ·rename_i g want hg
  have hW:∀a:Act,Region.wanted o (yielded ops.toArray a.tmps)=(yielded ops.toArray a.tmps g==some want):=fun a=>by simp[Region.wanted,hg]
  have hy:∀a:Act,yielded ops.toArray a.tmps g=match(q52 ops g).bind (a.tmps[·]?)with
    |some (.bool b)=>some b
    |_=>none:=by
   intro a
   unfold yielded
   rw[q4u]
   rfl
  split at h
  ·rename_i hgr
   refine skip h (fun σ' hA io w0 a w hr=>?_) (fun σ' hA {β'} k'=>by simp only[q0v.drawOne,hg,hgr])
   rw[hW,hy,hgr]
   rfl
  ·rename_i d hgr
   have hd:d∈qg8 ops o:=mA.2 (.inl (by simp[qzq,hg,hgr]))
   split at h
   ·rename_i b hb
    have hyb:∀(σ':St N),AgreeG ops o σ σ'->∀io w0 a w,Rel io w0 σ' a w->yielded ops.toArray a.tmps g=some b:=by
     rintro σ' hA io w0 a w ⟨E,hrE⟩
     obtain⟨hv,hlt⟩:=q91 hrE ((hA.regs d hd).trans hb) (by simp)
     have hv:a.tmps.getD d undef=.bool b:=hv
     rw[hy,hgr]
     simp only[oB]
     rw[Array.getD_eq_getD_getElem?,Array.getElem?_eq_getElem hlt]at hv
     rw[Array.getElem?_eq_getElem hlt]
     simp only[Option.getD_some]at hv
     rw[hv]
    cases want with
    |true=>
     simp only[cT]at h
     cases b with
     |true=>exact run h (fun σ' hA io w0 a w hr=>by rw[hW,hyb σ' hA io w0 a w hr];rfl) (fun σ' hA {β'} k'=>by simp only[q0v.drawOne,hg,hgr,(hA.regs d hd).trans hb,cT,cF])
     |false=>exact skip h (fun σ' hA io w0 a w hr=>by rw[hW,hyb σ' hA io w0 a w hr];rfl) (fun σ' hA {β'} k'=>by simp only[q0v.drawOne,hg,hgr,(hA.regs d hd).trans hb,cT,cF])
    |false=>
     simp only[cF]at h
     cases b with
     |true=>exact skip h (fun σ' hA io w0 a w hr=>by rw[hW,hyb σ' hA io w0 a w hr];rfl) (fun σ' hA {β'} k'=>by simp only[q0v.drawOne,hg,hgr,(hA.regs d hd).trans hb,cT,cF])
     |false=>exact run h (fun σ' hA io w0 a w hr=>by rw[hW,hyb σ' hA io w0 a w hr];rfl) (fun σ' hA {β'} k'=>by simp only[q0v.drawOne,hg,hgr,(hA.regs d hd).trans hb,cT,cF])
   ·rename_i hb
    refine skip h (fun σ' hA io w0 a w hr=>?_) (fun σ' hA {β'} k'=>by simp only[q0v.drawOne,hg,hgr,(hA.regs d hd).trans hb])
    obtain⟨E,hrE⟩:=hr
    obtain⟨⟨vs,hv,hl,_⟩,hlt⟩:=q91 hrE ((hA.regs d hd).trans hb) (by simp)
    rw[hW,hy,hgr]
    simp only[oB]
    rw[Array.getD_eq_getD_getElem?,Array.getElem?_eq_getElem hlt]at hv
    rw[Array.getElem?_eq_getElem hlt]
    simp only[Option.getD_some]at hv
    rw[hv]
    rfl
   ·cases h
/-! Any order. -/
structure DrawOk (ops:List Oper) (m:Nat):Prop where
 fwd:∀i,i<ops.length->∀k∈q3b ops i,k<i
 uses:∀i j o o',i<m->j<m->ops[i]?=some o->ops[j]?=some o'->∀d,o'.dst=some d->d∈qg8 ops o->i=j\/j∈clo ops ops.length i\/i∈clo ops ops.length j
theorem q6p {ops:List Oper}{i k:Nat}:k∈q3b ops i<->∃o,ops[i]?=some o/\∃e∈o.after,Region.binds .any e=true/\e.on=k:=by
 unfold q3b
 cases h:ops[i]? with
 |none=>simp
 |some o=>simp[List.mem_map,List.mem_filter,and_assoc]
structure Inv (io:Io) (w0:World) (ops:List Oper) (m:Nat) (σ0:St N) (eff:Nat->Eff N) (listed:Array Bool) (seq:List Nat) (a:Act) (w:World):Prop where
 head:HeadInv .any ops.toArray m listed
 mem:∀j,j<ops.length->(listed.getD j false=true<->j∈seq)
 lt:∀j∈seq,j<m
 nodup:seq.Nodup
 rel:Rel io w0 (sq σ0 eff seq) a w
theorem qj0:∀(m:Nat) (l:List Nat),(∀i,i<m->i∈l)->m<=l.length
 |0,l,_=>Nat.zero_le _
 |m+1,l,h=>by
  have h1:m∈l:=h m (by omega)
  have h2:=qj0 m (l.erase m) (fun i hi=>(List.mem_erase_of_ne (by omega)).2 (h i (by omega)))
  rw[List.length_erase_of_mem h1]at h2
  have:=List.length_pos_of_mem h1
  omega
theorem q6n {listed:Array Bool}{i:Nat}(hi:i<listed.size):listed.getD i true=listed.getD i false:=by
 simp[hi]
theorem qcm {ops:List Oper}{m g:Nat}{σ0:St N}{eff:Nat->Eff N}{io:Io}{w0:World}{Q:Exit->Act->World->Prop}(hm:m<=ops.length)(hD:DrawOk ops m)(hE:EffsOk σ0 eff m)
  (hH:∀i,i<m->∃o,ops[i]?=some o/\q5v P ops i o (sq σ0 eff (clo ops ops.length i)) (eff i))
  (htail:m<ops.length->Region.sinkB .any ops.toArray m=true/\Region.chainB .any ops.toArray m=true)
  (hend:∀listed seq a w,Inv io w0 ops m σ0 eff listed seq a w->seq.length=m->wpAny P .any ops.toArray Q g listed a w):
  ∀(f:Nat) (listed:Array Bool) (seq:List Nat) (a:Act) (w:World),f+seq.length=m->Inv io w0 ops m σ0 eff listed seq a w->wpAny P .any ops.toArray Q (f+g) listed a w
 |0,listed,seq,a,w,hf,hI=>by
  rw[Nat.zero_add]
  exact hend listed seq a w hI (by omega)
 | f + 1,listed,seq,a,w,hf,hI=>by
  have hsz:listed.size=ops.length:=by have:=hI.head.size;simpa using this
  -- some operation of the head is open
  obtain⟨i0,hi0,hun0,hpre0⟩:∃i,i<m/\listed.getD i false=false/\∀k,k<i->listed.getD k false=true:=by
   have hex:∃i,i<m/\listed.getD i false=false:=by
    apply Classical.byContradiction
    intro hno
    have hall:∀i,i<m->i∈seq:=fun i hi=>by
     rw[<-hI.mem i (by omega)]
     cases h:listed.getD i false with
     |true=>rfl
     |false=>exact absurd ⟨i,hi,h⟩ hno
    have:=qj0 m seq hall
    omega
   obtain⟨i,hi⟩:=hex
   induction i using Nat.strongRecOn with
   | _ i ih=>
    by_cases h:∃k,k<i/\listed.getD k false=false
    ·obtain⟨k,hk,hk2⟩:=h
     exact ih k hk ⟨by omega,hk2⟩
    ·refine⟨i,hi.1,hi.2,fun k hk=>?_⟩
     cases h2:listed.getD k false with
     |true=>rfl
     |false=>exact absurd ⟨k,hk,h2⟩ h
  have hi0s:i0<listed.size:=by omega
  have hready0:i0∈Region.ready .any ops.toArray listed:=by
   rw[mem_ready]
   refine⟨by rw[q6n hi0s];exact hun0,?_⟩
   have hlt:i0<ops.length:=by omega
   refine⟨ops[i0],by simp[hlt],fun e he hb=>?_⟩
   exact hpre0 _ (hD.fwd i0 hlt e.on (q6p.2 ⟨_,by simp[hlt],e,he,hb,rfl⟩))
  rw[show f+1+g=(f+g)+1 from by omega]
  refine⟨(fun h0=>by rw[h0]at hready0;cases hready0),fun i hi=>?_⟩
  obtain⟨hun,oi,hoi,hall⟩:=mem_ready.1 hi
  have hoi':ops[i]?=some oi:=by rw[List.getElem?_toArray]at hoi;exact hoi
  have hilt:i<ops.length:=(List.getElem?_eq_some_iff.1 hoi').1
  have him:i<m:=by
   rcases Nat.lt_or_ge i m with h|h
   ·exact h
   ·have hml:m<ops.length:=by omega
    obtain⟨hs,hc⟩:=htail hml
    exact absurd hi (tail_waits hs hc (by simpa using hml) hI.head (m-i0) i0 rfl hi0 (by rw[q6n hi0s];exact hun0) i h)
  have hins:i∉seq:=fun hm'=>by
   have:=(hI.mem i hilt).2 hm'
   rw[<-q6n (by omega)]at this
   rw[this]at hun
   cases hun
  have hclosed:∀j,j∈seq->∀k∈q3b ops j,k∈seq:=by
   intro j hj k hk
   obtain⟨oj,hoj,e,he,hb,rfl⟩:=q6p.1 hk
   have hjl:j<ops.length:=(List.getElem?_eq_some_iff.1 hoj).1
   have h1:=hI.head.closed j oj (by rw[List.getElem?_toArray];exact hoj) ((hI.mem j hjl).2 hj) e he hb
   exact(hI.mem e.on (Nat.lt_trans (hD.fwd j hjl e.on hk) hjl)).1 h1
  have hpreds:∀k∈q3b ops i,k∈seq:=by
   intro k hk
   obtain⟨oj,hoj,e,he,hb,rfl⟩:=q6p.1 hk
   have:oj=oi:=Option.some.inj (hoj.symm.trans hoi')
   subst this
   exact(hI.mem e.on (Nat.lt_trans (hD.fwd i hilt e.on hk) hilt)).1 (hall e he hb)
  have hclo:∀k∈clo ops ops.length i,k∈seq:=q80 (S:=fun k=>k∈seq) hclosed _ i hpreds
  have hcloj:∀j∈seq,∀k∈clo ops ops.length j,k∈seq:=fun j hj=>q80 (S:=fun k=>k∈seq) hclosed _ j (hclosed j hj)
  have hback:∀j,j<ops.length->∀k∈clo ops ops.length j,k<j:=fun j hj=>q80 (S:=fun k=>k<j) (fun k hk l hl=>Nat.lt_trans (hD.fwd k (by omega) l hl) hk) _ j (hD.fwd j hj)
  have hclom:∀k∈clo ops ops.length i,k<m:=fun k hk=>Nat.lt_trans (hback i hilt k hk) him
  obtain⟨o,ho,hdst,hop⟩:=hH i him
  have:o=oi:=Option.some.inj (ho.symm.trans hoi')
  subst this
  have hA:AgreeG ops o (sq σ0 eff (clo ops ops.length i)) (sq σ0 eff seq):=by
   refine⟨fun t ht=>?_,fun id b hb=>?_,by rw[q3w,q3w]⟩
   ·have r1:=qlr hE (t:=t) hI.lt
    have r2:=qlr hE (t:=t) hclom
    by_cases hx:∃j,j<m/\(eff j).dst=some t
    ·obtain⟨j,hj,hjd⟩:=hx
     obtain⟨oj,hoj,hdj,_⟩:=hH j hj
     by_cases hjs:j∈seq
     ·rw[r1.1 j hjs hjd]
      by_cases hjc:j∈clo ops ops.length i
      ·rw[r2.1 j hjc hjd]
      ·exfalso
       rcases hD.uses i j o oj him hj ho hoj t (by rw[<-hdj];exact hjd) ht with h|h|h
       ·subst h;exact hins hjs
       ·exact hjc h
       ·exact hins (hcloj j hjs i h)
     ·have hjc:j∉clo ops ops.length i:=fun h=>hjs (hclo j h)
      have u:∀(L:List Nat),(∀k∈L,k<m)->j∉L->∀k∈L,(eff k).dst≠some t:=fun L hL hjL k hk hkd=>hjL (by rw[hE.one j k hj (hL k hk) t hjd hkd];exact hk)
      rw[r1.2 (u seq hI.lt hjs),r2.2 (u _ hclom hjc)]
    ·have u:∀(L:List Nat),(∀k∈L,k<m)->∀k∈L,(eff k).dst≠some t:=fun L hL k hk hkd=>hx ⟨k,hL k hk,hkd⟩
     rw[r1.2 (u seq hI.lt),r2.2 (u _ hclom)]
   ·have r1:=qha hE (id:=id) hI.lt
    have r2:=qha hE (id:=id) hclom
    by_cases hx:∃j∈clo ops ops.length i,∃b',look (eff j).ad id=some b'
    ·obtain⟨j,hj,b',hb'⟩:=hx
     rw[r2.1 j hj b' hb']at hb
     rw[r1.1 j (hclo j hj) b' hb']
     exact hb
    ·have hn:∀j∈clo ops ops.length i,look (eff j).ad id=none:=fun j hj=>by
      cases h:look (eff j).ad id with
      |none=>rfl
      |some b'=>exact absurd ⟨j,hj,b',h⟩ hx
     rw[r2.2 hn]at hb
     have hn1:∀j∈seq,look (eff j).ad id=none:=fun j hj=>by
      cases h:look (eff j).ad id with
      |none=>rfl
      |some b'=>
       have:=hE.fresh j (hI.lt j hj) id b' h
       rw[hb]at this
       cases this
     rw[r1.2 hn1]
     exact hb
  have hfr:∀p∈(eff i).ad,look (sq σ0 eff seq).own p.1=none:=by
   intro p hp
   have hsome:∃b,look (eff i).ad p.1=some b:=look_of_mem hp
   obtain⟨b,hb⟩:=hsome
   have r1:=qha hE (id:=p.1) hI.lt
   rw[r1.2 (fun j hj=>by
    cases h:look (eff j).ad p.1 with
    |none=>rfl
    |some b'=>exact absurd (hE.ids i j him (hI.lt j hj) p.1 b b' hb h) (fun e=>hins (e▸hj)))]
   exact hE.fresh i him p.1 b hb
  refine hop (sq σ0 eff seq) hA hfr io w0 a w _ _ hI.rel (fun a' w' hr=>?_)
  refine qcm hm hD hE hH htail hend f (listed.setIfInBounds i true) (i::seq) a' w' (by simp only[lC];omega) ⟨hI.head.set hi him,fun j hj=>?_,fun j hj=>?_,List.nodup_cons.2 ⟨hins,hI.nodup⟩,hr⟩
  ·by_cases hij:i=j
   ·subst hij
    simp[hsz,hj]
   ·rw[getD_set_ne false hij,hI.mem j hj,List.mem_cons]
    exact⟨.inr,fun h=>h.resolve_left (fun e=>hij e.symm)⟩
  ·rcases List.mem_cons.1 hj with rfl|hj
   ·exact him
   ·exact hI.lt j hj
where
 look_of_mem {β:Type}:∀{l:List (Nat×β)} {p:Nat×β},p∈l->∃b,look l p.1=some b
  |[],p,h=>by cases h
  | (k,v)::r,p,h=>by
   unfold look
   cases hk:(k==p.1)with
   |true=>exact⟨v,rfl⟩
   |false=>
    rcases List.mem_cons.1 h with rfl|h
    ·simp at hk
    ·exact look_of_mem h
end Go.Eng

set_option linter.unusedVariables false
set_option linter.unusedSimpArgs false
namespace Go.Eng
variable {N:Names} {P:Program} {τ:TypeId->Option TI} {β:Type}
def isE (o:Oper):Bool:=match o.op with
 |.move _=>true
 |.assign _=>true
 |.load _ _=>true
 |.nilCheck _=>true
 |.binOp .. =>true
 |.unOp .. =>true
 |.convert .. =>true
 |.slice .. =>true
 |.pick .. =>true
 |.alloc _=>true
 |.build .. =>true
 |.buildSlice .. =>true
 |.makeSlice .. =>true
 |.fieldAddr .. =>true
 |.field .. =>true
 |.indexAddr .. =>true
 |.index .. =>true
 |.extract .. =>true
 |.call c=>match c.callee with
  |.value _=>true
  |.builtin .len=>true
  |.builtin .min=>true
  |.builtin .max=>true
  |_=>false
 |_=>false
def q79:List Oper->Nat
 |[]=>0
 |o::r=>bif isE o then q79 r+1 else 0
def q7o (f:Nat->Bool):Nat->Bool
 |0=>true
 |n+1=>f n&&q7o f n
theorem q10 {f:Nat->Bool}:∀{n:Nat},q7o f n=true->∀i,i<n->f i=true
 |0,_,i,hi=>by omega
 | n+1,h,i,hi=>by
  simp only[q7o,Bool.and_eq_true]at h
  rcases Nat.lt_or_ge i n with h'|h'
  ·exact q10 h.2 i h'
  ·rw[show i=n from by omega]
   exact h.1
def z14k (ops:List Oper):Bool:=q7o (fun i=>(q3b ops i).all fun k=>Nat.blt k i) ops.length
def z10d (ops:List Oper)(m:Nat):Bool:=q7o (fun i=>q7o (fun j=>match ops[i]?,ops[j]? with
 |some o,some o'=>match o'.dst with
  |some d=>!(qg8 ops o).contains d||(Nat.beq i j||((clo ops ops.length i).contains j||(clo ops ops.length j).contains i))
  |none=>true
 |_,_=>true) m) m
def qbr (n m:Nat):Array Bool:=(List.replicate m true++List.replicate (n-m) false).toArray
def q67 (ops:List Oper)(m:Nat):Bool:=
 z14k ops&&z10d ops m&&(Nat.beq m ops.length||(Region.sinkB .any ops.toArray m&&Region.chainB .any ops.toArray m))&&Region.seqB .any ops.toArray (ops.length-m) m (qbr ops.length m)
def q69:List (Eff N)->List Nat
 |[]=>[]
 |e::r=>match e.dst with
  |some d=>d::q69 r
  |none=>q69 r
def qk4:List (Eff N)->List Nat
 |[]=>[]
 |e::r=>e.ad.map (·.1)++qk4 r
def qmd (σ0:St N)(effs:List (Eff N)):Bool:=
 (q69 effs).all (fun d=>Nat.blt d σ0.regs.length)&&q3g (q69 effs)&&q3g (qk4 effs)&&q26 σ0.own (qk4 effs)
def q3e:Nat->List Nat
 |0=>[]
 |n+1=>n::q3e n
def q0q (effs:List (Eff N))(j:Nat):Eff N:=effs.getD j ⟨none,.tup [],[]⟩
def q84 (τ:TypeId->Option TI)(Φ:FuncId->Option (Spec N))(ops:List Oper)(σ0:St N):List Oper->List (Eff N)->St N->(List (Eff N)->Option β)->Option β
 |[],effs,_,k=>k effs
 |o::rest,effs,cur,k=>
  q0v.drawOne τ Φ ops (bif Nat.beq (clo ops ops.length effs.length).length effs.length then cur else sq σ0 (q0q effs) (clo ops ops.length effs.length)) o fun s ad=>qh9 (qse effs.length ops) s fun s=>q84 τ Φ ops σ0 rest (effs++[⟨o.dst,s,ad⟩]) (q3n cur ⟨o.dst,s,ad⟩) k
def qdr (τ:TypeId->Option TI)(Φ:FuncId->Option (Spec N))(ops:List Oper)(m:Nat)(σ0:St N)(k:St N->Option β):Option β:=
 bif q67 ops (m)then
  q84 τ Φ ops σ0 (ops.take (m)) [] σ0 fun effs=>
   bif qmd σ0 effs then q3p τ Φ ops (ops.drop (m)) (sq σ0 (q0q effs) (q3e (m))) k else none
 else none
theorem q20 {n i:Nat}:i∈q3e n<->i<n:=by
 induction n with
 |zero=>simp[q3e]
 |succ n ih=>simp only[q3e,List.mem_cons,ih];omega
def qe2 (ops:List Oper):Nat->Nat
 |0=>0
 |t+1=>bif Nat.beq (clo ops ops.length t).length t then qe2 ops t else t+1
def qaq (ops:List Oper):Nat:=Nat.min (q79 ops) (qe2 ops ops.length)
theorem qc3:∀(ops:List Oper),q79 ops<=ops.length
 |[]=>nR _
 |o::r=>by
  unfold q79
  cases isE o with
  |true=>simpa using qc3 r
  |false=>simp
theorem qel {ops:List Oper}{m:Nat}(h1:z14k ops=true)(h2:z10d ops m=true):DrawOk ops m:=by
 refine⟨fun i hi k hk=>?_,fun i j o o' hi hj ho ho' d hd hu=>?_⟩
 ·have:=q10 h1 i hi
  exact Nat.le_of_ble_eq_true (List.all_eq_true.1 this k hk)
 ·have:=q10 (q10 h2 i hi) j hj
  simp only[ho,ho',hd,Bool.or_eq_true,Bool.not_eq_true']at this
  rcases this with h|h|h|h
  ·exact absurd hu (q07 h)
  ·exact .inl (Nat.eq_of_beq_eq_true h)
  ·exact .inr (.inl (List.contains_iff_mem.1 h))
  ·exact .inr (.inr (List.contains_iff_mem.1 h))
theorem q8m {α:Type}{f:α->List Nat}:∀{l:List α},(l.flatMap f).Nodup->∀(i j:Nat) x y,l[i]?=some x->l[j]?=some y->∀k,k∈f x->k∈f y->i=j
 |[],_,i,j,x,y,hi,hj,k,hx,hy=>by simp at hi
 | a::l,h,i,j,x,y,hi,hj,k,hx,hy=>by
  rw[List.flatMap_cons,List.nodup_append]at h
  cases i with
  | zero=>
   simp only[List.getElem?_cons_zero,Option.some.injEq]at hi
   subst hi
   cases j with
   |zero=>rfl
   |succ j=>
    have hj:l[j]?=some y:=by simpa using hj
    exact absurd rfl (h.2.2 k hx k (List.mem_flatMap.2 ⟨y,List.mem_of_getElem? hj,hy⟩))
  | succ i=>
   have hi:l[i]?=some x:=by simpa using hi
   cases j with
   |zero=>
    simp only[List.getElem?_cons_zero,Option.some.injEq]at hj
    subst hj
    exact absurd rfl (h.2.2 k hy k (List.mem_flatMap.2 ⟨x,List.mem_of_getElem? hi,hx⟩))
   |succ j=>
    have hj:l[j]?=some y:=by simpa using hj
    rw[q8m h.2.1 i j x y hi hj k hx hy]
theorem q8v:∀(effs:List (Eff N)),q69 effs=effs.flatMap (fun e=>e.dst.toList)
 |[]=>rfl
 |e::r=>by
  unfold q69
  cases h:e.dst<;>simp[List.flatMap_cons,q8v r,h]
theorem qk5:∀(effs:List (Eff N)),qk4 effs=effs.flatMap (fun e=>e.ad.map (·.1))
 |[]=>rfl
 |e::r=>by simp[qk4,List.flatMap_cons,qk5 r]
theorem q2q {effs:List (Eff N)}{j:Nat}(h:j<effs.length):effs[j]?=some (q0q effs j):=by
 unfold q0q
 rw[gQ,gE h]
 rfl
theorem qt0 {σ0:St N}{effs:List (Eff N)}(h:qmd σ0 effs=true):EffsOk σ0 (q0q effs) effs.length:=by
 simp only[qmd,Bool.and_eq_true]at h
 obtain⟨⟨⟨h1,h2⟩,h3⟩,h4⟩:=h
 have h2:=q1u h2
 have h3:=q1u h3
 have h4:=q19 h4
 rw[q8v]at h1 h2
 rw[qk5]at h3 h4
 refine⟨fun j hj d hd=>?_,fun i j hi hj d h5 h6=>?_,fun i j hi hj id b b' h5 h6=>?_,fun j hj id b hb=>?_⟩
 ·exact Nat.le_of_ble_eq_true (List.all_eq_true.1 h1 d (List.mem_flatMap.2 ⟨_,List.mem_of_getElem? (q2q hj),by rw[hd];simp⟩))
 ·exact q8m h2 i j _ _ (q2q hi) (q2q hj) d (by rw[h5];simp) (by rw[h6];simp)
 ·exact q8m h3 i j _ _ (q2q hi) (q2q hj) id (List.mem_map.2 ⟨_,q3t h5,rfl⟩) (List.mem_map.2 ⟨_,q3t h6,rfl⟩)
 ·exact h4 id (List.mem_flatMap.2 ⟨_,List.mem_of_getElem? (q2q hj),List.mem_map.2 ⟨_,q3t hb,rfl⟩⟩)
theorem q7h {σ0:St N}{eff eff':Nat->Eff N}:∀{L:List Nat},(∀j∈L,eff j=eff' j)->sq σ0 eff L=sq σ0 eff' L
 |[],_=>rfl
 |j::L,h=>by
  rw[sq,sq,h j mS,q7h (fun k hk=>h k (mC _ hk))]
theorem q9p (m:Nat):∀n,(q4d m n).length<=n
 |0=>nR _
 |n+1=>by
  unfold q4d
  cases m.testBit n with
  |true=>simpa using q9p m n
  |false=>exact Nat.le_succ_of_le (q9p m n)
theorem qco {m:Nat}:∀{n:Nat},(q4d m n).length=n->q4d m n=q3e n
 |0,_=>rfl
 | n+1,h=>by
  unfold q4d at h ⊢
  cases hb:m.testBit n with
  |true=>
   rw[hb,cT,lC]at h
   rw[cT,qco (Nat.succ.inj h)]
   rfl
  |false=>
   rw[hb,cF]at h
   have:=q9p m n
   omega
theorem qcr {τ:TypeId->Option TI}{Φ:FuncId->Option (Spec N)}{ops:List Oper}{σ0:St N}:∀(todo:List Oper) (effs:List (Eff N)) (cur:St N) (k:List (Eff N)->Option β),cur=sq σ0 (q0q effs) (q3e effs.length)->
  q84 τ Φ ops σ0 todo effs cur k=q0v τ Φ ops σ0 todo effs k
 |[],effs,cur,k,_=>rfl
 | o::rest,effs,cur,k,hc=>by
  unfold q84 q0v
  have e1:(bif Nat.beq (clo ops ops.length effs.length).length effs.length then cur else sq σ0 (q0q effs) (clo ops ops.length effs.length))=sq σ0 (q0q effs) (clo ops ops.length effs.length):=by
   cases hb:Nat.beq (clo ops ops.length effs.length).length effs.length with
   |false=>rfl
   |true=>
    rw[cT,hc]
    congr 1
    exact(qco (Nat.eq_of_beq_eq_true hb)).symm
  rw[e1]
  have e2:∀(s:Slot N) (ad:List (Nat×Blk N)),q84 τ Φ ops σ0 rest (effs++[⟨o.dst,s,ad⟩]) (q3n cur ⟨o.dst,s,ad⟩) k=q0v τ Φ ops σ0 rest (effs++[⟨o.dst,s,ad⟩]) k:=fun s ad=>by
   refine qcr rest _ _ k ?_
   rw[lA,List.length_singleton]
   have hnew:q0q (effs++[⟨o.dst,s,ad⟩]) effs.length=⟨o.dst,s,ad⟩:=by
    unfold q0q
    rw[gQ,List.getElem?_append_right (nR _)]
    simp
   show _=q3n (sq σ0 _ (q3e effs.length)) (q0q _ effs.length)
   rw[hnew,hc]
   congr 1
   refine q7h (fun j hj=>?_)
   have hj:=q20.1 hj
   unfold q0q
   rw[gQ,gQ,List.getElem?_append_left hj]
  simp only[e2]
  rfl
theorem q9d (F:Fits P N τ){Φ:FuncId->Option (Spec N)}(hΦ:∀f S,Φ f=some S->Good P (f%1000000) S){ops:List Oper}(hfwd:∀i,i<ops.length->∀k∈clo ops ops.length i,k<i){σ0:St N}{r:β}:∀(todo:List Oper) (effs:List (Eff N)) (k:List (Eff N)->Option β),
  (∀j,todo[j]?=none\/todo[j]?=ops[effs.length+j]?)->q0v τ Φ ops σ0 todo effs k=some r->
  (∀i,i<effs.length->∃o,ops[i]?=some o/\q5v P ops i o (sq σ0 (q0q effs) (clo ops ops.length i)) (q0q effs i))->
  ∃all:List (Eff N),k all=some r/\all.length=effs.length+todo.length/\∀i,i<all.length->∃o,ops[i]?=some o/\q5v P ops i o (sq σ0 (q0q all) (clo ops ops.length i)) (q0q all i)
 |[],effs,k,ht,h,hH=>⟨effs,h,rfl,hH⟩
 | o::rest,effs,k,ht,h,hH=>by
  have ho:ops[effs.length]?=some o:=by
   rcases ht 0 with h0|h0
   ·simp at h0
   ·simpa using h0.symm
  have hl:effs.length<ops.length:=(List.getElem?_eq_some_iff.1 ho).1
  unfold q0v at h
  obtain⟨s,ad,h1,h2,h3,_⟩:=q4z F hΦ ho h
  rw[qg3]at h1
  have hold:∀j,j<effs.length->q0q (effs++[⟨o.dst,s,ad⟩]) j=q0q effs j:=fun j hj=>by
   unfold q0q
   rw[gQ,gQ,List.getElem?_append_left hj]
  have hnew:q0q (effs++[⟨o.dst,s,ad⟩]) effs.length=⟨o.dst,s,ad⟩:=by
   unfold q0q
   rw[gQ,List.getElem?_append_right (nR _)]
   simp
  obtain⟨all,a1,a2,a3⟩:=q9d F hΦ hfwd rest (effs++[⟨o.dst,s,ad⟩]) k (fun j=>by
   have:=ht (j+1)
   simp only[List.getElem?_cons_succ]at this
   rcases this with h|h
   ·exact .inl h
   ·exact .inr (by rw[h];congr 1;simp;omega)) h1 (fun i hi=>by
   rw[lA,List.length_singleton]at hi
   rcases Nat.lt_or_ge i effs.length with h'|h'
   ·obtain⟨oi,o1,o2⟩:=hH i h'
    refine⟨oi,o1,?_⟩
    rw[hold i h',q7h (fun j hj=>hold j (Nat.lt_trans (hfwd i (by omega) j hj) h'))]
    exact o2
   ·have hi':i=effs.length:=by omega
    subst hi'
    refine⟨o,ho,?_⟩
    rw[hnew,q7h (fun j hj=>hold j (hfwd _ hl j hj))]
    exact h3)
  exact⟨all,a1,by rw[a2];simp;omega,a3⟩
theorem Ext.drawn (w:World):Ext w {w with drawn:=w.drawn+1}:=⟨rfl,rfl,rfl,nR _,fun _ _=>rfl⟩
theorem q4g (F:Fits P N τ){Φ:FuncId->Option (Spec N)}(hΦ:∀f S,Φ f=some S->Good P (f%1000000) S)(hm:P.follows .mixedOrders=true){ops:List Oper}{k:St N->Option β}{r:β}{io:Io}{w0:World}{Q:Exit->Act->World->Prop}
  (hk:∀σ a w,k σ=some r->Rel io w0 σ a w->Q .normal a w) {σ:St N} {m:Nat} (hm':m<=ops.length) (h:qdr τ Φ ops m σ k=some r) {a:Act} {w:World} (hr:Rel io w0 σ a w) {id:Nat}:(Code.region id ops.toArray true).wp P Q a w:=by
 unfold qdr at h
 simp only[qcr (σ0:=σ) _ _ _ _ (show σ=sq σ (q0q ([]:List (Eff N))) (q3e 0)from rfl)]at h
 obtain⟨hst,h⟩:=q02 h
 simp only[q67,Bool.and_eq_true,Bool.or_eq_true]at hst
 obtain⟨⟨⟨s1,s2⟩,s3⟩,s4⟩:=hst
 have hD:=qel s1 s2
 have hfwd:∀i,i<ops.length->∀k∈clo ops ops.length i,k<i:=fun j hj=>q80 (S:=fun k=>k<j) (fun k hk l hl=>Nat.lt_trans (hD.fwd k (by omega) l hl) hk) _ j (hD.fwd j hj)
 obtain⟨all,h1,h2,h3⟩:=q9d F hΦ hfwd (ops.take m) [] _ (fun j=>by
  rw[List.getElem?_take]
  split
  ·exact .inr (by simp)
  ·exact .inl rfl) h (fun i hi=>by cases hi)
 have hlen:all.length=m:=by rw[h2];simp;omega
 obtain⟨hc,h1⟩:=q02 h1
 have hE:=qt0 hc
 rw[hlen]at hE h3
 have hr':Rel io w0 σ a {w with drawn:=w.drawn+1}:=by
  obtain⟨E,hE'⟩:=hr
  exact⟨E,hE'.ext (Ext.drawn w)⟩
 refine wp_region_any hm ?_
 have hsz:ops.toArray.size=m+(ops.length-m):=by simp;omega
 rw[hsz]
 refine qcm (σ0:=σ) (eff:=q0q all) hm' hD hE h3 (fun hlt=>?_) ?_ m _ [] a _ (by simp) ⟨⟨by simp;omega,fun j oj _ hl=>(by rw[getD_replicate_false]at hl;cases hl),fun t _ ht=>getD_in (by simp at ht ⊢;omega) (getD_replicate_false _ _)⟩,fun j hj=>?_,(fun j hj=>by cases hj),List.nodup_nil,hr'⟩
 ·rcases s3 with s3|s3
  ·have:=Nat.eq_of_beq_eq_true s3
   omega
  ·exact s3
 ·-- the head is done
  intro listed seq a w hI hl
  have hall:∀j,j<m->j∈seq:=by
   intro j hj
   apply Classical.byContradiction
   intro hn
   have h5:∀m (l:List Nat),l.Nodup->(∀x∈l,x<m)->j<m->j∉l->l.length<m:=by
    intro m l hnd hlt hjm hjl
    have h6:(j::l).Nodup:=List.nodup_cons.2 ⟨hjl,hnd⟩
    have h7:=nodup_le m (j::l) h6 (fun x hx=>by
     rcases List.mem_cons.1 hx with rfl|hx
     ·exact hjm
     ·exact hlt x hx)
    simp only[lC]at h7
    omega
   have:=h5 _ seq hI.nodup hI.lt hj hn
   omega
  have hrel:Rel io w0 (sq σ (q0q all) (q3e m)) a w:=by
   obtain⟨E,hE'⟩:=hI.rel
   have hdl:∀j∈q3e m,j<m:=fun j hj=>q20.1 hj
   refine⟨E,hE'.same (by rw[q3w,q3w]) (fun t=>?_) (fun id=>?_)⟩
   ·have r1:=qlr hE (t:=t) hI.lt
    have r2:=qlr hE (t:=t) hdl
    by_cases hx:∃j,j<m/\(q0q all j).dst=some t
    ·obtain⟨j,hj,hjd⟩:=hx
     rw[r1.1 j (hall j hj) hjd,r2.1 j (q20.2 hj) hjd]
    ·rw[r1.2 (fun j hj hjd=>hx ⟨j,hI.lt j hj,hjd⟩),r2.2 (fun j hj hjd=>hx ⟨j,hdl j hj,hjd⟩)]
   ·have r1:=qha hE (id:=id) hI.lt
    have r2:=qha hE (id:=id) hdl
    by_cases hx:∃j,j<m/\∃b,look (q0q all j).ad id=some b
    ·obtain⟨j,hj,b,hb⟩:=hx
     rw[r1.1 j (hall j hj) b hb,r2.1 j (q20.2 hj) b hb]
    ·have hn:∀j,j<m->look (q0q all j).ad id=none:=fun j hj=>by
      cases h:look (q0q all j).ad id with
      |none=>rfl
      |some b=>exact absurd ⟨j,hj,b,h⟩ hx
     rw[r1.2 (fun j hj=>hn j (hI.lt j hj)),r2.2 (fun j hj=>hn j (hdl j hj))]
  have hlst:listed=qbr ops.length m:=by
   have hs1:listed.size=ops.length:=by have:=hI.head.size;simpa using this
   apply Array.ext
   ·rw[hs1];simp[qbr];omega
   ·intro j hj1 hj2
    have hj:j<ops.length:=by omega
    have hg:listed.getD j false=listed[j]:=by simp[hj1]
    have hmem:=hI.mem j hj
    rw[hg]at hmem
    rcases Nat.lt_or_ge j m with h'|h'
    ·rw[hmem.2 (hall j h')]
     simp[qbr,List.getElem_append,h']
    ·have:listed[j]=false:=by
      cases hv:listed[j]with
      |false=>rfl
      |true=>
       have:=hI.lt j (hmem.1 hv)
       omega
     rw[this]
     simp only[qbr,List.getElem_toArray,List.getElem_append,List.length_replicate]
     rw[dif_neg (by omega)]
     simp
  have hlst2:=q50 (ops:=ops) (Q:=Q) F hΦ hk (ops.drop m) _ h1 a w hrel
  have:=wpAny_of_seq (P:=P) (md:=.any) (ops:=ops.toArray) (Q':=Q) (ops.drop m) m listed a w (fun j=>by simp) (by rw[hlst,lD];exact s4) hlst2
  rw[lD]at this
  exact this
 ·rw[getD_replicate_false]
  simp
where
 nodup_le:∀(m:Nat) (l:List Nat),l.Nodup->(∀x∈l,x<m)->l.length<=m
  |0,l,_,h=>by
   cases l with
   |nil=>exact nR _
   |cons x r=>have:=h x mS;omega
  | m+1,l,hn,h=>by
   have h1:=nodup_le m (l.erase m) (hn.erase m) (fun x hx=>by
    have h2:=h x (List.mem_of_mem_erase hx)
    have h3:x≠m:=fun e=>by
     subst e
     exact(List.Nodup.not_mem_erase hn) hx
    omega)
   have h4:=List.length_erase_le (a:=m) (l:=l)
   by_cases hm:m∈l
   ·rw[List.length_erase_of_mem hm]at h1
    omega
   ·rw[List.erase_of_not_mem hm]at h1
    omega
end Go.Eng

set_option linter.unusedVariables false
set_option linter.unusedSimpArgs false
namespace Go.Eng
variable {N:Names} {P:Program} {τ:TypeId->Option TI} {β:Type}
inductive Lin (ops:List Oper):List Nat->Prop
 |nil:Lin ops []
 |cons {j:Nat} {L:List Nat}:(∀k∈clo ops ops.length j,k∈L)->j∉L->Lin ops L->Lin ops (j::L)
theorem Lin.closed {ops:List Oper}:∀{L:List Nat},Lin ops L->∀j∈L,∀k∈clo ops ops.length j,k∈L
 |_,.nil,j,hj=>by cases hj
 |_,.cons h1 h2 h3,j,hj=>by
  intro k hk
  rcases List.mem_cons.1 hj with rfl|hj
  ·exact mC _ (h1 k hk)
  ·exact mC _ (h3.closed j hj k hk)
theorem qlq {σ0:St N}{eff:Nat->Eff N}{id j:Nat}{b:Blk N}(hb:look (eff j).ad id=some b):∀{L:List Nat},j∈L->(∀i∈L,∀b',look (eff i).ad id=some b'->i=j)->look (sq σ0 eff L).own id=some b
 |[],hj,_=>by cases hj
 | i::L,hj,hu=>by
  have hr:look (sq σ0 eff (i::L)).own id=match look (eff i).ad id with
    |some b=>some b
    |none=>look (sq σ0 eff L).own id:=q2u _ _ _
  rw[hr]
  cases hi:look (eff i).ad id with
  |some b'=>
   have:=hu i mS b' hi
   subst this
   rw[hb]at hi
   exact hi.symm
  |none=>
   rcases List.mem_cons.1 hj with rfl|hj
   ·rw[hb]at hi;cases hi
   ·exact qlq hb hj (fun i hi=>hu i (mC _ hi))
theorem qns {σ0:St N}{eff:Nat->Eff N}{ops:List Oper}{id j:Nat}{b:Blk N}(hb:look (eff j).ad id=some b):∀{L:List Nat},Lin ops L->j∈L->(∀i∈L,∀b',look (eff i).ad id=some b'->i=j\/i∈clo ops ops.length j)->look (sq σ0 eff L).own id=some b
 |_,.nil,hj,_=>by cases hj
 | i ::L,.cons h1 h2 h3,hj,hu=>by
  have hr:look (sq σ0 eff (i::L)).own id=match look (eff i).ad id with
    |some b=>some b
    |none=>look (sq σ0 eff L).own id:=q2u _ _ _
  rw[hr]
  cases hi:look (eff i).ad id with
  | some b'=>
   rcases hu i mS b' hi with rfl|hc
   ·rw[hb]at hi
    exact hi.symm
   ·rcases List.mem_cons.1 hj with rfl|hj
    ·rw[hb]at hi
     exact hi.symm
    ·exact absurd (h3.closed j hj i hc) h2
  |none=>
   rcases List.mem_cons.1 hj with rfl|hj
   ·rw[hb]at hi;cases hi
   ·exact qns hb h3 hj (fun i hi=>hu i (mC _ hi))
theorem q7i {σ0:St N}{eff:Nat->Eff N}{id:Nat}:∀{L:List Nat},(∀i∈L,look (eff i).ad id=none)->look (sq σ0 eff L).own id=look σ0.own id
 |[],_=>rfl
 |i::L,hu=>by
  have hr:look (sq σ0 eff (i::L)).own id=match look (eff i).ad id with
    |some b=>some b
    |none=>look (sq σ0 eff L).own id:=q2u _ _ _
  rw[hr,hu i mS]
  exact q7i (fun i hi=>hu i (mC _ hi))
def q32 (o:Oper):Bool:=match o.op with
 |.store .. =>true
 |_=>false
def storeAt (ops:List Oper)(i:Nat):Bool:=match ops[i]? with
 |some o=>q32 o
 |none=>false
structure EffsW (ops:List Oper) (σ0:St N) (eff:Nat->Eff N) (m:Nat):Prop where
 dst:∀j,j<m->∀d,(eff j).dst=some d->d<σ0.regs.length
 one:∀i j,i<m->j<m->∀d,(eff i).dst=some d->(eff j).dst=some d->i=j
 ids:∀i j,i<m->j<m->∀id b b',look (eff i).ad id=some b->look (eff j).ad id=some b'->i=j\/i∈clo ops ops.length j\/j∈clo ops ops.length i
 fresh:∀j,j<m->storeAt ops j=false->∀id b,look (eff j).ad id=some b->look σ0.own id=none
theorem qg4 {ops:List Oper}{σ0:St N}{eff:Nat->Eff N}{m:Nat}(h:EffsW ops σ0 eff m){t:Nat}:∀{L:List Nat},(∀j∈L,j<m)->(∀j∈L,(eff j).dst=some t->(sq σ0 eff L).reg t=(eff j).s)/\((∀j∈L,(eff j).dst≠some t)->(sq σ0 eff L).reg t=σ0.reg t)
 |[],_=>⟨(fun j hj=>by cases hj),fun _=>rfl⟩
 | i::L,hL=>by
  have ih:=qg4 h (L:=L) (t:=t) (fun j hj=>hL j (mC _ hj))
  have hr:(sq σ0 eff (i::L)).reg t=if(eff i).dst=some t then(eff i).s else(sq σ0 eff L).reg t:=
   q6j (fun d hd=>by rw[q3w];exact h.dst i (hL i mS) d hd) t
  rw[hr]
  refine⟨fun j hj hd=>?_,fun hn=>?_⟩
  ·by_cases hi:(eff i).dst=some t
   ·rw[if_pos hi,h.one i j (hL i mS) (hL j hj) t hi hd]
   ·rw[if_neg hi]
    rcases List.mem_cons.1 hj with rfl|hj
    ·exact absurd hd hi
    ·exact ih.1 j hj hd
  ·rw[if_neg (hn i mS)]
   exact ih.2 (fun j hj=>hn j (mC _ hj))
structure Before (ops:List Oper) (m i:Nat) (seq:List Nat):Prop where
 lt:∀j∈seq,j<m
 lin:Lin ops seq
 nin:i∉seq
 clo:∀k∈clo ops ops.length i,k∈seq
def qaa (P:Program)(ops:List Oper)(m:Nat)(st:List Nat->St N)(i:Nat):Prop:=
 ∀seq,Before ops m i seq->∀io w0 a w (K:Act->World->Prop) (Q:Exit->Act->World->Prop),Rel io w0 (st seq) a w->(∀a' w',Rel io w0 (st (i::seq)) a' w'->K a' w')->wpOp P ops.toArray Q i K a w
structure InvW (io:Io) (w0:World) (ops:List Oper) (m:Nat) (st:List Nat->St N) (listed:Array Bool) (seq:List Nat) (a:Act) (w:World):Prop where
 head:HeadInv .any ops.toArray m listed
 mem:∀j,j<ops.length->(listed.getD j false=true<->j∈seq)
 lt:∀j∈seq,j<m
 lin:Lin ops seq
 nodup:seq.Nodup
 rel:Rel io w0 (st seq) a w
theorem qa6 {ops:List Oper}{m g:Nat}{st:List Nat->St N}{io:Io}{w0:World}{Q:Exit->Act->World->Prop}(hm:m<=ops.length)(hfwd:∀i,i<ops.length->∀k∈q3b ops i,k<i)
  (hH:∀i,i<m->qaa P ops m st i)
  (htail:m<ops.length->Region.sinkB .any ops.toArray m=true/\Region.chainB .any ops.toArray m=true)
  (hend:∀listed seq a w,InvW io w0 ops m st listed seq a w->seq.length=m->wpAny P .any ops.toArray Q g listed a w):
  ∀(f:Nat) (listed:Array Bool) (seq:List Nat) (a:Act) (w:World),f+seq.length=m->InvW io w0 ops m st listed seq a w->wpAny P .any ops.toArray Q (f+g) listed a w
 |0,listed,seq,a,w,hf,hI=>by
  rw[Nat.zero_add]
  exact hend listed seq a w hI (by omega)
 | f +1,listed,seq,a,w,hf,hI=>by
  have hsz:listed.size=ops.length:=by have:=hI.head.size;simpa using this
  obtain⟨i0,hi0,hun0,hpre0⟩:∃i,i<m/\listed.getD i false=false/\∀k,k<i->listed.getD k false=true:=by
   have hex:∃i,i<m/\listed.getD i false=false:=by
    apply Classical.byContradiction
    intro hno
    have hall:∀i,i<m->i∈seq:=fun i hi=>by
     rw[<-hI.mem i (by omega)]
     cases h:listed.getD i false with
     |true=>rfl
     |false=>exact absurd ⟨i,hi,h⟩ hno
    have:=qj0 m seq hall
    omega
   obtain⟨i,hi⟩:=hex
   induction i using Nat.strongRecOn with
   | _ i ih=>
    by_cases h:∃k,k<i/\listed.getD k false=false
    ·obtain⟨k,hk,hk2⟩:=h
     exact ih k hk ⟨by omega,hk2⟩
    ·refine⟨i,hi.1,hi.2,fun k hk=>?_⟩
     cases h2:listed.getD k false with
     |true=>rfl
     |false=>exact absurd ⟨k,hk,h2⟩ h
  have hi0s:i0<listed.size:=by omega
  have hready0:i0∈Region.ready .any ops.toArray listed:=by
   rw[mem_ready]
   refine⟨by rw[q6n hi0s];exact hun0,?_⟩
   have hlt:i0<ops.length:=by omega
   refine⟨ops[i0],by simp[hlt],fun e he hb=>?_⟩
   exact hpre0 _ (hfwd i0 hlt e.on (q6p.2 ⟨_,by simp[hlt],e,he,hb,rfl⟩))
  rw[show f+1+g=(f+g)+1 from by omega]
  refine⟨(fun h0=>by rw[h0]at hready0;cases hready0),fun i hi=>?_⟩
  obtain⟨hun,oi,hoi,hall⟩:=mem_ready.1 hi
  have hoi':ops[i]?=some oi:=by rw[List.getElem?_toArray]at hoi;exact hoi
  have hilt:i<ops.length:=(List.getElem?_eq_some_iff.1 hoi').1
  have him:i<m:=by
   rcases Nat.lt_or_ge i m with h|h
   ·exact h
   ·have hml:m<ops.length:=by omega
    obtain⟨hs,hc⟩:=htail hml
    exact absurd hi (tail_waits hs hc (by simpa using hml) hI.head (m-i0) i0 rfl hi0 (by rw[q6n hi0s];exact hun0) i h)
  have hins:i∉seq:=fun hm'=>by
   have:=(hI.mem i hilt).2 hm'
   rw[<-q6n (by omega)]at this
   rw[this]at hun
   cases hun
  have hclosed:∀j,j∈seq->∀k∈q3b ops j,k∈seq:=by
   intro j hj k hk
   obtain⟨oj,hoj,e,he,hb,rfl⟩:=q6p.1 hk
   have hjl:j<ops.length:=(List.getElem?_eq_some_iff.1 hoj).1
   have h1:=hI.head.closed j oj (by rw[List.getElem?_toArray];exact hoj) ((hI.mem j hjl).2 hj) e he hb
   exact(hI.mem e.on (Nat.lt_trans (hfwd j hjl e.on hk) hjl)).1 h1
  have hpreds:∀k∈q3b ops i,k∈seq:=by
   intro k hk
   obtain⟨oj,hoj,e,he,hb,rfl⟩:=q6p.1 hk
   have:oj=oi:=Option.some.inj (hoj.symm.trans hoi')
   subst this
   exact(hI.mem e.on (Nat.lt_trans (hfwd i hilt e.on hk) hilt)).1 (hall e he hb)
  have hclo:∀k∈clo ops ops.length i,k∈seq:=q80 (S:=fun k=>k∈seq) hclosed _ i hpreds
  refine hH i him seq ⟨hI.lt,hI.lin,hins,hclo⟩ io w0 a w _ _ hI.rel (fun a' w' hr=>?_)
  refine qa6 hm hfwd hH htail hend f (listed.setIfInBounds i true) (i::seq) a' w' (by simp only[lC];omega) ⟨hI.head.set hi him,fun j hj=>?_,fun j hj=>?_,.cons hclo hins hI.lin,List.nodup_cons.2 ⟨hins,hI.nodup⟩,hr⟩
  ·by_cases hij:i=j
   ·subst hij
    simp[hsz,hj]
   ·rw[getD_set_ne false hij,hI.mem j hj,List.mem_cons]
    exact⟨.inr,fun h=>h.resolve_left (fun e=>hij e.symm)⟩
  ·rcases List.mem_cons.1 hj with rfl|hj
   ·exact him
   ·exact hI.lt j hj
def qs2 (H:List Nat)(σ:St N):St N:={σ with own:=qbn H σ.own}
theorem qce {ops:List Oper}{m:Nat}{σ0:St N}{eff:Nat->Eff N}(hm:m<=ops.length)(hD:DrawOk ops m)(hE:EffsW ops σ0 eff m)(hdsts:∀j,j<m->∃o,ops[j]?=some o/\(eff j).dst=o.dst)
  {i:Nat} (him:i<m) {o:Oper} (ho:ops[i]?=some o) {seq:List Nat} (hB:Before ops m i seq):∀t∈qg8 ops o,(sq σ0 eff seq).reg t=(sq σ0 eff (clo ops ops.length i)).reg t:=by
 intro t ht
 have hilt:i<ops.length:=by omega
 have hback:∀j,j<ops.length->∀k∈clo ops ops.length j,k<j:=fun j hj=>q80 (S:=fun k=>k<j) (fun k hk l hl=>Nat.lt_trans (hD.fwd k (by omega) l hl) hk) _ j (hD.fwd j hj)
 have hclom:∀k∈clo ops ops.length i,k<m:=fun k hk=>Nat.lt_trans (hback i hilt k hk) him
 have hcloj:=hB.lin.closed
 have r1:=qg4 hE (t:=t) hB.lt
 have r2:=qg4 hE (t:=t) hclom
 by_cases hx:∃j,j<m/\(eff j).dst=some t
 ·obtain⟨j,hj,hjd⟩:=hx
  obtain⟨oj,hoj,hdj⟩:=hdsts j hj
  by_cases hjs:j∈seq
  ·rw[r1.1 j hjs hjd]
   by_cases hjc:j∈clo ops ops.length i
   ·rw[r2.1 j hjc hjd]
   ·exfalso
    rcases hD.uses i j o oj him hj ho hoj t (by rw[<-hdj];exact hjd) ht with h|h|h
    ·subst h;exact hB.nin hjs
    ·exact hjc h
    ·exact hB.nin (hcloj j hjs i h)
  ·have hjc:j∉clo ops ops.length i:=fun h=>hjs (hB.clo j h)
   have u:∀(L:List Nat),(∀k∈L,k<m)->j∉L->∀k∈L,(eff k).dst≠some t:=fun L hL hjL k hk hkd=>hjL (by rw[hE.one j k hj (hL k hk) t hjd hkd];exact hk)
   rw[r1.2 (u seq hB.lt hjs),r2.2 (u _ hclom hjc)]
 ·have u:∀(L:List Nat),(∀k∈L,k<m)->∀k∈L,(eff k).dst≠some t:=fun L hL k hk hkd=>hx ⟨k,hL k hk,hkd⟩
  rw[r1.2 (u seq hB.lt),r2.2 (u _ hclom)]
def qbp (ops:List Oper)(eff:Nat->Eff N)(m:Nat):Prop:=∀k j,k<m->j<k->∀id b b',look (eff k).ad id=some b->look (eff j).ad id=some b'->storeAt ops k=true/\storeAt ops j=false/\j∈clo ops ops.length k
theorem ql0 {ops:List Oper}{m:Nat}{σ0:St N}{eff:Nat->Eff N}(hE:EffsW ops σ0 eff m){i:Nat}{H:List Nat}
  (hH:∀k,k<m->storeAt ops k=true->i∉clo ops ops.length k->∀id b,look (eff k).ad id=some b->id∈H) (hshare:qbp ops eff m) {seq:List Nat} (hB:Before ops m i seq):
  ∀id b,id∉H->look (sq σ0 eff (clo ops ops.length i)).own id=some b->look (sq σ0 eff seq).own id=some b:=by
 intro id b hidH hb
 have hcloj:=hB.lin.closed
 -- who of the list touches id
 have ht:∀k∈seq,∀b,look (eff k).ad id=some b->storeAt ops k=false:=by
  intro k hk b hb
  cases hs:storeAt ops k with
  |false=>rfl
  |true=>exact absurd (hH k (hB.lt k hk) hs (fun hm=>hB.nin (hcloj k hk i hm)) id b hb) hidH
 have huniq:∀id j k,j<m->k<m->storeAt ops j=false->storeAt ops k=false->∀b b',look (eff j).ad id=some b->look (eff k).ad id=some b'->j=k:=by
  intro id j k hj hk hsj hsk b b' hb hb'
  rcases Nat.lt_trichotomy j k with e|e|e
  ·have:=(hshare k j hk e id b' b hb' hb).1
   rw[hsk]at this
   cases this
  ·exact e
  ·have:=(hshare j k hj e id b b' hb hb').1
   rw[hsj]at this
   cases this
 by_cases hx:∃k∈seq,∃b',look (eff k).ad id=some b'
 ·obtain⟨k,hk,b',hb'⟩:=hx
  have hsk:=ht k hk b' hb'
  have hon:∀j∈seq,∀b2,look (eff j).ad id=some b2->j=k:=fun j hj b2 hb2=>huniq id j k (hB.lt j hj) (hB.lt k hk) (ht j hj b2 hb2) hsk b2 b' hb2 hb'
  have hkc:k∈clo ops ops.length i:=by
   apply Classical.byContradiction
   intro hkc
   rw[q7i (fun j hj=>by
    cases h:look (eff j).ad id with
    |none=>rfl
    |some b2=>exact absurd (hon j (hB.clo j hj) b2 h▸hj) hkc)]at hb
   rw[hE.fresh k (hB.lt k hk) hsk id b' hb']at hb
   cases hb
  rw[qlq hb' hkc (fun j hj b2 hb2=>hon j (hB.clo j hj) b2 hb2)]at hb
  rw[qlq hb' hk hon]
  exact hb
 ·have hn:∀j∈seq,look (eff j).ad id=none:=fun j hj=>by
   cases h:look (eff j).ad id with
   |none=>rfl
   |some b'=>exact absurd ⟨j,hj,b',h⟩ hx
  rw[q7i (fun j hj=>hn j (hB.clo j hj))]at hb
  rw[q7i hn]
  exact hb
theorem qf7 {ops:List Oper}{m:Nat}{σ0:St N}{eff:Nat->Eff N}(hE:EffsW ops σ0 eff m){i:Nat}(him:i<m)(hsi:storeAt ops i=false)(hshare:qbp ops eff m){seq:List Nat}(hB:Before ops m i seq):
  ∀p∈(eff i).ad,look (sq σ0 eff seq).own p.1=none:=by
 intro p hp
 have hcloj:=hB.lin.closed
 obtain⟨b,hb⟩:=qcm.look_of_mem hp
 rw [q7i (fun j hj=>by
  cases h:look (eff j).ad p.1 with
  |none=>rfl
  | some b'=>
   rcases Nat.lt_trichotomy i j with e|e|e
   ·exact absurd (hcloj j hj i (hshare j i (hB.lt j hj) e p.1 b' b h hb).2.2) hB.nin
   ·exact absurd (e▸hj) hB.nin
   ·have:=(hshare i j him e p.1 b b' hb h).1
    rw[hsi]at this
    cases this)]
 exact hE.fresh i him hsi p.1 b hb
theorem qvv {ops:List Oper}{m:Nat}{σ0:St N}{eff:Nat->Eff N}(hm:m<=ops.length)(hD:DrawOk ops m)(hE:EffsW ops σ0 eff m)(hdsts:∀j,j<m->∃o,ops[j]?=some o/\(eff j).dst=o.dst)
  {i:Nat} (him:i<m) (hsi:storeAt ops i=false) {o:Oper} (ho:ops[i]?=some o) {H:List Nat} (hop:q5v P ops i o (qs2 H (sq σ0 eff (clo ops ops.length i))) (eff i))
  (hH:∀k,k<m->storeAt ops k=true->i∉clo ops ops.length k->∀id b,look (eff k).ad id=some b->id∈H) (hshare:qbp ops eff m):qaa P ops m (sq σ0 eff) i:=by
 intro seq hB io w0 a w K Q hrel hK
 refine hop.2 (sq σ0 eff seq) ⟨fun t ht=>qce hm hD hE hdsts him ho hB t ht,fun id b hb=>?_,by show(sq σ0 eff seq).regs.length=(sq σ0 eff (clo ops ops.length i)).regs.length;rw[q3w,q3w]⟩ (qf7 hE him hsi hshare hB) io w0 a w K Q hrel hK
 have hb:look (qbn H (sq σ0 eff (clo ops ops.length i)).own) id=some b:=hb
 rw[q5j]at hb
 split at hb
 ·cases hb
 ·rename_i hn
  exact ql0 hE hH hshare hB id b hn hb
/-! Nothing looks into id. -/
def Slot.bsL:Slot N->List Nat
 |.one r=>r.bs
 |.tup l=>l.flatMap RV.bs
structure NoId (id:Nat) (σ:St N):Prop where
 regs:∀s∈σ.regs,id∉s.bsL
 own:∀p∈σ.own,id∉p.2.bs
def qxy (id:Nat)(σ:St N):Bool:=σ.regs.all (fun s=>!s.bsL.contains id)&&σ.own.all (fun p=>!p.2.bs.contains id)
def qn7 (id:Nat)(e:Eff N):Bool:=!e.s.bsL.contains id&&e.ad.all (fun p=>!p.2.bs.contains id)
theorem qh0 {id:Nat}{σ:St N}(h:qxy id σ=true):NoId id σ:=by
 simp only[qxy,Bool.and_eq_true,List.all_eq_true,Bool.not_eq_true']at h
 exact⟨fun s hs=>q07 (h.1 s hs),fun p hp=>q07 (h.2 p hp)⟩
theorem qui {β:Type}{i:Nat}{v:β}{p:Nat×β}:∀{l:List (Nat×β)},p∈ins i v l->p=(i,v)\/p∈l
 |[],h=>by simpa[ins]using h
 | (k,u)::r,h=>by
  unfold ins at h
  cases h1:(i==k)with
  |true=>
   rw[h1,cT]at h
   rcases List.mem_cons.1 h with h|h
   ·exact .inl h
   ·exact .inr (mC _ h)
  | false=>
   rw[h1,cF]at h
   cases h2:Nat.blt i k with
   |true=>
    rw[h2,cT]at h
    rcases List.mem_cons.1 h with h|h
    ·exact .inl h
    ·exact .inr h
   | false=>
    rw[h2,cF]at h
    rcases List.mem_cons.1 h with h|h
    ·exact .inr (by rw[h];exact mS)
    ·rcases qui h with h|h
     ·exact .inl h
     ·exact .inr (mC _ h)
theorem qc8 {β:Type}{p:Nat×β}:∀{new l:List (Nat×β)},p∈q0d new l->p∈new\/p∈l
 |[],l,h=>.inr h
 | (i,v)::r,l,h=>by
  rcases qui (show p∈ins i v (q0d r l)from h)with h|h
  ·exact .inl (by rw[h];exact mS)
  ·rcases qc8 h with h|h
   ·exact .inl (mC _ h)
   ·exact .inr h
theorem qn8 {id:Nat}{σ:St N}{e:Eff N}(h:NoId id σ)(he:qn7 id e=true):NoId id (q3n σ e):=by
 simp only[qn7,Bool.and_eq_true,List.all_eq_true,Bool.not_eq_true']at he
 have hown:∀p∈q0d e.ad σ.own,id∉p.2.bs:=fun p hp=>by
  rcases qc8 hp with hp|hp
  ·exact q07 (he.2 p hp)
  ·exact h.own p hp
 unfold q3n
 cases hd:e.dst with
 |none=>exact⟨h.regs,hown⟩
 |some d=>
  refine⟨fun s hs=>?_,hown⟩
  rcases List.mem_or_eq_of_mem_set (show s∈σ.regs.set d e.s from hs)with hs|hs
  ·exact h.regs s hs
  ·rw[hs];exact q07 he.1
theorem qn9 {id m:Nat}{σ0:St N}{eff:Nat->Eff N}(h0:NoId id σ0)(he:∀j,j<m->qn7 id (eff j)=true):∀{L:List Nat},(∀j∈L,j<m)->NoId id (sq σ0 eff L)
 |[],_=>h0
 |j::L,hL=>qn8 (qn9 h0 he (fun k hk=>hL k (mC _ hk))) (he j (hL j mS))
theorem qrn {id:Nat}{s:Slot N}(h:id∉s.bsL):Slot.map (q7q id) s=s:=by
 have one:∀r:RV N,id∉r.bs->q7q id r=r:=fun r hr=>by
  unfold q7q
  rw[show r.bs.contains id=false from by
   cases hc:r.bs.contains id with
   |false=>rfl
   |true=>exact absurd (List.contains_iff_mem.1 hc) hr]
  rfl
 cases s with
 |one r=>simp only[Slot.map,one r h]
 |tup l=>
  simp only[Slot.map]
  congr 1
  rw[List.map_congr_left (g:=fun r=>r) (fun r hr=>one r (fun hm=>h (List.mem_flatMap.2 ⟨r,hr,hm⟩)))]
  simp
def q2a (τ:TypeId->Option TI)(σ:St N)(o:Oper)(k:KK N β):Option β:=
 match o.op with
 | .store t (.tmp d) y=>match o.guard with
  |some _=>none
  | none=>match o.dst with
   |some _=>none
   | none=>match σ.reg d with
    | .one (.bptr id 0)=>match look σ.own id with
     | some (.whole tb x0 [])=>match τ t with
      |some ⟨tv,_⟩=>bif decide (tv=tb)&&(!qc5 (ev σ y)&&!qcy (ev σ y))then match toDen ([]:List (Nat×Blk N)) tb (ev σ y)with
       |some (v,b)=>bif(q4l [] b).contains id then none else k (.tup []) [(id,.whole tb v (q4l [] b))]
       |none=>none
       else none
      |none=>none
     | some (.cells l)=>match τ t with
      | some ⟨tv,_⟩=>match toDen ([]:List (Nat×Blk N)) tv (ev σ y)with
       |some _=>match q1d ([]:List (Nat×Blk N)) tv (ev σ y)with
        |some vs=>bif Nat.beq vs.length l.length then bif(Blk.cells vs).bs.contains id then none else k (.tup []) [(id,.cells vs)]else none
        |none=>none
       |none=>none
      |none=>none
     |_=>none
    | .one (.optr id i off)=>match look σ.own id with
     | some (.row e ty xs bs p)=>match τ t with
      | some ⟨tv,_⟩=>match toDen ([]:List (Nat×Blk N)) tv (ev σ y)with
       |some (v,[])=>bif bs.contains id then none else match qlx ⟨tv,v⟩ 8 ty (xs.getD i (N.dflt ty)) off with
        |some x'=>k (.tup []) [(id,.row e ty (xs.set i x') bs p)]
        |none=>none
       |_=>none
      |none=>none
     |_=>none
    |_=>none
 |_=>none
theorem qvt {ops:List Oper}{m:Nat}{σ0:St N}{eff:Nat->Eff N}(hE:EffsW ops σ0 eff m){i:Nat}(him:i<m)
  (hEop:∀id b,look (eff i).ad id=some b->∀j,j<m->j≠i->∀b2,look (eff j).ad id=some b2->storeAt ops j=false/\j∈clo ops ops.length i)
  (hshare:∀i j,i<m->j<i->∀id b b',look (eff i).ad id=some b->look (eff j).ad id=some b'->storeAt ops i=true/\storeAt ops j=false/\j∈clo ops ops.length i) (hsi:storeAt ops i=true):
  ∀id b,look (eff i).ad id=some b->∀seq,Before ops m i seq->∀b0,look (sq σ0 eff (clo ops ops.length i)).own id=some b0->look (sq σ0 eff seq).own id=some b0:=by
 intro id b hb seq hB b0 hb0
 have hone:∀j,j<m->j≠i->∀b2,look (eff j).ad id=some b2->∀j',j'<m->j'≠i->∀b3,look (eff j').ad id=some b3->j'=j:=by
  intro j hj hji b2 hb2 j' hj' hji' b3 hb3
  have h5:=(hEop id b hb j hj hji b2 hb2).1
  have h6:=(hEop id b hb j' hj' hji' b3 hb3).1
  rcases Nat.lt_trichotomy j' j with e|e|e
  ·have:=(hshare j j' hj e id b2 b3 hb2 hb3).1
   rw[h5]at this
   cases this
  ·exact e
  ·have:=(hshare j' j hj' e id b3 b2 hb3 hb2).1
   rw[h6]at this
   cases this
 rw[<-hb0]
 by_cases hx:∃j,j<m/\j≠i/\∃b2,look (eff j).ad id=some b2
 ·obtain⟨j,hj,hji,b2,hb2⟩:=hx
  have t1:=(hEop id b hb j hj hji b2 hb2).2
  rw[qlq hb2 (hB.clo j t1) (fun k hk b3 hb3=>hone j hj hji b2 hb2 k (hB.lt k hk) (fun e=>hB.nin (e▸hk)) b3 hb3),
   qlq hb2 t1 (fun k hk b3 hb3=>hone j hj hji b2 hb2 k (hB.lt k (hB.clo k hk)) (fun e=>hB.nin (e▸hB.clo k hk)) b3 hb3)]
 ·have hn:∀j,j<m->j≠i->look (eff j).ad id=none:=fun j hj hji=>by
   cases h:look (eff j).ad id with
   |none=>rfl
   |some b2=>exact absurd ⟨j,hj,hji,b2,h⟩ hx
  rw[q7i (fun j hj=>hn j (hB.lt j hj) (fun e=>hB.nin (e▸hj))),q7i (fun j hj=>hn j (hB.lt j (hB.clo j hj)) (fun e=>hB.nin (e▸hB.clo j hj)))]
theorem qbd {own:List (Nat×Blk N)}{t:Ty}{r:RV N}{y:t.den N.ρ×List Nat}(hv:toDen ([]:List (Nat×Blk N)) t r=some y):toDen own t r=some y/\isMp r=false:=by
 cases r<;>first|exact⟨hv,rfl⟩|(have h2:(none:Option (t.den N.ρ×List Nat))=some y:=hv;cases h2)
theorem qj7 {own:List (Nat×Blk N)}{t:Ty}{r:RV N}{y:t.den N.ρ×List Nat}{vs:List (RV N)}(hv:toDen ([]:List (Nat×Blk N)) t r=some y)(h:q1d ([]:List (Nat×Blk N)) t r=some vs):q1d own t r=some vs:=by
 obtain⟨hv',hm⟩:=qbd (own:=own) hv
 unfold q1d at h ⊢
 split at h
 ·split at h
  ·cases hm
  ·rw[hv]at h
   simp only at h ⊢
   rw[hv']
   exact h
 ·exact h
 ·rw[hv]at h
  rw[hv']
  exact h
theorem qhc (F:Fits P N τ){Φ:FuncId->Option (Spec N)}(hΦ:∀f S,Φ f=some S->Good P (f%1000000) S){ops:List Oper}{m:Nat}{st:List Nat->St N}
  {i:Nat} {o:Oper} (ho:ops[i]?=some o) {e:Eff N} (h:q2a τ (st (clo ops ops.length i)) o (fun s ad=>some (s,ad))=some (e.s,e.ad))
  (hregs:∀seq,Before ops m i seq->∀t∈qg8 ops o,(st seq).reg t=(st (clo ops ops.length i)).reg t)
  (hsame:∀id b,look e.ad id=some b->∀seq,Before ops m i seq->∀b0,look (st (clo ops ops.length i)).own id=some b0->look (st seq).own id=some b0)
  (hno:∀id b,look e.ad id=some b->∀seq,Before ops m i seq->NoId id (st seq))
  (hnext:∀seq,Before ops m i seq->(st (i::seq)).regs.length=(st seq).regs.length/\(∀t,(st (i::seq)).reg t=(st seq).reg t)/\∀j,look (st (i::seq)).own j=match look e.ad j with
   |some b=>some b
   |none=>look (st seq).own j):qaa P ops m st i:=by
 -- the store, carried out
 have fin:∀{t:TypeId} {d:Nat} {y:Operand} {id:Nat} {b b0:Blk N},o.op=.store t (.tmp d) y->o.guard=none->o.dst=none->e.ad=[(id,b)]->look (st (clo ops ops.length i)).own id=some b0->
   (∀seq,Before ops m i seq->(st seq).reg d=(st (clo ops ops.length i)).reg d->ev (st seq) y=ev (st (clo ops ops.length i)) y->qdg (st seq).own id=true->look (st seq).own id=some b0->
    qgi τ Φ o (st seq) (fun σ=>some σ)=some {regs:=(st seq).regs.map (Slot.map (q7q id)),own:=ins id b (st seq).own})->qaa P ops m st i:=by
  intro t d y id b b0 hop hg hdst had hb0 hev
  have hti:look e.ad id=some b:=by rw[had];simp[look]
  intro seq hB io w0 ac w K Q hrel hK
  have hregs:=hregs seq hB
  have hud:∀t',(Operand.tmp t')∈o.op.operands.toList->t'∈qg8 ops o:=fun t' ht'=>mA.2 (.inr (List.mem_filterMap.2 ⟨_,ht',rfl⟩))
  have hregd:=hregs d (hud d (by rw[hop];simp[Op.operands]))
  have hevy:ev (st seq) y=ev (st (clo ops ops.length i)) y:=by
   cases y with
   |tmp t'=>simp only[Eng.ev,hregs t' (hud t' (by rw[hop];simp[Op.operands]))]
   |const c=>exact qol _ _ c
   |_=>rfl
  have hNo:NoId id (st seq):=hno id _ hti seq hB
  have hnb:qdg (st seq).own id=true:=by
   unfold qdg
   rw[List.all_eq_true]
   intro p hp
   have:=hNo.own p hp
   simp only[Bool.or_eq_true,Bool.not_eq_true']
   right
   cases hcc:p.2.bs.contains id with
   |false=>rfl
   |true=>exact absurd (List.contains_iff_mem.1 hcc) this
  obtain⟨σ1,h1,h2⟩:=q6m F hΦ (hev seq hB hregd hevy hnb (hsame id b hti seq hB b0 hb0))
  cases h1
  unfold wpOp
  have hoi:(ops.toArray)[i]?=some o:=by rw[List.getElem?_toArray];exact ho
  simp only[hoi]
  rw[if_pos (by simp[Region.wanted,hg])]
  refine .inl (h2 io w0 ac w K Q hrel (fun a' w' hr=>hK a' w' ?_))
  obtain⟨E',hE'⟩:=hr
  have hregeq:(st seq).regs.map (Slot.map (q7q id))=(st seq).regs:=by
   rw[List.map_congr_left (g:=fun s=>s) (fun s hs=>qrn (hNo.regs s hs))]
   simp
  obtain⟨n1,n2,n3⟩:=hnext seq hB
  refine⟨E',hE'.same ?_ (fun t'=>?_) (fun j=>?_)⟩
  ·rw[n1,List.length_map]
  ·rw[n2]
   simp only[St.reg,hregeq]
  ·rw[n3,q08,had]
   simp only[look]
   by_cases hj:id=j
   ·simp[hj]
   ·have:(id==j)=false:=by simpa using hj
    simp[this,hj]
 unfold q2a at h
 split at h
 ·rename_i t d y hop
  split at h
  ·cases h
  ·rename_i hg
   split at h
   ·cases h
   ·rename_i hdst
    split at h
    ·rename_i id hreg
     split at h
     ·rename_i tb x0 hlk
      split at h
      ·rename_i tv e hτ
       obtain⟨hc,h⟩:=q02 h
       simp only[Bool.and_eq_true,decide_eq_true_eq,Bool.not_eq_true']at hc
       obtain⟨rfl,hlo,hni⟩:=hc
       split at h
       ·rename_i v b hv
        cases hbid:(q4l [] b).contains id with
        |true=>rw[hbid]at h;cases h
        | false=>
         rw[hbid,cF]at h
         simp only[Option.some.injEq,Prod.mk.injEq]at h
         refine fin hop hg hdst h.2.symm hlk (fun seq hB hrd hevy hnb hown=>?_)
         have hupd:qlx (⟨tv,v⟩:TV N) 8 tv x0 0=some v:=by
          simp[qlx,q0u]
         have e1:ev (st seq) (.tmp d)=.bptr id 0:=by simp only[Eng.ev,hrd,hreg]
         have e2:(qc5 (ev (st seq) y)||qcy (ev (st seq) y)||isMp (ev (st seq) y))=false:=by rw[hevy,hlo,hni,(qbd (own:=[]) hv).2];rfl
         have e3:toDen (st seq).own tv (ev (st seq) y)=some (v,b):=by rw[hevy];exact(qbd hv).1
         unfold qgi
         rw[hop]
         simp only[qc0,hτ,e1,hown,e2,cF,e3,hnb,hbid,nF,Bool.and_self,cT,hupd,hdst,St.put]
       ·cases h
      ·cases h
     ·rename_i l hlk
      split at h
      ·rename_i tv e hτ
       split at h
       ·rename_i yv hv
        split at h
        ·rename_i vs hvs
         obtain⟨hlen,h⟩:=q02 h
         cases hbid:(Blk.cells vs).bs.contains id with
         |true=>rw[hbid]at h;cases h
         |false=>
          rw[hbid,cF]at h
          simp only[Option.some.injEq,Prod.mk.injEq]at h
          refine fin hop hg hdst h.2.symm hlk (fun seq hB hrd hevy hnb hown=>?_)
          have hlen:vs.length=l.length:=Nat.eq_of_beq_eq_true hlen
          have e1:ev (st seq) (.tmp d)=.bptr id 0:=by simp only[Eng.ev,hrd,hreg]
          have e3:q1d (st seq).own tv (ev (st seq) y)=some vs:=by rw[hevy];exact qj7 hv hvs
          have e4:l.take 0++vs++l.drop (0+vs.length)=vs:=by rw[List.take_zero,List.nil_append,List.drop_of_length_le (by omega),List.append_nil]
          have e5:Nat.ble (0+vs.length) l.length=true:=Nat.ble_eq_true_of_le (by omega)
          unfold qgi
          rw[hop]
          simp only[qc0,hτ,e1,hown,e3,hnb,e4,hbid,e5,nF,Bool.and_self,cT,hdst,St.put]
        ·cases h
       ·cases h
      ·cases h
     ·cases h
    ·rename_i id ix off hreg
     split at h
     ·rename_i el ty xs bs p hlk
      split at h
      ·rename_i tv e hτ
       split at h
       ·rename_i v hv
        cases hbid:bs.contains id with
        |true=>rw[hbid]at h;cases h
        | false=>
         rw[hbid,cF]at h
         split at h
         ·rename_i x' hx'
          simp only[Option.some.injEq,Prod.mk.injEq]at h
          refine fin hop hg hdst h.2.symm hlk (fun seq hB hrd hevy hnb hown=>?_)
          have e1:ev (st seq) (.tmp d)=.optr id ix off:=by simp only[Eng.ev,hrd,hreg]
          have e3:toDen (st seq).own tv (ev (st seq) y)=some (v,[]):=by rw[hevy];exact(qbd hv).1
          unfold qgi
          rw[hop]
          simp only[qc0,hτ,e1,hown,e3,hnb,q4l,hbid,nF,Bool.and_self,cT,hx',hdst,St.put]
         ·cases h
       ·cases h
      ·cases h
     ·cases h
    ·cases h
 ·cases h
/-! A region whose order is open, with late stores, followed. -/
def qar:List Oper->Nat
 |[]=>0
 |o::r=>bif isE o||q32 o then qar r+1 else 0
def q0w (ops:List Oper):Nat:=Nat.min (qar ops) (qe2 ops ops.length)
def q6k (τ:TypeId->Option TI)(Φ:FuncId->Option (Spec N))(ops:List Oper)(σ0:St N):List Oper->List (Eff N)->(List (Eff N)->Option β)->Option β
 |[],effs,k=>k effs
 | o::rest,effs,k=>bif q32 o then
   q2a τ (sq σ0 (q0q effs) (clo ops ops.length effs.length)) o fun s ad=>q6k τ Φ ops σ0 rest (effs++[⟨none,s,ad⟩]) k
  else
   q0v.drawOne τ Φ ops (sq σ0 (q0q effs) (clo ops ops.length effs.length)) o fun s ad=>qh9 (qse effs.length ops) s fun s=>q6k τ Φ ops σ0 rest (effs++[⟨o.dst,s,ad⟩]) k
def qn2 (e:Eff N):List Nat:=e.ad.map (·.1)
def qtk (f:Nat->List Nat):Nat->List Nat
 |0=>[]
 |n+1=>f n++qtk f n
theorem qc7 {f:Nat->List Nat}{x:Nat}:∀{n i:Nat},i<n->x∈f i->x∈qtk f n
 |0,i,h,_=>by omega
 | n+1,i,h,hx=>by
  rcases Nat.lt_or_ge i n with h'|h'
  ·exact mA.2 (.inr (qc7 h' hx))
  ·have:i=n:=by omega
   subst this
   exact mA.2 (.inl hx)
def qzr (ops:List Oper)(effs:List (Eff N))(j:Nat):List Nat:=
 qtk (fun i=>bif storeAt ops i&&!(clo ops ops.length i).contains j then qn2 (q0q effs i)else[]) effs.length
def isOk:Option Unit->Bool
 |some _=>true
 |none=>false
def z10t (τ:TypeId->Option TI)(Φ:FuncId->Option (Spec N))(ops:List Oper)(σ0:St N)(effs:List (Eff N))(j:Nat):Bool:=
 match qzr ops effs j with
 |[]=>true
 |H=>match ops[j]? with
  |some o=>isOk (q0v.drawOne τ Φ ops (qs2 H (sq σ0 (q0q effs) (clo ops ops.length j))) o fun _ ad=>bif q1j H (ad.map (·.1))then none else some ())
  |none=>false
def qhw (τ:TypeId->Option TI)(Φ:FuncId->Option (Spec N))(ops:List Oper)(σ0:St N)(effs:List (Eff N)):Bool:=
 (q69 effs).all (fun d=>Nat.blt d σ0.regs.length)&&q3g (q69 effs)&&q7o (fun j=>storeAt ops j||q26 σ0.own (qn2 (q0q effs j))) effs.length&&
 q7o (fun i=>q7o (fun j=>!q1j (qn2 (q0q effs i)) (qn2 (q0q effs j))||(storeAt ops i&&!storeAt ops j&&(clo ops ops.length i).contains j)) i) effs.length&&
 q7o (fun j=>storeAt ops j||z10t τ Φ ops σ0 effs j) effs.length&&
 q7o (fun i=>!storeAt ops i||(qn2 (q0q effs i)).all fun id=>qxy id σ0&&effs.all (qn7 id)) effs.length
def qew (τ:TypeId->Option TI)(Φ:FuncId->Option (Spec N))(ops:List Oper)(σ0:St N)(k:St N->Option β):Option β:=
 bif q67 ops (q0w ops)then
  q6k τ Φ ops σ0 (ops.take (q0w ops)) [] fun effs=>
   bif qhw τ Φ ops σ0 effs then q3p τ Φ ops (ops.drop (q0w ops)) (sq σ0 (q0q effs) (q3e (q0w ops))) k else none
 else none
def qey (τ:TypeId->Option TI)(Φ:FuncId->Option (Spec N))(ops:List Oper)(σ0:St N)(k:St N->Option β):Option β:=
 bif q67 ops (qaq ops)then qdr τ Φ ops (qaq ops) σ0 k else bif q67 ops (q79 ops)then qdr τ Φ ops (q79 ops) σ0 k else qew τ Φ ops σ0 k
theorem qcw:∀(ops:List Oper),qar ops<=ops.length
 |[]=>nR _
 |o::r=>by
  unfold qar
  cases isE o||q32 o with
  |true=>simpa using qcw r
  |false=>simp
theorem qn1 (ops:List Oper):q0w ops<=ops.length:=Nat.le_trans (Nat.min_le_left _ _) (qcw ops)
theorem q2t {e:Eff N}{id:Nat}{b:Blk N}(h:look e.ad id=some b):id∈qn2 e:=List.mem_map.2 ⟨_,q3t h,rfl⟩
structure ChkW (τ:TypeId->Option TI) (Φ:FuncId->Option (Spec N)) (ops:List Oper) (σ0:St N) (effs:List (Eff N)):Prop where
 dst:∀j,j<effs.length->∀d,(q0q effs j).dst=some d->d<σ0.regs.length
 one:∀i j,i<effs.length->j<effs.length->∀d,(q0q effs i).dst=some d->(q0q effs j).dst=some d->i=j
 fresh:∀j,j<effs.length->storeAt ops j=false->∀id b,look (q0q effs j).ad id=some b->look σ0.own id=none
 share:∀i j,i<effs.length->j<i->∀id b b',look (q0q effs i).ad id=some b->look (q0q effs j).ad id=some b'->storeAt ops i=true/\storeAt ops j=false/\j∈clo ops ops.length i
 cold:∀i,i<effs.length->storeAt ops i=false->z10t τ Φ ops σ0 effs i=true
 noId:∀i,i<effs.length->storeAt ops i=true->∀id b,look (q0q effs i).ad id=some b->NoId id σ0/\∀j,j<effs.length->qn7 id (q0q effs j)=true
theorem z10s {Φ:FuncId->Option (Spec N)}{ops:List Oper}{σ0:St N}{effs:List (Eff N)}(h:qhw τ Φ ops σ0 effs=true):ChkW τ Φ ops σ0 effs:=by
 simp only[qhw,Bool.and_eq_true]at h
 obtain⟨⟨⟨⟨⟨h1,h2⟩,h3⟩,h4⟩,h5⟩,h6⟩:=h
 have h2:=q1u h2
 rw[q8v]at h1 h2
 have meet:∀{e e':Eff N} {id:Nat} {b b':Blk N},look e.ad id=some b->look e'.ad id=some b'->q1j (qn2 e) (qn2 e')=false->False:=fun hb hb' hm=>q1t hm _ (q2t hb') (q2t hb)
 refine⟨fun j hj d hd=>?_,fun i j hi hj d h7 h8=>?_,fun j hj hs id b hb=>?_,fun i j hi hj id b b' hb hb'=>?_,fun i hi hs=>?_,fun i hi hs id b hb=>?_⟩
 ·exact Nat.le_of_ble_eq_true (List.all_eq_true.1 h1 d (List.mem_flatMap.2 ⟨_,List.mem_of_getElem? (q2q hj),by rw[hd];simp⟩))
 ·exact q8m h2 i j _ _ (q2q hi) (q2q hj) d (by rw[h7];simp) (by rw[h8];simp)
 ·have:=q10 h3 j hj
  rw[hs,Bool.false_or]at this
  exact q19 this id (q2t hb)
 ·have:=q10 (q10 h4 i hi) j hj
  simp only[Bool.or_eq_true,Bool.not_eq_true',Bool.and_eq_true]at this
  rcases this with h|⟨⟨h7,h8⟩,h9⟩
  ·exact(meet hb hb' h).elim
  ·exact⟨h7,h8,List.contains_iff_mem.1 h9⟩
 ·have:=q10 h5 i hi
  rw[hs,Bool.false_or]at this
  exact this
 ·have:=q10 h6 i hi
  rw[hs,nT,Bool.false_or]at this
  have:=List.all_eq_true.1 this id (q2t hb)
  simp only[Bool.and_eq_true]at this
  exact⟨qh0 this.1,fun j hj=>List.all_eq_true.1 this.2 _ (List.mem_of_getElem? (q2q hj))⟩
theorem ChkW.effsW {Φ:FuncId->Option (Spec N)}{ops:List Oper}{σ0:St N}{effs:List (Eff N)}(h:ChkW τ Φ ops σ0 effs):EffsW ops σ0 (q0q effs) effs.length:=
 ⟨h.dst,h.one,fun i j hi hj id b b' hb hb'=>by
  rcases Nat.lt_trichotomy i j with e|e|e
  ·exact .inr (.inl (h.share j i hj e id b' b hb' hb).2.2)
  ·exact .inl e
  ·exact .inr (.inr (h.share i j hi e id b b' hb hb').2.2),h.fresh⟩
def z10o (P:Program)(τ:TypeId->Option TI)(Φ:FuncId->Option (Spec N))(ops:List Oper)(i:Nat)(o:Oper)(σ:St N)(e:Eff N):Prop:=
 (storeAt ops i=false/\q5v P ops i o σ e/\ParD τ Φ ops o σ e.s e.ad/\∀p∈e.ad,look σ.own p.1=none)\/(storeAt ops i=true/\q2a τ σ o (fun s ad=>some (s,ad))=some (e.s,e.ad)/\e.dst=none)
theorem qsh {b:Bool}{x:Option β}{y:β}(h:(bif b then none else x)=some y):b=false/\x=some y:=by
 cases b with
 |true=>cases h
 |false=>exact⟨rfl,h⟩
theorem qaf {σ:St N}{o:Oper}{k:KK N β}{r:β}(h:q2a τ σ o k=some r):∃s ad,k s ad=some r/\q2a τ σ o (fun s ad=>some (s,ad))=some (s,ad):=by
 unfold q2a at h ⊢
 split at h
 ·split at h
  ·cases h
  ·split at h
   ·cases h
   ·split at h
    ·split at h
     ·split at h
      ·obtain⟨hc,h⟩:=q02 h
       split at h
       ·rename_i v b hv
        cases hb:(q4l [] b).contains _ with
        |true=>rw[hb]at h;cases h
        |false=>
         rw[hb]at h
         refine⟨_,_,h,?_⟩
         simp only[*,cT,cF]
       ·cases h
      ·cases h
     ·split at h
      ·split at h
       ·split at h
        ·obtain⟨hb,h⟩:=q02 h
         obtain⟨hb2,h⟩:=qsh h
         refine⟨_,_,h,?_⟩
         simp only[*,cT,cF]
        ·cases h
       ·cases h
      ·cases h
     ·cases h
    ·split at h
     ·split at h
      ·split at h
       ·obtain⟨hb,h⟩:=qsh h
        split at h
        ·refine⟨_,_,h,?_⟩
         simp only[*,cT,cF]
        ·cases h
       ·cases h
      ·cases h
     ·cases h
    ·cases h
 ·cases h
theorem q85 (F:Fits P N τ){Φ:FuncId->Option (Spec N)}(hΦ:∀f S,Φ f=some S->Good P (f%1000000) S){ops:List Oper}(hfwd:∀i,i<ops.length->∀k∈clo ops ops.length i,k<i){σ0:St N}{r:β}:∀(todo:List Oper) (effs:List (Eff N)) (k:List (Eff N)->Option β),
  (∀j,todo[j]?=none\/todo[j]?=ops[effs.length+j]?)->q6k τ Φ ops σ0 todo effs k=some r->
  (∀i,i<effs.length->∃o,ops[i]?=some o/\z10o P τ Φ ops i o (sq σ0 (q0q effs) (clo ops ops.length i)) (q0q effs i))->
  ∃all:List (Eff N),k all=some r/\all.length=effs.length+todo.length/\∀i,i<all.length->∃o,ops[i]?=some o/\z10o P τ Φ ops i o (sq σ0 (q0q all) (clo ops ops.length i)) (q0q all i)
 |[],effs,k,ht,h,hH=>⟨effs,h,rfl,hH⟩
 | o::rest,effs,k,ht,h,hH=>by
  have ho:ops[effs.length]?=some o:=by
   rcases ht 0 with h0|h0
   ·simp at h0
   ·simpa using h0.symm
  have hl:effs.length<ops.length:=(List.getElem?_eq_some_iff.1 ho).1
  have hsa:storeAt ops effs.length=q32 o:=by simp[storeAt,ho]
  obtain⟨d,s,ad,h1,h3⟩:∃d s ad,q6k τ Φ ops σ0 rest (effs++[⟨d,s,ad⟩]) k=some r/\z10o P τ Φ ops effs.length o (sq σ0 (q0q effs) (clo ops ops.length effs.length)) ⟨d,s,ad⟩:=by
   unfold q6k at h
   cases hs:q32 o with
   |true=>
    rw[hs,cT]at h
    obtain⟨s,ad,h1,h2⟩:=qaf h
    exact⟨_,s,ad,h1,.inr ⟨by rw[hsa,hs],h2,rfl⟩⟩
   |false=>
    rw[hs,cF]at h
    obtain⟨s,ad,h1,h2,h3,h4⟩:=q4z F hΦ ho h
    rw[qg3]at h1
    exact⟨_,s,ad,h1,.inl ⟨by rw[hsa,hs],h3,h4,h2⟩⟩
  have hold:∀j,j<effs.length->q0q (effs++[⟨d,s,ad⟩]) j=q0q effs j:=fun j hj=>by
   unfold q0q
   rw[gQ,gQ,List.getElem?_append_left hj]
  have hnew:q0q (effs++[⟨d,s,ad⟩]) effs.length=⟨d,s,ad⟩:=by
   unfold q0q
   rw[gQ,List.getElem?_append_right (nR _)]
   simp
  obtain⟨all,a1,a2,a3⟩:=q85 F hΦ hfwd rest (effs++[⟨d,s,ad⟩]) k (fun j=>by
   have:=ht (j+1)
   simp only[List.getElem?_cons_succ]at this
   rcases this with h|h
   ·exact .inl h
   ·exact .inr (by rw[h];congr 1;simp;omega)) h1 (fun i hi=>by
   rw[lA,List.length_singleton]at hi
   rcases Nat.lt_or_ge i effs.length with h'|h'
   ·obtain⟨oi,o1,o2⟩:=hH i h'
    refine⟨oi,o1,?_⟩
    rw[hold i h',q7h (fun j hj=>hold j (Nat.lt_trans (hfwd i (by omega) j hj) h'))]
    exact o2
   ·have hi':i=effs.length:=by omega
    subst hi'
    refine⟨o,ho,?_⟩
    rw[hnew,q7h (fun j hj=>hold j (hfwd _ hl j hj))]
    exact h3)
  exact⟨all,a1,by rw[a2];simp;omega,a3⟩
theorem qky {p:Nat->Bool}:∀(m:Nat),(∃j,j<m/\p j=true)->∃j,j<m/\p j=true/\∀i,i<m->p i=true->i<=j
 |0,⟨j,hj,_⟩=>by omega
 | m +1,⟨j,hj,hp⟩=>by
  cases hm:p m with
  |true=>exact⟨m,by omega,hm,fun i hi _=>by omega⟩
  | false=>
   have hjm:j<m:=by
    rcases Nat.lt_or_ge j m with h|h
    ·exact h
    ·have:j=m:=by omega
     rw[this,hm]at hp
     cases hp
   obtain⟨j',h1,h2,h3⟩:=qky m ⟨j,hjm,hp⟩
   refine⟨j',by omega,h2,fun i hi hpi=>?_⟩
   rcases Nat.lt_or_ge i m with h|h
   ·exact h3 i h hpi
   ·have:i=m:=by omega
    rw[this,hm]at hpi
    cases hpi
theorem qoy (F:Fits P N τ){Φ:FuncId->Option (Spec N)}(hΦ:∀f S,Φ f=some S->Good P (f%1000000) S){ops:List Oper}{i:Nat}{o:Oper}(ho:ops[i]?=some o){σ:St N}{e:Eff N}
  (hop:q5v P ops i o σ e/\ParD τ Φ ops o σ e.s e.ad/\∀p∈e.ad,look σ.own p.1=none) {H:List Nat} {u:Unit} (hdr:q0v.drawOne τ Φ ops (qs2 H σ) o (fun _ ad=>bif q1j H (ad.map (·.1))then none else some ())=some u):q5v P ops i o (qs2 H σ) e:=by
 obtain⟨s',ad',k1,k2,k3,k4⟩:=q4z F hΦ ho hdr
 have hmeet:q1j H (ad'.map (·.1))=false:=by
  cases hmm:q1j H (ad'.map (·.1))with
  |false=>rfl
  |true=>rw[hmm]at k1;cases k1
 have hA1:AgreeG ops o (qs2 H σ) σ:=⟨fun t ht=>rfl,fun id b hb=>by
  have hb:look (qbn H σ.own) id=some b:=hb
  rw[q5j]at hb
  split at hb
  ·cases hb
  ·exact hb,rfl⟩
 have hf1:∀p∈ad',look σ.own p.1=none:=by
  intro p hp
  have h5:look (qbn H σ.own) p.1=none:=k2 p hp
  rw[q5j,if_neg (fun hm=>q1t hmeet _ (List.mem_map.2 ⟨p,hp,rfl⟩) hm)]at h5
  exact h5
 have e5:=k4 _ hA1 hf1 (fun s ad=>some (s,ad))
 have e6:=hop.2.1 σ ⟨fun t ht=>rfl,fun id b hb=>hb,rfl⟩ hop.2.2 (fun s ad=>some (s,ad))
 rw[e5]at e6
 simp only[Option.some.injEq,Prod.mk.injEq]at e6
 have e7:e=⟨o.dst,s',ad'⟩:=by
  have hd:=hop.1.1
  cases e with
  |mk d s ad=>
   obtain⟨e8,e9⟩:=e6
   cases hd
   cases e8
   cases e9
   rfl
 rw[e7]
 exact k3
theorem qvs {ops:List Oper}{m:Nat}{σ:St N}{eff:Nat->Eff N}(hE:EffsW ops σ eff m)(hfwd:∀i,i<ops.length->∀k∈clo ops ops.length i,k<i)(hm:m<=ops.length)(hshare:qbp ops eff m)
  {seq:List Nat} (hlt:∀j∈seq,j<m) (hlin:Lin ops seq) (hall:∀j,j<m->j∈seq):(∀t,(sq σ eff (q3e m)).reg t=(sq σ eff seq).reg t)/\∀id,look (sq σ eff (q3e m)).own id=look (sq σ eff seq).own id:=by
 have hdlin:∀n,n<=m->Lin ops (q3e n):=by
  intro n
  induction n with
  |zero=>intro _;exact .nil
  |succ n ih=>
   intro hn
   exact .cons (fun k hk=>q20.2 (hfwd n (by omega) k hk)) (fun hmem=>by have:=q20.1 hmem;omega) (ih (by omega))
 have hdl:∀j∈q3e m,j<m:=fun j hj=>q20.1 hj
 refine⟨fun t=>?_,fun id=>?_⟩
 ·have r1:=qg4 hE (t:=t) hlt
  have r2:=qg4 hE (t:=t) hdl
  by_cases hx:∃j,j<m/\(eff j).dst=some t
  ·obtain⟨j,hj,hjd⟩:=hx
   rw[r1.1 j (hall j hj) hjd,r2.1 j (q20.2 hj) hjd]
  ·rw[r1.2 (fun j hj hjd=>hx ⟨j,hlt j hj,hjd⟩),r2.2 (fun j hj hjd=>hx ⟨j,hdl j hj,hjd⟩)]
 ·by_cases hx:∃j,j<m/\(look (eff j).ad id).isSome=true
  ·obtain⟨j,hj,hjb,hmax⟩:=qky (p:=fun j=>(look (eff j).ad id).isSome) _ hx
   obtain⟨b,hb⟩:=Option.isSome_iff_exists.1 hjb
   have hlast:∀i,i<m->∀b',look (eff i).ad id=some b'->i=j\/i∈clo ops ops.length j:=by
    intro i hi b' hb'
    have hle:=hmax i hi (by simp[hb'])
    rcases Nat.lt_or_ge i j with e|e
    ·exact .inr (hshare j i hj e id b b' hb hb').2.2
    ·exact .inl (by omega)
   rw[qns hb hlin (hall j hj) (fun i hi b' hb'=>hlast i (hlt i hi) b' hb'),qns hb (hdlin _ (nR _)) (q20.2 hj) (fun i hi b' hb'=>hlast i (hdl i hi) b' hb')]
  ·have hn:∀j,j<m->look (eff j).ad id=none:=fun j hj=>by
    cases h:look (eff j).ad id with
    |none=>rfl
    |some b=>exact absurd ⟨j,hj,by simp[h]⟩ hx
   rw[q7i (fun j hj=>hn j (hlt j hj)),q7i (fun j hj=>hn j (hdl j hj))]
theorem qex (F:Fits P N τ){Φ:FuncId->Option (Spec N)}(hΦ:∀f S,Φ f=some S->Good P (f%1000000) S)(hm:P.follows .mixedOrders=true){ops:List Oper}{k:St N->Option β}{r:β}{io:Io}{w0:World}{Q:Exit->Act->World->Prop}
  (hk:∀σ a w,k σ=some r->Rel io w0 σ a w->Q .normal a w) {σ:St N} (h:qew τ Φ ops σ k=some r) {a:Act} {w:World} (hr:Rel io w0 σ a w) {id:Nat}:(Code.region id ops.toArray true).wp P Q a w:=by
 unfold qew at h
 obtain⟨hst,h⟩:=q02 h
 simp only[q67,Bool.and_eq_true,Bool.or_eq_true]at hst
 obtain⟨⟨⟨s1,s2⟩,s3⟩,s4⟩:=hst
 have hD:=qel s1 s2
 have hm':=qn1 ops
 have hfwd:∀i,i<ops.length->∀k∈clo ops ops.length i,k<i:=fun j hj=>q80 (S:=fun k=>k<j) (fun k hk l hl=>Nat.lt_trans (hD.fwd k (by omega) l hl) hk) _ j (hD.fwd j hj)
 obtain⟨all,h1,h2,h3⟩:=q85 F hΦ hfwd (ops.take (q0w ops)) [] _ (fun j=>by
  rw[List.getElem?_take]
  split
  ·exact .inr (by simp)
  ·exact .inl rfl) h (fun i hi=>by cases hi)
 have hlen:all.length=q0w ops:=by rw[h2];simp;omega
 obtain⟨hc,h1⟩:=q02 h1
 have hC:=z10s hc
 rw[hlen]at h3
 have hE:=hC.effsW
 rw[hlen]at hE
 have hshare:∀i j,i<q0w ops->j<i->∀id b b',look (q0q all i).ad id=some b->look (q0q all j).ad id=some b'->storeAt ops i=true/\storeAt ops j=false/\j∈clo ops ops.length i:=fun i j hi=>hC.share i j (by omega)
 have hdst0:∀i,i<q0w ops->∃o,ops[i]?=some o/\(q0q all i).dst=o.dst:=by
  intro i hi
  obtain⟨o,ho,hs|⟨_,hs,hd⟩⟩:=h3 i hi
  ·exact⟨o,ho,hs.2.1.1⟩
  ·refine⟨o,ho,?_⟩
   rw[hd]
   unfold q2a at hs
   split at hs
   ·split at hs
    ·cases hs
    ·split at hs
     ·cases hs
     ·rename_i hdst
      exact hdst.symm
   ·cases hs
 have hH:∀i,i<q0w ops->qaa P ops (q0w ops) (sq σ (q0q all)) i:=by
  intro i hi
  obtain⟨o,ho,⟨hsi,hop⟩|⟨hsi,hs,hd⟩⟩:=h3 i hi
  ·have hdel:∃H:List Nat,q5v P ops i o (qs2 H (sq σ (q0q all) (clo ops ops.length i))) (q0q all i)/\∀k,k<q0w ops->storeAt ops k=true->i∉clo ops ops.length k->∀id b,look (q0q all k).ad id=some b->id∈H:=by
    have hcold:=hC.cold i (by omega) hsi
    have hin:∀k,k<q0w ops->storeAt ops k=true->i∉clo ops ops.length k->∀id b,look (q0q all k).ad id=some b->id∈qzr ops all i:=by
     intro k hk hs hn id b hb
     refine qc7 (i:=k) (by omega) ?_
     have hc':(clo ops ops.length k).contains i=false:=by
      cases hh:(clo ops ops.length k).contains i with
      |false=>rfl
      |true=>exact absurd (List.contains_iff_mem.1 hh) hn
     rw[hs,hc']
     exact q2t hb
    refine⟨qzr ops all i,?_,hin⟩
    unfold z10t at hcold
    split at hcold
    ·rename_i hH0
     rw[hH0]
     exact hop.1
    ·generalize qzr ops all i=H at*
     rw[ho]at hcold
     simp only at hcold
     cases hdr:q0v.drawOne τ Φ ops (qs2 H (sq σ (q0q all) (clo ops ops.length i))) o (fun _ ad=>bif q1j H (ad.map (·.1))then none else some ())with
     |none=>rw[hdr]at hcold;cases hcold
     |some u=>
      exact qoy F hΦ ho hop hdr
   obtain⟨H,hop',hH⟩:=hdel
   exact qvv hm' hD hE hdst0 hi hsi ho hop' hH hshare
  ·have hEop:∀id b,look (q0q all i).ad id=some b->∀j,j<q0w ops->j≠i->∀b2,look (q0q all j).ad id=some b2->storeAt ops j=false/\j∈clo ops ops.length i:=by
    intro id b hb j hj hji b2 hb2
    rcases Nat.lt_trichotomy j i with e|e|e
    ·exact(hshare i j hi e id b b2 hb hb2).2
    ·exact absurd e hji
    ·have:=(hshare j i hj e id b2 b hb2 hb).2.1
     rw[hsi]at this
     cases this
   exact qhc F hΦ ho hs (fun seq hB=>qce hm' hD hE hdst0 hi ho hB) (qvt hE hi hEop hshare hsi) (fun id b hb seq hB=>qn9 (hC.noId i (by omega) hsi id b hb).1 (fun j hj=>(hC.noId i (by omega) hsi id b hb).2 j (by omega)) hB.lt)
    (fun seq hB=>⟨q9n _ _,fun t=>by simp only[sq,q3n,hd,St.put,St.reg],fun j=>q2u _ _ _⟩)
 have hr':Rel io w0 σ a {w with drawn:=w.drawn+1}:=by
  obtain⟨E,hE'⟩:=hr
  exact⟨E,hE'.ext (Ext.drawn w)⟩
 refine wp_region_any hm ?_
 have hsz:ops.toArray.size=q0w ops+(ops.length-q0w ops):=by simp;omega
 rw[hsz]
 refine qa6 (st:=sq σ (q0q all)) hm' hD.fwd hH (fun hlt=>?_) ?_ (q0w ops) _ [] a _ (by simp) ⟨⟨by simp;omega,fun j oj _ hl=>(by rw[getD_replicate_false]at hl;cases hl),fun t _ ht=>getD_in (by simp at ht ⊢;omega) (getD_replicate_false _ _)⟩,fun j hj=>?_,(fun j hj=>by cases hj),.nil,List.nodup_nil,hr'⟩
 ·rcases s3 with s3|s3
  ·have:=Nat.eq_of_beq_eq_true s3
   omega
  ·exact s3
 ·intro listed seq a w hI hl
  have hall:∀j,j<q0w ops->j∈seq:=by
   intro j hj
   apply Classical.byContradiction
   intro hn
   have h6:(j::seq).Nodup:=List.nodup_cons.2 ⟨hn,hI.nodup⟩
   have h7:=q4g.nodup_le (ops:=ops) (m:=q0w ops) (q0w ops) (j::seq) h6 (fun x hx=>by
    rcases List.mem_cons.1 hx with rfl|hx
    ·exact hj
    ·exact hI.lt x hx)
   simp only[lC]at h7
   omega
  have hrel:Rel io w0 (sq σ (q0q all) (q3e (q0w ops))) a w:=by
   obtain⟨E,hE'⟩:=hI.rel
   obtain⟨d1,d2⟩:=qvs hE hfwd hm' hshare hI.lt hI.lin hall
   exact⟨E,hE'.same (by rw[q3w,q3w]) d1 d2⟩
  have hlst:listed=qbr ops.length (q0w ops):=by
   have hs1:listed.size=ops.length:=by have:=hI.head.size;simpa using this
   apply Array.ext
   ·rw[hs1];simp[qbr];omega
   ·intro j hj1 hj2
    have hj:j<ops.length:=by omega
    have hg:listed.getD j false=listed[j]:=by simp[hj1]
    have hmem:=hI.mem j hj
    rw[hg]at hmem
    rcases Nat.lt_or_ge j (q0w ops)with h'|h'
    ·rw[hmem.2 (hall j h')]
     simp[qbr,List.getElem_append,h']
    ·have:listed[j]=false:=by
      cases hv:listed[j]with
      |false=>rfl
      |true=>
       have:=hI.lt j (hmem.1 hv)
       omega
     rw[this]
     simp only[qbr,List.getElem_toArray,List.getElem_append,List.length_replicate]
     rw[dif_neg (by omega)]
     simp
  have hlst2:=q50 (ops:=ops) (Q:=Q) F hΦ hk (ops.drop (q0w ops)) _ h1 a w hrel
  have:=wpAny_of_seq (P:=P) (md:=.any) (ops:=ops.toArray) (Q':=Q) (ops.drop (q0w ops)) (q0w ops) listed a w (fun j=>by simp) (by rw[hlst,lD];exact s4) hlst2
  rw[lD]at this
  exact this
 ·rw[getD_replicate_false]
  simp
theorem qez (F:Fits P N τ){Φ:FuncId->Option (Spec N)}(hΦ:∀f S,Φ f=some S->Good P (f%1000000) S)(hm:P.follows .mixedOrders=true){ops:List Oper}{k:St N->Option β}{r:β}{io:Io}{w0:World}{Q:Exit->Act->World->Prop}
  (hk:∀σ a w,k σ=some r->Rel io w0 σ a w->Q .normal a w) {σ:St N} (h:qey τ Φ ops σ k=some r) {a:Act} {w:World} (hr:Rel io w0 σ a w) {id:Nat}:(Code.region id ops.toArray true).wp P Q a w:=by
 unfold qey at h
 cases ht:q67 ops (qaq ops)with
 |true=>rw[ht]at h;exact q4g F hΦ hm hk (Nat.le_trans (Nat.min_le_left _ _) (qc3 ops)) h hr
 |false=>
  rw[ht,cF]at h
  cases hs:q67 ops (q79 ops)with
  |true=>rw[hs]at h;exact q4g F hΦ hm hk (qc3 ops) h hr
  |false=>rw[hs]at h;exact qex F hΦ hm hk h hr
end Go.Eng
