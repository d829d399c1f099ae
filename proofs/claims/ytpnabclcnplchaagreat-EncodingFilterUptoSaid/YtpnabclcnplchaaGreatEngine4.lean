/- The engine, part X: code, cut at the heads of its loops and at joins.
The engine, part Y: a function's own side: how it begins and how it ends.
The engine, part Z: from a function's code to what its callers may know.
The engine, part ZI: a function without loops, followed in place of its call.
The engine: a program's table of types, checked by computation.
The engine: a law's arguments, as they are read, are values; what they measure is at most the bulk of the reading.
Plain facts that the laws' own proofs use: wrapping, indices, counts.
The engine: the library's strings.Compare, as the kit's shelf has it.
The engine: the library's sort at strings, out of its contract.
The engine: the type of an array that is told as a list of its elements.
Plain facts on words of bits: wrapping, the operations on bits at numbers that are not negative, a number's bytes. -/
import Derived.Test.YtpnabclcnplchaaGreatEngine3
import Derived.Scope
import Derived.WalkKit
import Derived.ProofKit
import Derived.OpenShut
import Derived.JoinedCond
import Derived.ChangeArms
import Derived.ChangeOld
import Derived.WideShapes
import Derived.Carry
import Derived.Lib.Bytealg
import Derived.Sort.OwnSorted
set_option linter.unusedVariables false
set_option linter.unusedSimpArgs false
namespace Go.Eng
variable {N:Names} {P:Program} {β:Type}
structure Ctx (N:Names)where
 τ:TypeId->Option TI
 Φ:FuncId->Option (Spec N)
 K:Nat->Option (List Nat)
 pins:List Nat
 gh:Nat
 inl:FuncId->Option (Inl N)
structure Conts (N:Names) (β:Type)where
 norm:St N->Option β
 exit:Nat->St N->Option β
 ret:St N->Option β
def q1w:Code->Option Nat
 |.region id _ _=>some id
 |.seq a _=>q1w a
 |.block _ c=>q1w c
 |.scope c=>q1w c
 |_=>none
def Ctx.cutOf (X:Ctx N)(c:Code):Option (Nat×List Nat):=match q1w c with
 |some id=>match X.K id with
  |some keep=>some (id,keep)
  |none=>none
 |none=>none
variable (X:Ctx N) (g:Nat->St N->Option β)
def Ctx.cutK (c:Code)(k:St N->Option β):St N->Option β:=match X.cutOf c with
 |some (id,keep)=>fun σ=>g id (Eng.norm X.pins keep σ)
 |none=>k
def qe4:Code->Conts N β->St N->Option β
 |.skip,C,σ=>C.norm σ
 |.label _,C,σ=>C.norm σ
 |.region _ ops false,C,σ=>q2t X.τ X.Φ X.inl X.pins ops.toList ops.toList σ C.norm
 |.region _ ops true,C,σ=>qe7 X.τ X.Φ ops.toList σ C.norm
 |.seq a b,C,σ=>qe4 a {C with norm:=X.cutK g b (qe4 b C)} σ
 |.cond c t e,C,σ=>match ev σ c with
  |.bool b=>bif b then qe4 t C σ else qe4 e C σ
  |_=>none
 |.block i c,C,σ=>qe4 c {C with exit:=fun j σ=>bif j==i then C.norm σ else C.exit j σ} σ
 |.loop c,C,σ=>X.cutK g c (fun _=>none) σ
 |.exit i,C,σ=>C.exit i σ
 |.ret,C,σ=>C.ret σ
 |.scope c,C,σ=>qe4 c C σ
 |_,_,_=>none
def has (id:Nat):Code->Bool
 |.seq a b=>has id a||(q1w b==some id||has id b)
 |.cond _ t e=>has id t||has id e
 |.block _ c=>has id c
 |.loop c=>q1w c==some id||has id c
 |.scope c=>has id c
 |_=>false
def occ (X:Ctx N):Code->List Nat
 |.seq a b=>occ X a++(((X.cutOf b).map (·.1)).toList++occ X b)
 |.cond _ t e=>occ X t++occ X e
 |.block _ c=>occ X c
 |.loop c=>((X.cutOf c).map (·.1)).toList++occ X c
 |.scope c=>occ X c
 |_=>[]
def qhm (id:Nat):Code->Conts N β->Option (St N->Option β)
 |.seq a b,C=>match qhm id a {C with norm:=X.cutK g b (qe4 X g b C)}with
  |some k=>some k
  |none=>bif q1w b==some id then some (qe4 X g b C)else qhm id b C
 |.cond _ t e,C=>match qhm id t C with
  |some k=>some k
  |none=>qhm id e C
 |.block i c,C=>qhm id c {C with exit:=fun j σ=>bif j==i then C.norm σ else C.exit j σ}
 |.loop c,C=>bif q1w c==some id then some (qe4 X g c {C with norm:=X.cutK g c (fun _=>none)})else qhm id c {C with norm:=X.cutK g c (fun _=>none)}
 |.scope c,C=>qhm id c C
 |_,_=>none
def Seg (body:Code)(C:Conts N β)(id:Nat)(σ:St N):Option β:=match X.K id with
 |none=>none
 |some _=>match qhm X g id body C with
  |some k=>k σ
  |none=>none
def tbl (body:Code)(C:Conts N β):Nat->Nat->St N->Option β
 |0,_,_=>none
 |n+1,id,σ=>Seg X (tbl body C n) body C id σ
/-! What stands at a place. -/
def qfg (P:Program)(c:Code)(Q:Exit->Act->World->Prop)(a:Act)(w:World):Prop:=
 ∀(b:Frame) (k:List Item) (cs:List Frame),∃e a' w',Q e a' w'/\Arrives P (lone (b.at a (.code c::.inLoop c::k)) cs w) b k cs e a' w'
theorem qmm {c:Code}{Q:Exit->Act->World->Prop}{a:Act}{w:World}(h:c.wp P (Exit.then (qfg P c Q) Q) a w):qfg P c Q a w:=by
 intro b k cs
 obtain⟨e,a₁,w₁,hq,harr⟩:=h b (.inLoop c::k) cs
 cases e with
 |normal=>
  obtain⟨e₂,a₂,w₂,hq₂,harr₂⟩:=hq b k cs
  exact⟨e₂,a₂,w₂,hq₂,.of_steps (Steps.trans harr (.one step_inLoop)) harr₂⟩
 |exit id=>exact⟨_,a₁,w₁,hq,.pass (x:=.inLoop c) rfl (fun _ _=>.inl (by simp)) harr⟩
 |goto l=>exact⟨_,a₁,w₁,hq,.pass (x:=.inLoop c) rfl (fun _ _=>.inl (by simp)) harr⟩
 |ret=>exact⟨_,a₁,w₁,hq,.pass (x:=.inLoop c) rfl (fun _ _=>.inl (by simp)) harr⟩
 |panic ch=>exact⟨_,a₁,w₁,hq,.pass (x:=.inLoop c) rfl (fun _ _=>.inl (by simp)) harr⟩
 |outgrown=>exact⟨_,a₁,w₁,hq,.pass (x:=.inLoop c) rfl (fun _ _=>.inl (by simp)) harr⟩
theorem qx6 {c:Code}{Q:Exit->Act->World->Prop}{a:Act}{w:World}(h:qfg P c Q a w):(Code.loop c).wp P Q a w:=by
 intro b k cs
 obtain⟨e,a',w',hq,harr⟩:=h b k cs
 exact⟨e,a',w',hq,.of_steps (.one step_loop) harr⟩
def At (P:Program)(id:Nat):Code->(Exit->Act->World->Prop)->Act->World->Prop
 |.seq x y,Q,a,w=>if has id x=true then At P id x (Exit.then (y.wp P Q) Q) a w else if q1w y=some id then y.wp P Q a w else At P id y Q a w
 |.cond _ t e,Q,a,w=>if has id t=true then At P id t Q a w else At P id e Q a w
 |.block i c,Q,a,w=>At P id c (Exit.inBlock i Q) a w
 |.loop c,Q,a,w=>if q1w c=some id then qfg P c Q a w else At P id c (Exit.then (qfg P c Q) Q) a w
 |.scope c,Q,a,w=>At P id c (Exit.noGoto Q) a w
 |_,_,_,_=>True
variable {X g}
variable {io:Io} {w0:World} {r:β}
def q3l (P:Program)(X:Ctx N)(g:Nat->St N->Option β)(io:Io)(w0:World)(r:β)(c:Code)(Q:Exit->Act->World->Prop):Prop:=
 ∀id∈occ X c,∀σ a w,g id σ=some r->Rel io w0 σ a w->At P id c Q a w
structure ConOk (io:Io) (w0:World) (r:β) (C:Conts N β) (Q:Exit->Act->World->Prop):Prop where
 norm:∀σ a w,C.norm σ=some r->Rel io w0 σ a w->Q .normal a w
 exit:∀i σ a w,C.exit i σ=some r->Rel io w0 σ a w->Q (.exit i) a w
 ret:∀σ a w,C.ret σ=some r->Rel io w0 σ a w->Q .ret a w
theorem q4q {c:Code}{id:Nat}{keep:List Nat}(h:X.cutOf c=some (id,keep)):q1w c=some id/\X.K id=some keep:=by
 unfold Ctx.cutOf at h
 split at h
 ·rename_i id' hs
  split at h
  ·rename_i keep' hk
   cases h
   exact⟨hs,hk⟩
  ·cases h
 ·cases h
theorem q9y {c:Code}{id:Nat}{keep:List Nat}(h1:q1w c=some id)(h2:X.K id=some keep):X.cutOf c=some (id,keep):=by
 unfold Ctx.cutOf
 rw[h1]
 simp only[h2]
theorem q27 {id:Nat}:∀{c:Code},id∈occ X c->has id c=true
 |.seq a b,h=>by
  simp only[occ,mA,Option.mem_toList,Option.map_eq_some_iff]at h
  simp only[has,Bool.or_eq_true,beq_iff_eq]
  rcases h with h|⟨⟨i,k⟩,h,rfl⟩|h
  ·exact .inl (q27 h)
  ·exact .inr (.inl (q4q h).1)
  ·exact .inr (.inr (q27 h))
 |.cond _ t e,h=>by
  simp only[occ,mA]at h
  simp only[has,Bool.or_eq_true]
  exact h.imp q27 q27
 |.block _ c,h=>q27 (c:=c) h
 |.scope c,h=>q27 (c:=c) h
 |.loop c,h=>by
  simp only[occ,mA,Option.mem_toList,Option.map_eq_some_iff]at h
  simp only[has,Bool.or_eq_true,beq_iff_eq]
  rcases h with⟨⟨i,k⟩,h,rfl⟩|h
  ·exact .inl (q4q h).1
  ·exact .inr (q27 h)
theorem q13 {id:Nat}{keep:List Nat}(hK:X.K id=some keep):∀{c:Code},has id c=true->id∈occ X c
 |.seq a b,h=>by
  simp only[has,Bool.or_eq_true,beq_iff_eq]at h
  simp only[occ,mA,Option.mem_toList,Option.map_eq_some_iff]
  rcases h with h|h|h
  ·exact .inl (q13 hK h)
  ·exact .inr (.inl ⟨(id,keep),q9y h hK,rfl⟩)
  ·exact .inr (.inr (q13 hK h))
 |.cond _ t e,h=>by
  simp only[has,Bool.or_eq_true]at h
  simp only[occ,mA]
  exact h.imp (q13 hK) (q13 hK)
 |.block _ c,h=>q13 (c:=c) hK h
 |.scope c,h=>q13 (c:=c) hK h
 |.loop c,h=>by
  simp only[has,Bool.or_eq_true,beq_iff_eq]at h
  simp only[occ,mA,Option.mem_toList,Option.map_eq_some_iff]
  rcases h with h|h
  ·exact .inl ⟨(id,keep),q9y h hK,rfl⟩
  ·exact .inr (q13 hK h)
theorem q39 {id:Nat}:∀{c:Code},id∈occ X c->∃keep,X.K id=some keep
 |.seq a b,h=>by
  simp only[occ,mA,Option.mem_toList,Option.map_eq_some_iff]at h
  rcases h with h|⟨⟨i,k⟩,h,rfl⟩|h
  ·exact q39 h
  ·exact⟨k,(q4q h).2⟩
  ·exact q39 h
 |.cond _ t e,h=>by
  simp only[occ,mA]at h
  exact h.elim q39 q39
 |.block _ c,h=>q39 (c:=c) h
 |.scope c,h=>q39 (c:=c) h
 |.loop c,h=>by
  simp only[occ,mA,Option.mem_toList,Option.map_eq_some_iff]at h
  rcases h with⟨⟨i,k⟩,h,rfl⟩|h
  ·exact⟨k,(q4q h).2⟩
  ·exact q39 h
theorem q3c {id:Nat}:∀{c:Code} {C:Conts N β} {k:St N->Option β},qhm X g id c C=some k->has id c=true
 | .seq a b,C,k,h=>by
  simp only[qhm]at h
  simp only[has,Bool.or_eq_true]
  split at h
  ·rename_i k' hk
   exact .inl (q3c hk)
  ·cases hs:(q1w b==some id)with
   |true=>exact .inr (.inl rfl)
   |false=>
    rw[hs]at h
    exact .inr (.inr (q3c (c:=b) (C:=C) (k:=k) h))
 | .cond _ t e,C,k,h=>by
  simp only[qhm]at h
  simp only[has,Bool.or_eq_true]
  split at h
  ·rename_i k' hk
   exact .inl (q3c hk)
  ·exact .inr (q3c h)
 |.block _ c,C,k,h=>q3c (c:=c) h
 |.scope c,C,k,h=>q3c (c:=c) h
 | .loop c,C,k,h=>by
  simp only[qhm]at h
  simp only[has,Bool.or_eq_true]
  cases hs:(q1w c==some id)with
  |true=>exact .inl rfl
  |false=>
   rw[hs]at h
   exact .inr (q3c (c:=c) (k:=k) h)
section
variable {Q:Exit->Act->World->Prop}
theorem q3l.left {x y:Code}(h:q3l P X g io w0 r (.seq x y) Q):q3l P X g io w0 r x (Exit.then (y.wp P Q) Q):=by
 intro id hid σ a w h1 h2
 have:=h id (by simp only[occ,mA];exact .inl hid) σ a w h1 h2
 simpa only[At,q27 hid,if_true]using this
theorem q3l.right {x y:Code}(h:q3l P X g io w0 r (.seq x y) Q)(hn:(occ X (.seq x y)).Nodup):q3l P X g io w0 r y Q:=by
 intro id hid σ a w h1 h2
 have:=h id (by simp only[occ,mA];exact .inr (.inr hid)) σ a w h1 h2
 obtain⟨keep,hK⟩:=q39 hid
 simp only[occ]at hn
 rw[List.nodup_append]at hn
 have hx:has id x≠true:=fun hx=>hn.2.2 id (q13 hK hx) id (mA.2 (.inr hid)) rfl
 have hs:q1w y≠some id:=fun hs=>by
  rw[List.nodup_append]at hn
  exact hn.2.1.2.2 id (by rw[q9y hs hK];simp) id hid rfl
 simpa only[At,if_neg hx,if_neg hs]using this
theorem q3l.mid {x y:Code}(h:q3l P X g io w0 r (.seq x y) Q)(hn:(occ X (.seq x y)).Nodup){id:Nat}{keep:List Nat}(hc:X.cutOf y=some (id,keep)){σ:St N}{a:Act}{w:World}(h1:g id σ=some r)(h2:Rel io w0 σ a w):y.wp P Q a w:=by
 obtain⟨hs,hK⟩:=q4q hc
 have:=h id (by simp only[occ,hc,mA];exact .inr (.inl (by simp))) σ a w h1 h2
 simp only[occ]at hn
 rw[List.nodup_append]at hn
 have hx:has id x≠true:=fun hx=>hn.2.2 id (q13 hK hx) id (mA.2 (.inl (by rw[hc];simp))) rfl
 simpa only[At,if_neg hx,if_pos hs]using this
theorem q3l.loopHead {c:Code}(h:q3l P X g io w0 r (.loop c) Q){id:Nat}{keep:List Nat}(hc:X.cutOf c=some (id,keep)){σ:St N}{a:Act}{w:World}(h1:g id σ=some r)(h2:Rel io w0 σ a w):qfg P c Q a w:=by
 obtain⟨hs,hK⟩:=q4q hc
 have:=h id (by simp only[occ,hc,mA];exact .inl (by simp)) σ a w h1 h2
 simpa only[At,if_pos hs]using this
theorem q3l.inLoop {c:Code}(h:q3l P X g io w0 r (.loop c) Q)(hn:(occ X (.loop c)).Nodup):q3l P X g io w0 r c (Exit.then (qfg P c Q) Q):=by
 intro id hid σ a w h1 h2
 have:=h id (by simp only[occ,mA];exact .inr hid) σ a w h1 h2
 obtain⟨keep,hK⟩:=q39 hid
 simp only[occ]at hn
 rw[List.nodup_append]at hn
 have hs:q1w c≠some id:=fun hs=>hn.2.2 id (by rw[q9y hs hK];simp) id hid rfl
 simpa only[At,if_neg hs]using this
theorem qgx {c:Code}{k:St N->Option β}{R:Act->World->Prop}(h1:∀id keep,X.cutOf c=some (id,keep)->∀σ a w,g id σ=some r->Rel io w0 σ a w->R a w)(h2:∀σ a w,k σ=some r->Rel io w0 σ a w->R a w)(hp:io.ids=X.pins):
  ∀σ a w,X.cutK g c k σ=some r->Rel io w0 σ a w->R a w:=by
 intro σ a w h hr
 rcases hc:X.cutOf c with _|⟨id,keep⟩
 ·simp only[Ctx.cutK,hc]at h
  exact h2 σ a w h hr
 ·simp only[Ctx.cutK,hc]at h
  refine h1 id keep hc _ a w h ?_
  rw[<-hp]
  exact hr.norm keep
theorem q1u (F:Fits P N X.τ)(hΦ:∀f S,X.Φ f=some S->Good P (f%1000000) S)(hI:∀f J,X.inl f=some J->InlOk P f J)(hm:P.follows .mixedOrders=true)(hp:io.ids=X.pins):∀(c:Code) (C:Conts N β) (Q:Exit->Act->World->Prop) (σ:St N),q3l P X g io w0 r c Q->(occ X c).Nodup->ConOk io w0 r C Q->
  qe4 X g c C σ=some r->∀a w,Rel io w0 σ a w->c.wp P Q a w
 |.skip,C,Q,σ,hc,hn,hC,h,a,w,hr=>wp_skip (hC.norm σ a w h hr)
 |.label _,C,Q,σ,hc,hn,hC,h,a,w,hr=>wp_label (hC.norm σ a w h hr)
 |.region _ ops false,C,Q,σ,hc,hn,hC,h,a,w,hr=>by
  simp only[qe4]at h
  have:=q8x (ops:=ops.toList) (Q:=Q) F hΦ hI hp (fun σ a w h1 h2=>hC.norm σ a w h1 h2) ops.toList σ h a w hr
  exact wp_region_list this
 |.region rid ops true,C,Q,σ,hc,hn,hC,h,a,w,hr=>by
  simp only[qe4]at h
  have:=qe8 (id:=rid) (ops:=ops.toList) (Q:=Q) F hΦ hm (fun σ a w h1 h2=>hC.norm σ a w h1 h2) h hr
  exact this
 |.seq x y,C,Q,σ,hc,hn,hC,h,a,w,hr=>by
  have hn':=hn
  simp only[occ]at hn'
  rw[List.nodup_append,List.nodup_append]at hn'
  simp only[qe4]at h
  refine wp_seq (q1u F hΦ hI hm hp x {C with norm:=X.cutK g y (qe4 X g y C)} _ σ hc.left hn'.1 ⟨?_,fun i σ a w h1 h2=>hC.exit i σ a w h1 h2,fun σ a w h1 h2=>hC.ret σ a w h1 h2⟩ h a w hr)
  exact qgx (R:=y.wp P Q) (fun id keep hcut σ a w h1 h2=>hc.mid hn hcut h1 h2) (fun σ a w h1 h2=>q1u F hΦ hI hm hp y C Q σ (hc.right hn) hn'.2.1.2.1 hC h1 a w h2) hp
 | .cond c t e,C,Q,σ,hc,hn,hC,h,a,w,hr=>by
  have hn':=hn
  simp only[occ]at hn'
  rw[List.nodup_append]at hn'
  simp only[qe4]at h
  split at h
  ·rename_i b hb
   have hv:a.eval c=.bool b:=by
    obtain⟨E,hE⟩:=hr
    have:=hE.ev c
    rw[hb]at this
    exact this
   have hct:q3l P X g io w0 r t Q:=fun id hid σ a w h1 h2=>by
    have:=hc id (by simp only[occ,mA];exact .inl hid) σ a w h1 h2
    simpa only[At,q27 hid,if_true]using this
   have hce:q3l P X g io w0 r e Q:=fun id hid σ a w h1 h2=>by
    have:=hc id (by simp only[occ,mA];exact .inr hid) σ a w h1 h2
    obtain⟨keep,hK⟩:=q39 hid
    have hx:has id t≠true:=fun hx=>hn'.2.2 id (q13 hK hx) id hid rfl
    simpa only[At,if_neg hx]using this
   cases b with
   |true=>exact wp_cond_true hv (q1u F hΦ hI hm hp t C Q σ hct hn'.1 hC h a w hr)
   |false=>exact wp_cond_false hv (q1u F hΦ hI hm hp e C Q σ hce hn'.2.1 hC h a w hr)
  ·cases h
 | .block i c,C,Q,σ,hc,hn,hC,h,a,w,hr=>by
  simp only[qe4]at h
  refine wp_block (q1u F hΦ hI hm hp c {C with exit:=fun j σ=>bif j==i then C.norm σ else C.exit j σ} _ σ hc hn ⟨fun σ a w h1 h2=>hC.norm σ a w h1 h2,fun j σ a w h1 h2=>?_,fun σ a w h1 h2=>hC.ret σ a w h1 h2⟩ h a w hr)
  simp only[Exit.inBlock]
  cases hj:(j==i)with
  |true=>
   simp only[hj,cT]at h1
   rw[if_pos (by simpa using hj)]
   exact hC.norm σ a w h1 h2
  |false=>
   simp only[hj,cF]at h1
   rw[if_neg (by simpa using hj)]
   exact hC.exit j σ a w h1 h2
 |.loop c,C,Q,σ,hc,hn,hC,h,a,w,hr=>by
  simp only[qe4]at h
  exact qx6 (qgx (R:=qfg P c Q) (fun id keep hcut σ a w h1 h2=>hc.loopHead hcut h1 h2) (fun σ a w h1 _=>by cases h1) hp σ a w h hr)
 |.exit i,C,Q,σ,hc,hn,hC,h,a,w,hr=>wp_exit (hC.exit i σ a w h hr)
 |.ret,C,Q,σ,hc,hn,hC,h,a,w,hr=>wp_ret (hC.ret σ a w h hr)
 |.scope c,C,Q,σ,hc,hn,hC,h,a,w,hr=>by
  simp only[qe4]at h
  exact wp_scope_straight (q1u F hΦ hI hm hp c _ _ σ hc hn ⟨fun σ a w h1 h2=>hC.norm σ a w h1 h2,fun i σ a w h1 h2=>hC.exit i σ a w h1 h2,fun σ a w h1 h2=>hC.ret σ a w h1 h2⟩ h a w hr)
 |.rangeFunc ..,C,Q,σ,hc,hn,hC,h,a,w,hr=>by cases h
 |.goto _,C,Q,σ,hc,hn,hC,h,a,w,hr=>by cases h
 |.refuse _,C,Q,σ,hc,hn,hC,h,a,w,hr=>by cases h
theorem q34 (F:Fits P N X.τ)(hΦ:∀f S,X.Φ f=some S->Good P (f%1000000) S)(hI:∀f J,X.inl f=some J->InlOk P f J)(hm:P.follows .mixedOrders=true)(hp:io.ids=X.pins){id:Nat}{keep:List Nat}(hK:X.K id=some keep):∀(c:Code) (C:Conts N β) (Q:Exit->Act->World->Prop) (k:St N->Option β),q3l P X g io w0 r c Q->(occ X c).Nodup->ConOk io w0 r C Q->
  qhm X g id c C=some k->∀σ a w,k σ=some r->Rel io w0 σ a w->At P id c Q a w
 | .seq x y,C,Q,k,hc,hn,hC,h,σ,a,w,hk,hr=>by
  have hn':=hn
  simp only[occ]at hn'
  rw[List.nodup_append,List.nodup_append]at hn'
  simp only[qhm]at h
  simp only[At]
  have hCx:ConOk io w0 r {C with norm:=X.cutK g y (qe4 X g y C)} (Exit.then (y.wp P Q) Q):=
   ⟨qgx (R:=y.wp P Q) (fun id keep hcut σ a w h1 h2=>hc.mid hn hcut h1 h2) (fun σ a w h1 h2=>q1u F hΦ hI hm hp y C Q σ (hc.right hn) hn'.2.1.2.1 hC h1 a w h2) hp,fun i σ a w h1 h2=>hC.exit i σ a w h1 h2,fun σ a w h1 h2=>hC.ret σ a w h1 h2⟩
  split at h
  ·rename_i k' hk'
   cases h
   rw[if_pos (q3c hk')]
   exact q34 F hΦ hI hm hp hK x {C with norm:=X.cutK g y (qe4 X g y C)} _ k hc.left hn'.1 hCx hk' σ a w hk hr
  ·cases hs:(q1w y==some id)with
   |true=>
    rw[hs]at h
    cases h
    have hs:q1w y=some id:=by simpa using hs
    have hx:has id x≠true:=fun hx=>hn'.2.2 id (q13 hK hx) id (mA.2 (.inl (by rw[q9y hs hK];simp))) rfl
    rw[if_neg hx,if_pos hs]
    exact q1u F hΦ hI hm hp y C Q σ (hc.right hn) hn'.2.1.2.1 hC hk a w hr
   |false=>
    rw[hs]at h
    have h:qhm X g id y C=some k:=h
    have hs:q1w y≠some id:=by simpa using hs
    have hx:has id x≠true:=fun hx=>hn'.2.2 id (q13 hK hx) id (mA.2 (.inr (q13 hK (q3c h)))) rfl
    rw[if_neg hx,if_neg hs]
    exact q34 F hΦ hI hm hp hK y C Q k (hc.right hn) hn'.2.1.2.1 hC h σ a w hk hr
 | .cond c t e,C,Q,k,hc,hn,hC,h,σ,a,w,hk,hr=>by
  have hn':=hn
  simp only[occ]at hn'
  rw[List.nodup_append]at hn'
  simp only[qhm]at h
  simp only[At]
  split at h
  ·rename_i k' hk'
   cases h
   rw[if_pos (q3c hk')]
   refine q34 F hΦ hI hm hp hK t C Q k (fun id hid σ a w h1 h2=>?_) hn'.1 hC hk' σ a w hk hr
   have:=hc id (by simp only[occ,mA];exact .inl hid) σ a w h1 h2
   simpa only[At,q27 hid,if_true]using this
  ·have hx:has id t≠true:=fun hx=>hn'.2.2 id (q13 hK hx) id (q13 hK (q3c h)) rfl
   rw[if_neg hx]
   refine q34 F hΦ hI hm hp hK e C Q k (fun id hid σ a w h1 h2=>?_) hn'.2.1 hC h σ a w hk hr
   have:=hc id (by simp only[occ,mA];exact .inr hid) σ a w h1 h2
   obtain⟨keep',hK'⟩:=q39 hid
   have hx:has id t≠true:=fun hx=>hn'.2.2 id (q13 hK' hx) id hid rfl
   simpa only[At,if_neg hx]using this
 | .block i c,C,Q,k,hc,hn,hC,h,σ,a,w,hk,hr=>by
  simp only[qhm]at h
  refine q34 F hΦ hI hm hp hK c {C with exit:=fun j σ=>bif j==i then C.norm σ else C.exit j σ} (Exit.inBlock i Q) k hc hn ⟨fun σ a w h1 h2=>hC.norm σ a w h1 h2,fun j σ a w h1 h2=>?_,fun σ a w h1 h2=>hC.ret σ a w h1 h2⟩ h σ a w hk hr
  simp only[Exit.inBlock]
  cases hj:(j==i)with
  |true=>
   simp only[hj,cT]at h1
   rw[if_pos (by simpa using hj)]
   exact hC.norm σ a w h1 h2
  |false=>
   simp only[hj,cF]at h1
   rw[if_neg (by simpa using hj)]
   exact hC.exit j σ a w h1 h2
 | .loop c,C,Q,k,hc,hn,hC,h,σ,a,w,hk,hr=>by
  have hn':=hn
  simp only[occ]at hn'
  rw[List.nodup_append]at hn'
  simp only[qhm]at h
  simp only[At]
  have hCc:ConOk io w0 r {C with norm:=X.cutK g c (fun _=>none)} (Exit.then (qfg P c Q) Q):=
   ⟨qgx (R:=qfg P c Q) (fun id keep hcut σ a w h1 h2=>hc.loopHead hcut h1 h2) (fun σ a w h1 _=>by cases h1) hp,fun i σ a w h1 h2=>hC.exit i σ a w h1 h2,fun σ a w h1 h2=>hC.ret σ a w h1 h2⟩
  cases hs:(q1w c==some id)with
  |true=>
   rw[hs]at h
   cases h
   rw[if_pos (by simpa using hs)]
   exact qmm (q1u F hΦ hI hm hp c {C with norm:=X.cutK g c (fun _=>none)} _ σ (hc.inLoop hn) hn'.2.1 hCc hk a w hr)
  |false=>
   rw[hs]at h
   rw[if_neg (by simpa using hs)]
   exact q34 F hΦ hI hm hp hK c {C with norm:=X.cutK g c (fun _=>none)} _ k (hc.inLoop hn) hn'.2.1 hCc h σ a w hk hr
 |.scope c,C,Q,k,hc,hn,hC,h,σ,a,w,hk,hr=>by
  simp only[qhm]at h
  exact q34 F hΦ hI hm hp hK c _ (Exit.noGoto Q) k hc hn ⟨fun σ a w h1 h2=>hC.norm σ a w h1 h2,fun i σ a w h1 h2=>hC.exit i σ a w h1 h2,fun σ a w h1 h2=>hC.ret σ a w h1 h2⟩ h σ a w hk hr
theorem z101 (F:Fits P N X.τ)(hΦ:∀f S,X.Φ f=some S->Good P (f%1000000) S)(hI:∀f J,X.inl f=some J->InlOk P f J)(hm:P.follows .mixedOrders=true)(hp:io.ids=X.pins){body:Code}{C:Conts N β}(hn:(occ X body).Nodup)(hC:ConOk io w0 r C Q):∀n,q3l P X (tbl X body C n) io w0 r body Q
 |0=>fun id _ σ a w h _=>by cases h
 | n+1=>fun id hid σ a w h hr=>by
  simp only[tbl,Seg]at h
  split at h
  ·cases h
  ·rename_i keep hK
   split at h
   ·rename_i k hk
    exact q34 F hΦ hI hm hp hK body C Q k (z101 F hΦ hI hm hp hn hC n) hn hC hk σ a w h hr
   ·cases h
theorem qpy (F:Fits P N X.τ)(hΦ:∀f S,X.Φ f=some S->Good P (f%1000000) S)(hI:∀f J,X.inl f=some J->InlOk P f J)(hm:P.follows .mixedOrders=true)(hp:io.ids=X.pins){body:Code}{C:Conts N β}(hn:(occ X body).Nodup)(hC:ConOk io w0 r C Q){n:Nat}{σ:St N}
  (h:qe4 X (tbl X body C n) body C σ=some r) {a:Act} {w:World} (hr:Rel io w0 σ a w):body.wp P Q a w:=
 q1u F hΦ hI hm hp body C Q σ (z101 F hΦ hI hm hp hn hC n) hn hC h a w hr
end
end Go.Eng

set_option linter.unusedVariables false
set_option linter.unusedSimpArgs false
namespace Go.Eng
variable {N:Names} {P:Program} {β:Type} {io:Io} {w0 w w':World} {σ:St N} {E:Env} {a:Act}
def pid (i:Nat):Nat:=900000+1000*i
def cid (i j:Nat):Nat:=900001+1000*i+j
def q11 (i:Nat):Nat->(l:List CK)->HC N.ρ l->List (RV N)
 |_,[],_=>[]
 |j,.c t::l,x=>(bif qzl t then .undef else q5x t x.1 [])::q11 i (j+1) l x.2
 |j,.o _ _::l,x=>.own (cid i j)::q11 i (j+1) l x.2
 |j,.f f js::l,x=>.fn f (js.map pid)::q11 i (j+1) l x.2
def q30 (i:Nat):Nat->(l:List CK)->HC N.ρ l->List (Nat×Blk N)
 |_,[],_=>[]
 |j,.c _::l,x=>q30 i (j+1) l x.2
 |j,.o el e::l,x=>(cid i j,.row el e x.1 [] false)::q30 i (j+1) l x.2
 |j,.f _ _::l,x=>q30 i (j+1) l x.2
def q98 (i:Nat):Nat->List CK->List Nat
 |_,[]=>[]
 |j,.c _::l=>q98 i (j+1) l
 |j,.o _ _::l=>cid i j::q98 i (j+1) l
 |j,.f _ _::l=>q98 i (j+1) l
def q1c:Nat->(ps:List PK)->HIn N.ρ ps->List (Nat×Blk N)
 |_,[],_=>[]
 |i,.v _::ps,x=>q1c (i+1) ps x.2
 |i,.io el e::ps,x=>(pid i,.row el e x.1 [] true)::q1c (i+1) ps x.2
 |i,.bw t::ps,x=>(pid i,.whole t x.1 [])::q1c (i+1) ps x.2
 |i,.bc l::ps,x=>(pid i,.cells (q11 i 0 l x.1))::(q30 i 0 l x.1++q1c (i+1) ps x.2)
 |i,.fv _::ps,x=>q1c (i+1) ps x.2
 |i,.fb f::ps,x=>(pid i,.cells [.fn f [pid i]])::q1c (i+1) ps x.2
 |i,.ag n l::ps,x=>(pid i,.vals n (q11 i 0 l x.1))::(q30 i 0 l x.1++q1c (i+1) ps x.2)
 |i,.go el e::ps,x=>(pid i,.row el e x.1 [] false)::q1c (i+1) ps x.2
 |i,.fn _ _::ps,x=>q1c (i+1) ps x.2
 |i,.rp _::ps,x=>q1c (i+1) ps x.2
def q0c:Nat->(ps:List PK)->HIn N.ρ ps->List (RV N)
 |_,[],_=>[]
 |i,.v t::ps,x=>q5x t x.1 []::q0c (i+1) ps x.2
 |i,.io _ _::ps,x=>.own (pid i)::q0c (i+1) ps x.2
 |i,.bw _::ps,x=>.bptr (pid i) 0::q0c (i+1) ps x.2
 |i,.bc _::ps,x=>.bptr (pid i) 0::q0c (i+1) ps x.2
 |i,.fv f::ps,x=>.fn f []::q0c (i+1) ps x.2
 |i,.fb _::ps,x=>.bptr (pid i) 0::q0c (i+1) ps x.2
 |i,.ag _ _::ps,x=>.mp (pid i)::q0c (i+1) ps x.2
 |i,.go _ _::ps,x=>.own (pid i)::q0c (i+1) ps x.2
 |i,.fn f js::ps,x=>.fn f (js.map pid)::q0c (i+1) ps x.2
 |i,.rp t::ps,x=>.sptr t x.1 []::q0c (i+1) ps x.2
def q1n:Nat->List PK->List Nat
 |_,[]=>[]
 |i,.v _::ps=>q1n (i+1) ps
 |i,.io _ _::ps=>pid i::q1n (i+1) ps
 |i,.bw _::ps=>pid i::q1n (i+1) ps
 |i,.bc l::ps=>pid i::(q98 i 0 l++q1n (i+1) ps)
 |i,.fv _::ps=>q1n (i+1) ps
 |i,.fb _::ps=>pid i::q1n (i+1) ps
 |i,.ag _ l::ps=>pid i::(q98 i 0 l++q1n (i+1) ps)
 |i,.go _ _::ps=>pid i::q1n (i+1) ps
 |i,.fn _ _::ps=>q1n (i+1) ps
 |i,.rp _::ps=>q1n (i+1) ps
def q4d:Nat->List PK->List Nat
 |_,[]=>[]
 |i,.v _::ps=>q4d (i+1) ps
 |i,.fv _::ps=>q4d (i+1) ps
 |i,.ag _ _::ps=>q4d (i+1) ps
 |i,.go _ _::ps=>q4d (i+1) ps
 |i,.fn _ _::ps=>q4d (i+1) ps
 |i,.rp _::ps=>q4d (i+1) ps
 |i,_::ps=>pid i::q4d (i+1) ps
def qg4 (ps:List PK)(ntmps gh:Nat)(x:HIn N.ρ ps):St N:={regs:=((q0c 0 ps x).take (ps.length-gh)).map Slot.one++List.replicate (ntmps-(ps.length-gh)) (.tup []),own:=q1c 0 ps x}
def qi3:PK->Bool
 |.v _=>false
 |.fv _=>false
 |.ag _ _=>false
 |.go _ _=>false
 |.fn _ _=>false
 |.rp _=>false
 |_=>true
def boxP:PK->Bool
 |.bw _=>true
 |.bc _=>true
 |.fb _=>true
 |_=>false
def qlo (ps0:List PK)(j:Nat):Bool:=match ps0[j]? with
 |some p=>boxP p
 |none=>false
def qqc (ps0:List PK):List CK->Bool
 |[]=>true
 |.f _ js::l=>js.all (qlo ps0)&&qqc ps0 l
 |_::l=>qqc ps0 l
def qre (ps0:List PK):List PK->Bool
 |[]=>true
 |.fn _ js::ps=>js.all (qlo ps0)&&qre ps0 ps
 |.bc l::ps=>qqc ps0 l&&qre ps0 ps
 |.ag _ l::ps=>qqc ps0 l&&qre ps0 ps
 |_::ps=>qre ps0 ps
def qgn (ps0:List PK)(vs0:List Value)(own':List (Nat×Blk N))(E':Env):Prop:=
 ∀j,qlo ps0 j=true->q4l own' (pid j)/\E' (pid j)=vs0.getD j undef/\∃g,E' (pid j)=.pointer (some ⟨g,0,none⟩)
theorem qj3 {ps0:List PK}{vs0:List Value}{own':List (Nat×Blk N)}{E':Env}(h:qgn ps0 vs0 own' E'){f:FuncId}{js:List Nat}(hj:js.all (qlo ps0)=true):q0a w own' E' (.fn f (js.map pid)) (qb7 vs0 f js):=by
 have hj:=List.all_eq_true.1 hj
 refine⟨?_,fun id hid=>?_⟩
 ·unfold qb7
  rw[List.map_map,List.map_congr_left (fun j hm=>(h j (hj j hm)).2.1.symm)]
  rfl
 ·obtain⟨j,hm,rfl⟩:=List.mem_map.1 hid
  exact⟨(h j (hj j hm)).1,(h j (hj j hm)).2.2⟩
theorem q3d {ok:Nat->Prop}{i:Nat}{ps0:List PK}{vs0:List Value}:∀(l:List CK) (j:Nat) (x:HC N.ρ l) (us:List Value),qdd w ok vs0 l x us->qqc ps0 l=true->
  ∃L:List (Ent N),L.map Ent.two=q30 i j l x/\L.map (·.1)=q98 i j l/\q4i l us=L.flatMap (fun e=>q0u e.2.2)/\us.length=(q11 i j l x).length/\
   ∀own' E',qfi L own' E'->qgn ps0 vs0 own' E'->(∀g,ok g->okb w.heap.size own' E' [] g)->(∀e∈L,q44 w own' E' e.1 e.2.1)/\∀(k:Nat) r u,(q11 i j l x)[k]?=some r->us[k]?=some u->q0a w own' E' r u
 |[],j,x,us,h,hjs=>by
  rw[show us=[]from h]
  exact⟨[],rfl,rfl,rfl,rfl,fun _ _ _ _ _=>⟨(fun e he=>by cases he),fun k r u hk _=>by simp[q11]at hk⟩⟩
 | .c t::l,j,x,us,h,hjs=>by
  obtain⟨u,rest,rfl,k1,k2⟩:=h
  obtain⟨L,l1,l2,l3,l4,l5⟩:=q3d (i:=i) (ps0:=ps0) l (j+1) x.2 rest k2 hjs
  refine⟨L,l1,l2,by simpa[q4i,qb3]using l3,by simp[q11,l4],fun own' E' hst hbx hok=>?_⟩
  obtain⟨m1,m2⟩:=l5 own' E' hst hbx hok
  refine⟨m1,fun k r u' hk hu=>?_⟩
  cases k with
  |zero=>
   simp only[q11,List.getElem?_cons_zero,Option.some.injEq]at hk hu
   subst hk hu
   have hrep:Rep w ok t x.1 [u]:=k1
   cases t with
   |nm n=>trivial
   |_=>exact q1v (q08 (fun _ _ _ h=>h) hok hrep) rfl
  |succ k=>exact m2 k r u' (by simpa[q11]using hk) (by simpa using hu)
 | .o el e::l,j,x,us,h,hjs=>by
  obtain⟨u,rest,rfl,k1,k2⟩:=h
  obtain⟨L,l1,l2,l3,l4,l5⟩:=q3d (i:=i) (ps0:=ps0) l (j+1) x.2 rest k2 hjs
  refine⟨(cid i j,.row el e x.1 [] false,u)::L,by simp[q30,Ent.two,l1],by simp[q98,l2],by simp[q4i,qb3,l3],by simp[q11,l4],fun own' E' hst hbx hok=>?_⟩
  obtain⟨m1,m2⟩:=l5 own' E' (fun e he=>hst e (mC _ he)) hbx hok
  obtain⟨s1,s2⟩:=hst _ mS
  refine⟨fun e' he=>?_,fun k r u' hk hu=>?_⟩
  ·rcases List.mem_cons.1 he with rfl|he
   ·exact q56 k1 s2 hok
   ·exact m1 e' he
  ·cases k with
   |zero=>
    simp only[q11,List.getElem?_cons_zero,Option.some.injEq]at hk hu
    subst hk hu
    exact⟨s2.symm,x.1.length,e,el,x.1,[],false,s1,rfl⟩
   |succ k=>exact m2 k r u' (by simpa[q11]using hk) (by simpa using hu)
 | .f f js::l,j,x,us,h,hjs=>by
  obtain⟨u,rest,rfl,k1,k2⟩:=h
  simp only[qqc,Bool.and_eq_true]at hjs
  obtain⟨L,l1,l2,l3,l4,l5⟩:=q3d (i:=i) (ps0:=ps0) l (j+1) x.2 rest k2 hjs.2
  refine⟨L,l1,l2,by simpa[q4i,qb3]using l3,by simp[q11,l4],fun own' E' hst hbx hok=>?_⟩
  obtain⟨m1,m2⟩:=l5 own' E' hst hbx hok
  refine⟨m1,fun k r u' hk hu=>?_⟩
  cases k with
  |zero=>
   simp only[q11,List.getElem?_cons_zero,Option.some.injEq]at hk hu
   subst hk hu
   rw[show u=_ from k1]
   exact qj3 hbx hjs.1
  |succ k=>exact m2 k r u' (by simpa[q11]using hk) (by simpa using hu)
theorem q3e {ok:Nat->Prop}{ps0:List PK}{vs0:List Value}:∀(ps:List PK) (i:Nat) (x:HIn N.ρ ps) (vs:List Value) (bl:List Nat),qlj w ok vs0 ps x vs bl->qre ps0 ps=true->
  ∃L:List (Ent N),L.map Ent.two=q1c i ps x/\L.map (·.1)=q1n i ps/\bl=L.flatMap (fun e=>q0u e.2.2)/\vs.length=ps.length/\(q0c i ps x).length=ps.length/\
   (∀(j:Nat) p v,ps[j]?=some p->vs[j]?=some v->qi3 p=true->∃e∈L,e.1=pid (i+j)/\e.2.2=v/\(boxP p=true->((∃t x bs,e.2.1=.whole t x bs)\/∃l,e.2.1=.cells l)/\∃g,v=.pointer (some ⟨g,0,none⟩)))/\(∀id∈q4d i ps,∃e∈L,e.1=id/\e.2.1.pinned=true)/\
   ∀own' E',qfi L own' E'->qgn ps0 vs0 own' E'->(∀g,ok g->okb w.heap.size own' E' [] g)->(∀e∈L,q44 w own' E' e.1 e.2.1)/\∀(k:Nat) r u,(q0c i ps x)[k]?=some r->vs[k]?=some u->q0a w own' E' r u
 |[],i,x,vs,bl,h,hjs=>by
  obtain⟨rfl,rfl⟩:=h
  exact⟨[],rfl,rfl,rfl,rfl,rfl,(fun j p v hp=>by simp at hp),(fun id hid=>by cases hid),fun _ _ _ _ _=>⟨(fun e he=>by cases he),fun k r u hk _=>by simp[q0c]at hk⟩⟩
 | .v t::ps,i,x,vs,bl,h,hjs=>by
  obtain⟨v,rest,b1,b2,rfl,rfl,⟨⟨cs,k1,k2⟩,rfl⟩,k3⟩:=h
  obtain⟨L,l1,l2,l3,l4,l4',l5,l6,l7⟩:=q3e (ps0:=ps0) ps (i+1) x.2 rest b2 k3 hjs
  refine⟨L,l1,l2,by simpa using l3,by simp[l4],by simp[q0c,l4'],fun j p v' hp hv hpin=>?_,l6,fun own' E' hst hbx hok=>?_⟩
  ·cases j with
   |zero=>
    simp only[List.getElem?_cons_zero,Option.some.injEq]at hp
    subst hp
    cases hpin
   |succ j=>
    obtain⟨e,e1,e2,e3,e4⟩:=l5 j p v' (by simpa using hp) (by simpa using hv) hpin
    exact⟨e,e1,by rw[e2,show i+1+j=i+(j+1)from by omega],e3,e4⟩
  ·obtain⟨m1,m2⟩:=l7 own' E' hst hbx hok
   refine⟨m1,fun k r u hk hu=>?_⟩
   cases k with
   |zero=>
    simp only[q0c,List.getElem?_cons_zero,Option.some.injEq]at hk hu
    subst hk hu
    exact q1v (q08 (fun _ _ _ h=>h) hok k1) k2
   |succ k=>exact m2 k r u (by simpa[q0c]using hk) (by simpa using hu)
 | .io el e::ps,i,x,vs,bl,h,hjs=>by
  obtain⟨v,rest,b1,b2,rfl,rfl,⟨k1,rfl⟩,k3⟩:=h
  obtain⟨L,l1,l2,l3,l4,l4',l5,l6,l7⟩:=q3e (ps0:=ps0) ps (i+1) x.2 rest b2 k3 hjs
  refine⟨(pid i,.row el e x.1 [] true,v)::L,by simp[q1c,Ent.two,l1],by simp[q1n,l2],by simp[l3],by simp[l4],by simp[q0c,l4'],fun j p v' hp hv hpin=>?_,fun id hid=>?_,fun own' E' hst hbx hok=>?_⟩
  ·cases j with
   |zero=>
    simp only[List.getElem?_cons_zero,Option.some.injEq]at hv
    simp only[List.getElem?_cons_zero,Option.some.injEq]at hp
    subst hp
    exact⟨_,mS,rfl,hv,fun h=>by cases h⟩
   |succ j=>
    obtain⟨e,e1,e2,e3,e4⟩:=l5 j p v' (by simpa using hp) (by simpa using hv) hpin
    exact⟨e,mC _ e1,by rw[e2,show i+1+j=i+(j+1)from by omega],e3,e4⟩
  ·rcases List.mem_cons.1 hid with rfl|hid
   ·exact⟨_,mS,rfl,rfl⟩
   ·obtain⟨e,e1,e2⟩:=l6 id hid
    exact⟨e,mC _ e1,e2⟩
  ·obtain⟨m1,m2⟩:=l7 own' E' (fun e he=>hst e (mC _ he)) hbx hok
   obtain⟨s1,s2⟩:=hst _ mS
   refine⟨fun e' he=>?_,fun k r u hk hu=>?_⟩
   ·rcases List.mem_cons.1 he with rfl|he
    ·exact q56 k1 s2 hok
    ·exact m1 e' he
   ·cases k with
    |zero=>
     simp only[q0c,List.getElem?_cons_zero,Option.some.injEq]at hk hu
     subst hk hu
     exact⟨s2.symm,x.1.length,e,el,x.1,[],true,s1,rfl⟩
    |succ k=>exact m2 k r u (by simpa[q0c]using hk) (by simpa using hu)
 | .bw t::ps,i,x,vs,bl,h,hjs=>by
  obtain⟨v,rest,b1,b2,rfl,rfl,⟨g,T,arr,⟨kb1,kb2⟩,k1,rfl⟩,k3⟩:=h
  obtain⟨L,l1,l2,l3,l4,l4',l5,l6,l7⟩:=q3e (ps0:=ps0) ps (i+1) x.2 rest b2 k3 hjs
  refine⟨(pid i,.whole t x.1 [],v)::L,by simp[q1c,Ent.two,l1],by simp[q1n,l2],by simp[l3,kb1,q0u,q0i],by simp[l4],by simp[q0c,l4'],fun j p v' hp hv hpin=>?_,fun id hid=>?_,fun own' E' hst hbx hok=>?_⟩
  ·cases j with
   |zero=>
    simp only[List.getElem?_cons_zero,Option.some.injEq]at hv
    exact⟨_,mS,rfl,hv,fun _=>⟨.inl ⟨_,_,_,rfl⟩,g,by rw[<-hv];exact kb1⟩⟩
   |succ j=>
    obtain⟨e,e1,e2,e3,e4⟩:=l5 j p v' (by simpa using hp) (by simpa using hv) hpin
    exact⟨e,mC _ e1,by rw[e2,show i+1+j=i+(j+1)from by omega],e3,e4⟩
  ·rcases List.mem_cons.1 hid with rfl|hid
   ·exact⟨_,mS,rfl,rfl⟩
   ·obtain⟨e,e1,e2⟩:=l6 id hid
    exact⟨e,mC _ e1,e2⟩
  ·obtain⟨m1,m2⟩:=l7 own' E' (fun e he=>hst e (mC _ he)) hbx hok
   obtain⟨s1,s2⟩:=hst _ mS
   refine⟨fun e' he=>?_,fun k r u hk hu=>?_⟩
   ·rcases List.mem_cons.1 he with rfl|he
    ·exact⟨g,T,arr,s2.trans kb1,kb2,q08 (fun _ _ _ h=>h) hok k1⟩
    ·exact m1 e' he
   ·cases k with
    |zero=>
     simp only[q0c,List.getElem?_cons_zero,Option.some.injEq]at hk hu
     subst hk hu
     exact⟨.inl ⟨t,x.1,[],s1⟩,g,s2.trans kb1,kb1⟩
    |succ k=>exact m2 k r u (by simpa[q0c]using hk) (by simpa using hu)
 | .fv f::ps,i,x,vs,bl,h,hjs=>by
  obtain⟨v,rest,b1,b2,rfl,rfl,⟨k1,rfl⟩,k3⟩:=h
  obtain⟨L,l1,l2,l3,l4,l4',l5,l6,l7⟩:=q3e (ps0:=ps0) ps (i+1) x.2 rest b2 k3 hjs
  refine⟨L,l1,l2,by simpa using l3,by simp[l4],by simp[q0c,l4'],fun j p v' hp hv hpin=>?_,l6,fun own' E' hst hbx hok=>?_⟩
  ·cases j with
   |zero=>
    simp only[List.getElem?_cons_zero,Option.some.injEq]at hp
    subst hp
    cases hpin
   |succ j=>
    obtain⟨e,e1,e2,e3,e4⟩:=l5 j p v' (by simpa using hp) (by simpa using hv) hpin
    exact⟨e,e1,by rw[e2,show i+1+j=i+(j+1)from by omega],e3,e4⟩
  ·obtain⟨m1,m2⟩:=l7 own' E' hst hbx hok
   refine⟨m1,fun k r u hk hu=>?_⟩
   cases k with
   |zero=>
    simp only[q0c,List.getElem?_cons_zero,Option.some.injEq]at hk hu
    subst hk hu
    exact⟨k1,fun k hk=>by cases hk⟩
   |succ k=>exact m2 k r u (by simpa[q0c]using hk) (by simpa using hu)
 | .fb f::ps,i,x,vs,bl,h,hjs=>by
  obtain⟨v,rest,b1,b2,rfl,rfl,⟨g,T,arr,⟨kb1,kb2⟩,k1,rfl⟩,k3⟩:=h
  obtain⟨L,l1,l2,l3,l4,l4',l5,l6,l7⟩:=q3e (ps0:=ps0) ps (i+1) x.2 rest b2 k3 hjs
  refine⟨(pid i,.cells [.fn f [pid i]],v)::L,by simp[q1c,Ent.two,l1],by simp[q1n,l2],by simp[l3,kb1,q0u,q0i],by simp[l4],by simp[q0c,l4'],fun j p v' hp hv hpin=>?_,fun id hid=>?_,fun own' E' hst hbx hok=>?_⟩
  ·cases j with
   |zero=>
    simp only[List.getElem?_cons_zero,Option.some.injEq]at hv
    exact⟨_,mS,rfl,hv,fun _=>⟨.inr ⟨_,rfl⟩,g,by rw[<-hv];exact kb1⟩⟩
   |succ j=>
    obtain⟨e,e1,e2,e3,e4⟩:=l5 j p v' (by simpa using hp) (by simpa using hv) hpin
    exact⟨e,mC _ e1,by rw[e2,show i+1+j=i+(j+1)from by omega],e3,e4⟩
  ·rcases List.mem_cons.1 hid with rfl|hid
   ·exact⟨_,mS,rfl,rfl⟩
   ·obtain⟨e,e1,e2⟩:=l6 id hid
    exact⟨e,mC _ e1,e2⟩
  ·obtain⟨m1,m2⟩:=l7 own' E' (fun e he=>hst e (mC _ he)) hbx hok
   obtain⟨s1,s2⟩:=hst _ mS
   refine⟨fun e' he=>?_,fun k r u hk hu=>?_⟩
   ·rcases List.mem_cons.1 he with rfl|he
    ·refine⟨g,T,arr,s2.trans kb1,kb2,by rw[k1];rfl,fun k r u hk hu=>?_⟩
     subst k1
     cases k with
     |zero=>
      simp only[List.getElem?_cons_zero,Option.some.injEq]at hk
      subst hk
      exact qp7 ⟨_,s1⟩ s2 kb1 (Option.some.inj hu).symm
     |succ k=>simp at hk
    ·exact m1 e' he
   ·cases k with
    |zero=>
     simp only[q0c,List.getElem?_cons_zero,Option.some.injEq]at hk hu
     subst hk hu
     exact⟨.inr (.inl ⟨_,s1⟩),g,s2.trans kb1,kb1⟩
    |succ k=>exact m2 k r u (by simpa[q0c]using hk) (by simpa using hu)
 | .bc l::ps,i,x,vs,bl,h,hjs=>by
  simp only[qre,Bool.and_eq_true]at hjs
  obtain⟨v,rest,b1,b2,rfl,rfl,⟨g,T,arr,⟨kb1,kb2⟩,k1,rfl⟩,k3⟩:=h
  obtain⟨L,l1,l2,l3,l4,l4',l5,l6,l7⟩:=q3e (ps0:=ps0) ps (i+1) x.2 rest b2 k3 hjs.2
  obtain⟨M,m1,m2,m3,m4,m5⟩:=q3d (i:=i) (ps0:=ps0) l 0 x.1 arr.toList k1 hjs.1
  refine⟨(pid i,.cells (q11 i 0 l x.1),v)::(M++L),by simp[q1c,Ent.two,l1,m1],by simp[q1n,l2,m2],by simp[l3,m3,kb1,q0u,q0i],by simp[l4],by simp[q0c,l4'],fun j p v' hp hv hpin=>?_,fun id hid=>?_,fun own' E' hst hbx hok=>?_⟩
  ·cases j with
   |zero=>
    simp only[List.getElem?_cons_zero,Option.some.injEq]at hv
    exact⟨_,mS,rfl,hv,fun _=>⟨.inr ⟨_,rfl⟩,g,by rw[<-hv];exact kb1⟩⟩
   |succ j=>
    obtain⟨e,e1,e2,e3,e4⟩:=l5 j p v' (by simpa using hp) (by simpa using hv) hpin
    exact⟨e,mC _ (mA.2 (.inr e1)),by rw[e2,show i+1+j=i+(j+1)from by omega],e3,e4⟩
  ·rcases List.mem_cons.1 hid with rfl|hid
   ·exact⟨_,mS,rfl,rfl⟩
   ·obtain⟨e,e1,e2⟩:=l6 id hid
    exact⟨e,mC _ (mA.2 (.inr e1)),e2⟩
  ·obtain⟨q1,q2⟩:=l7 own' E' (fun e he=>hst e (mC _ (mA.2 (.inr he)))) hbx hok
   obtain⟨c1,c2⟩:=m5 own' E' (fun e he=>hst e (mC _ (mA.2 (.inl he)))) hbx hok
   obtain⟨s1,s2⟩:=hst _ mS
   refine⟨fun e' he=>?_,fun k r u hk hu=>?_⟩
   ·rcases List.mem_cons.1 he with rfl|he
    ·exact⟨g,T,arr,s2.trans kb1,kb2,by simpa using m4,fun k r u hk hu=>c2 k r u hk (by simpa using hu)⟩
    ·rcases mA.1 he with he|he
     ·exact c1 e' he
     ·exact q1 e' he
   ·cases k with
    |zero=>
     simp only[q0c,List.getElem?_cons_zero,Option.some.injEq]at hk hu
     subst hk hu
     exact⟨.inr (.inl ⟨_,s1⟩),g,s2.trans kb1,kb1⟩
    |succ k=>exact q2 k r u (by simpa[q0c]using hk) (by simpa using hu)
 | .fn f js::ps,i,x,vs,bl,h,hjs=>by
  simp only[qre,Bool.and_eq_true]at hjs
  obtain⟨v,rest,b1,b2,rfl,rfl,⟨k1,rfl⟩,k3⟩:=h
  obtain⟨L,l1,l2,l3,l4,l4',l5,l6,l7⟩:=q3e (ps0:=ps0) ps (i+1) x.2 rest b2 k3 hjs.2
  refine⟨L,l1,l2,by simpa using l3,by simp[l4],by simp[q0c,l4'],fun j p v' hp hv hpin=>?_,l6,fun own' E' hst hbx hok=>?_⟩
  ·cases j with
   |zero=>
    simp only[List.getElem?_cons_zero,Option.some.injEq]at hp
    subst hp
    cases hpin
   |succ j=>
    obtain⟨e,e1,e2,e3,e4⟩:=l5 j p v' (by simpa using hp) (by simpa using hv) hpin
    exact⟨e,e1,by rw[e2,show i+1+j=i+(j+1)from by omega],e3,e4⟩
  ·obtain⟨m1,m2⟩:=l7 own' E' hst hbx hok
   refine⟨m1,fun k r u hk hu=>?_⟩
   cases k with
   |zero=>
    simp only[q0c,List.getElem?_cons_zero,Option.some.injEq]at hk hu
    subst hk hu
    rw[show v=_ from k1]
    exact qj3 hbx hjs.1
   |succ k=>exact m2 k r u (by simpa[q0c]using hk) (by simpa using hu)
 | .rp t::ps,i,x,vs,bl,h,hjs=>by
  obtain⟨v,rest,b1,b2,rfl,rfl,⟨⟨ad,cs,k1,k2,k2',k2''⟩,rfl⟩,k3⟩:=h
  obtain⟨L,l1,l2,l3,l4,l4',l5,l6,l7⟩:=q3e (ps0:=ps0) ps (i+1) x.2 rest b2 k3 hjs
  refine⟨L,l1,l2,by simpa using l3,by simp[l4],by simp[q0c,l4'],fun j p v' hp hv hpin=>?_,l6,fun own' E' hst hbx hok=>?_⟩
  ·cases j with
   |zero=>
    simp only[List.getElem?_cons_zero,Option.some.injEq]at hp
    subst hp
    cases hpin
   |succ j=>
    obtain⟨e,e1,e2,e3,e4⟩:=l5 j p v' (by simpa using hp) (by simpa using hv) hpin
    exact⟨e,e1,by rw[e2,show i+1+j=i+(j+1)from by omega],e3,e4⟩
  ·obtain⟨m1,m2⟩:=l7 own' E' hst hbx hok
   refine⟨m1,fun k r u hk hu=>?_⟩
   cases k with
   |zero=>
    simp only[q0c,List.getElem?_cons_zero,Option.some.injEq]at hk hu
    subst hk hu
    exact⟨ad,cs,k1,hok _ k2,q08 (fun _ _ _ h=>h) hok k2',k2''⟩
   |succ k=>exact m2 k r u (by simpa[q0c]using hk) (by simpa using hu)
 | .go el e::ps,i,x,vs,bl,h,hjs=>by
  obtain⟨v,rest,b1,b2,rfl,rfl,⟨k1,rfl⟩,k3⟩:=h
  obtain⟨L,l1,l2,l3,l4,l4',l5,l6,l7⟩:=q3e (ps0:=ps0) ps (i+1) x.2 rest b2 k3 hjs
  refine⟨(pid i,.row el e x.1 [] false,v)::L,by simp[q1c,Ent.two,l1],by simp[q1n,l2],by simp[l3],by simp[l4],by simp[q0c,l4'],fun j p v' hp hv hpin=>?_,fun id hid=>?_,fun own' E' hst hbx hok=>?_⟩
  ·cases j with
   |zero=>
    simp only[List.getElem?_cons_zero,Option.some.injEq]at hp
    subst hp
    cases hpin
   |succ j=>
    obtain⟨e,e1,e2,e3,e4⟩:=l5 j p v' (by simpa using hp) (by simpa using hv) hpin
    exact⟨e,mC _ e1,by rw[e2,show i+1+j=i+(j+1)from by omega],e3,e4⟩
  ·obtain⟨e,e1,e2⟩:=l6 id hid
   exact⟨e,mC _ e1,e2⟩
  ·obtain⟨m1,m2⟩:=l7 own' E' (fun e he=>hst e (mC _ he)) hbx hok
   obtain⟨s1,s2⟩:=hst _ mS
   refine⟨fun e' he=>?_,fun k r u hk hu=>?_⟩
   ·rcases List.mem_cons.1 he with rfl|he
    ·exact q56 k1 s2 hok
    ·exact m1 e' he
   ·cases k with
    |zero=>
     simp only[q0c,List.getElem?_cons_zero,Option.some.injEq]at hk hu
     subst hk hu
     exact⟨s2.symm,x.1.length,e,el,x.1,[],false,s1,rfl⟩
    |succ k=>exact m2 k r u (by simpa[q0c]using hk) (by simpa using hu)
 | .ag n l::ps,i,x,vs,bl,h,hjs=>by
  simp only[qre,Bool.and_eq_true]at hjs
  obtain⟨v,rest,b1,b2,rfl,rfl,⟨cs,k1,k1',rfl⟩,k3⟩:=h
  obtain⟨L,l1,l2,l3,l4,l4',l5,l6,l7⟩:=q3e (ps0:=ps0) ps (i+1) x.2 rest b2 k3 hjs.2
  obtain⟨M,m1,m2,m3,m4,m5⟩:=q3d (i:=i) (ps0:=ps0) l 0 x.1 cs k1' hjs.1
  refine⟨(pid i,.vals n (q11 i 0 l x.1),v)::(M++L),by simp[q1c,Ent.two,l1,m1],by simp[q1n,l2,m2],by simp[l3,m3,k1,q0u,q0i],by simp[l4],by simp[q0c,l4'],fun j p v' hp hv hpin=>?_,fun id hid=>?_,fun own' E' hst hbx hok=>?_⟩
  ·cases j with
   |zero=>
    simp only[List.getElem?_cons_zero,Option.some.injEq]at hp
    subst hp
    cases hpin
   |succ j=>
    obtain⟨e,e1,e2,e3,e4⟩:=l5 j p v' (by simpa using hp) (by simpa using hv) hpin
    exact⟨e,mC _ (mA.2 (.inr e1)),by rw[e2,show i+1+j=i+(j+1)from by omega],e3,e4⟩
  ·obtain⟨e,e1,e2⟩:=l6 id hid
   exact⟨e,mC _ (mA.2 (.inr e1)),e2⟩
  ·obtain⟨q1,q2⟩:=l7 own' E' (fun e he=>hst e (mC _ (mA.2 (.inr he)))) hbx hok
   obtain⟨c1,c2⟩:=m5 own' E' (fun e he=>hst e (mC _ (mA.2 (.inl he)))) hbx hok
   obtain⟨s1,s2⟩:=hst _ mS
   refine⟨fun e' he=>?_,fun k r u hk hu=>?_⟩
   ·rcases List.mem_cons.1 he with rfl|he
    ·exact⟨cs.toArray,s2.trans k1,by simpa using m4,fun u hu=>q79 l x.1 cs k1' u (by simpa using hu),fun k r u hk hu=>c2 k r u hk (by simpa using hu)⟩
    ·rcases mA.1 he with he|he
     ·exact c1 e' he
     ·exact q1 e' he
   ·cases k with
    |zero=>
     simp only[q0c,List.getElem?_cons_zero,Option.some.injEq]at hk hu
     subst hk hu
     exact⟨.inr (.inr (.inr ⟨n,_,s1⟩)),s2.symm⟩
    |succ k=>exact q2 k r u (by simpa[q0c]using hk) (by simpa using hu)
/-! The end. -/
def qjf:List Nat->List Nat->Bool
 |[],[]=>true
 |a::l,b::m=>Nat.beq a b&&qjf l m
 |_,_=>false
theorem q99:∀{l m:List Nat},qjf l m=true->l=m
 |[],[],_=>rfl
 |[],_::_,h=>by cases h
 |_::_,[],h=>by cases h
 |a::l,b::m,h=>by
  simp only[qjf,Bool.and_eq_true]at h
  rw[Nat.eq_of_beq_eq_true h.1,q99 h.2]
def qp5 (ps0:List PK)(f:FuncId)(js:List Nat):RV N->Bool
 |.fn f' caps=>Nat.beq f' f&&qjf caps (js.map pid)&&js.all (qlo ps0)
 |_=>false
def noFk (f:FuncId)(js:List Nat):RV N->Bool
 |.fn f' []=>Nat.beq f' f&&qjf js []
 |_=>false
theorem qxd {own:List (Nat×Blk N)}(f:FuncId)(js:List Nat)(r:RV N)(u:Value)(h:noFk f js r=true)(hr:q0a w own E r u):u=qb7 [] f js:=by
 unfold noFk at h
 split at h
 ·simp only[Bool.and_eq_true]at h
  obtain rfl:=Nat.eq_of_beq_eq_true h.1
  obtain rfl:=q99 h.2
  exact hr.1
 ·cases h
def q8s (ps0:List PK)(own:List (Nat×Blk N)):Nat->(ps:List PK)->Option (HOut N.ρ ps×List Nat×List Nat)
 |_,[]=>some ((),[],[])
 |i,.v _::ps=>q8s ps0 own (i+1) ps
 | i,.io el e::ps=>match look own (pid i)with
  |some (.row el' e' xs bs _)=>bif eqB el' el then match q0w N (.sl e') (.sl e) xs,q8s ps0 own (i+1) ps with
   |some xs,some (y,B,R)=>some ((xs,y),bs++B,pid i::R)
   |_,_=>none
   else none
  |_=>none
 | i,.bw t::ps=>match look own (pid i)with
  |some (.whole t' x bs)=>match q0w N t' t x,q8s ps0 own (i+1) ps with
   |some x,some (y,B,R)=>some ((x,y),bs++B,pid i::R)
   |_,_=>none
  |_=>none
 | i,.bc l::ps=>match look own (pid i)with
  |some (.cells rs)=>match q1s (qp5 ps0) own l rs,q8s ps0 own (i+1) ps with
   |some (x,b,J),some (y,B,R)=>some ((x,y),b++B,pid i::(J++R))
   |_,_=>none
  |_=>none
 |i,.fv _::ps=>q8s ps0 own (i+1) ps
 | i,.fb f::ps=>match look own (pid i)with
  |some (.cells rs)=>bif qp6 f (pid i) rs then match q8s ps0 own (i+1) ps with
   |some (y,B,R)=>some (((),y),B,pid i::R)
   |none=>none
   else none
  |_=>none
 |i,.ag _ _::ps=>q8s ps0 own (i+1) ps
 |i,.go _ _::ps=>q8s ps0 own (i+1) ps
 |i,.fn _ _::ps=>q8s ps0 own (i+1) ps
 |i,.rp _::ps=>q8s ps0 own (i+1) ps
def z1al:Slot N->Option (RV N)
 |.one r=>some r
 |_=>none
def z138 (τ:TypeId->Option TI)(σ:St N):ResultVar->Option (RV N)
 |.tmp t=>some (ev σ (.tmp t))
 | .cell a t=>match τ t with
  | some ⟨.nm n,_⟩=>match ev σ (.tmp a)with
   |.bptr id 0=>match look σ.own id with
    |some (.whole (.nm m) x bs)=>bif Nat.beq m n then some (q5x (.nm m) x bs)else none
    |_=>none
   |.optr id 0 0=>match look σ.own id with
    |some (.row e' T' xs bs _)=>q51 (.nm n) e' T' xs bs 0 0 fun s _=>z1al s
    |_=>none
   |_=>none
  |none=>none
  | some _=>match ev σ (.tmp a)with
   |.bptr id 0=>match look σ.own id with
    |some (.cells [r])=>some r
    |some (.whole ty x bs)=>bif qzl ty then none else some (q5x ty x bs)
    |_=>none
   |_=>none
def z137 (τ:TypeId->Option TI)(σ:St N):ResultVar->Option (Nat×List (RV N))
 |.tmp _=>none
 | .cell a t=>match τ t with
  | some ⟨.nm n,_⟩=>match ev σ (.tmp a)with
   |.bptr id 0=>match look σ.own id with
    |some (.cells l)=>bif Nat.beq l.length (N.size n)&&l.all qgu then some (n,l)else none
    |_=>none
   |_=>none
  |_=>none
def qgc (τ:TypeId->Option TI)(σ:St N):Nat->List ResultVar->Option (List (RV N)×List (Nat×Blk N))
 |_,[]=>some ([],[])
 | i,r::l=>match z137 τ σ r with
  |some (n,cs)=>match look σ.own (700000+i),qgc τ {σ with own:=ins (700000+i) (.vals n cs) σ.own} (i+1) l with
   |none,some (y,ad)=>some (.mp (700000+i)::y,ad++[(700000+i,.vals n cs)])
   |_,_=>none
  |none=>match z138 τ σ r,qgc τ σ (i+1) l with
   |some x,some (y,ad)=>some (x::y,ad)
   |_,_=>none
def qi5 (σ:St N):(rs:List RK)->List (RV N)->Option (HRes N.ρ rs×List Nat×List Nat)
 |[],[]=>some ((),[],[])
 |.v t::rs,d::ds=>match toDen σ.own t d,qi5 σ rs ds with
  |some (x,b),some (y,B,R)=>some ((x,y),b++B,R)
  |_,_=>none
 | .own el e::rs,d::ds=>match d with
  | .own j=>match look σ.own j with
   |some (.row el' e' xs bs false)=>bif eqB el' el then match q0w N (.sl e') (.sl e) xs,qi5 σ rs ds with
    |some xs,some (y,B,R)=>some ((xs,y),bs++B,j::R)
    |_,_=>none
    else none
   |_=>none
  |.nil=>match qi5 σ rs ds with
   |some (y,B,R)=>some (([],y),B,R)
   |none=>none
  |_=>none
 | .ag n l::rs,d::ds=>match d with
  | .mp id=>match look σ.own id with
   |some (.vals m us)=>bif Nat.beq m n then match q1s noFk σ.own l us,qi5 σ rs ds with
    |some (x,b,J),some (y,B,R)=>some ((x,y),b++B,J++R)
    |_,_=>none
    else none
   |_=>none
  |_=>none
 |_,_=>none
def qo1 (τ:TypeId->Option TI)(ps:List PK)(rs:List RK)(ds:List ResultVar)(σ:St N):Option (HRes N.ρ rs×HOut N.ρ ps):=
 match qgc τ σ 0 ds with
 |none=>none
 |some (ds,ad)=>match qi5 {σ with own:=q0d ad σ.own} rs ds,q8s ps (q0d ad σ.own) 0 ps with
  |some (y,B,R),some (z,B',R')=>bif q3f (R'++R)&&!q68 (R'++R) (B++B')then some (y,z)else none
  |_,_=>none
def qf6 (tmps:Array Value):ResultVar->Sem Value
 |.tmp t=>pure (tmps.getD t undef)
 |.cell a t=>do loadVar t (<-asAddr (tmps.getD a undef))
theorem qus {τ:TypeId->Option TI}(F:Fits P N τ)(h:RelE io w0 σ E a w){rv:ResultVar}{r:RV N}(hr:z138 τ σ rv=some r):∃v,(qf6 a.tmps rv).run P w=.ok v w/\q0a w σ.own E r v:=by
 cases rv with
 |tmp t=>
  cases hr
  exact⟨_,rfl,h.ev (.tmp t)⟩
 | cell d t=>
  simp only[z138]at hr
  split at hr
  ·rename_i n e hτ
   split at hr
   ·rename_i id hid
    have hev:=h.ev (.tmp d)
    rw[hid]at hev
    obtain⟨_,g,e1,e2⟩:=hev
    have e2:a.tmps.getD d undef=.pointer (some ⟨g,0,none⟩):=e2
    split at hr
    ·rename_i m x bs hlk
     cases hm:Nat.beq m n with
     |false=>rw[hm]at hr;cases hr
     | true=>
      rw[hm]at hr
      cases hr
      obtain rfl:=Nat.eq_of_beq_eq_true hm
      obtain⟨g',T,arr,c1,c2,c3⟩:=h.own id _ hlk
      rw[e1]at c1
      cases c1
      have hc:∀(j:Nat) u,arr.toList[j]?=some u->w.cell? ((⟨g,0,none⟩:Addr).add j)=some u:=by
       intro j u hu
       have hadd:(⟨g,0,none⟩:Addr).add j=⟨g,j,none⟩:=by unfold Addr.add;split<;>simp_all
       rw[hadd,cell_of_row w g _ arr T (0,0) c2]
       simpa using hu
      obtain⟨v,r1,r2⟩:=F.load hτ c3 hc
      refine⟨v,?_,q1v c3 r2⟩
      simp only[Instr.loadAt,Instr.sureAddr,Sem.run_bind,Sem.run_pure,Result.andThen_ok]at r1
      simpa[qf6,e2,asAddr]using r1
    ·cases hr
   ·rename_i id hid
    have hev:=h.ev (.tmp d)
    rw[hid]at hev
    obtain⟨g,cap,n',t',⟨e2,xs2,bs2,p2,q1,q2⟩,g2,g3,g4⟩:=hev
    have g4:a.tmps.getD d undef=.pointer (some ⟨g,0*N.sz t'+0,none⟩):=g4
    split at hr
    ·rename_i e' T' xs bs p hl
     rw[hl]at q1
     cases q1
     obtain⟨n0,y,hn0,_,_,h1,_,h3⟩:=q40 hr
     cases hn0
     cases h1
     obtain⟨cells,c1,c2⟩:=h.own id _ hl
     have hrep:=h3 c1 (by rw[g3];exact fun e=>by cases e) c2
     rcases c1.2 with⟨hv,hn⟩|⟨g',cap',cur,T0,fz,hv,hg,_,_,_,_,_,ht⟩
     ·rw[g3]at hv;cases hv
     ·rw[g3]at hv
      simp only[Value.slice.injEq,Option.some.injEq,Addr.mk.injEq]at hv
      obtain⟨⟨rfl,_⟩,_,rfl⟩:=hv
      obtain⟨v,r1,r2⟩:=F.load hτ (w:=w) (ad:=⟨g,0*N.sz t'+0,none⟩) hrep (fun j u hu=>by
       rw[<-ht,List.getElem?_take]at hu
       split at hu
       ·rw[show(⟨g,0*N.sz t'+0,none⟩:Addr).add j=⟨g,0*N.sz t'+0+j,none⟩from by unfold Addr.add;split<;>simp_all,cell_of_row w g _ cur _ _ hg,show 0*N.sz t'+0+j=j from by omega]
        simpa using hu
       ·cases hu)
      refine⟨v,?_,cells,hrep,r2⟩
      simp only[Instr.loadAt,Instr.sureAddr,Sem.run_bind,Sem.run_pure,Result.andThen_ok]at r1
      rw[qf6,g4]
      simpa[asAddr]using r1
    ·cases hr
   ·cases hr
  ·cases hr
  ·rename_i ti hn hτ
   obtain⟨ty,e⟩:=ti
   have hagg:(Go.isAgg t).run P w=.ok false w:=by
    rw[F.isAgg hτ w]
    cases ty with
    |nm n=>exact(hn n e rfl).elim
    |_=>rfl
   split at hr
   ·rename_i id hid
    have hev:=h.ev (.tmp d)
    rw[hid]at hev
    obtain⟨_,g,e1,e2⟩:=hev
    have e2:a.tmps.getD d undef=.pointer (some ⟨g,0,none⟩):=e2
    have run:∀u,w.cell? ⟨g,0,none⟩=some u->(qf6 a.tmps (.cell d t)).run P w=.ok u w:=by
     intro u hu
     simp[qf6,e2,asAddr,loadVar,hagg,hu]
    have cell:∀{T:TypeId} {arr:Array Value} {u:Value},w.heap[g]?=some (.cells arr T (0,0))->arr[0]?=some u->w.cell? ⟨g,0,none⟩=some u:=by
     intro T arr u hg hu
     have:=h.box (id:=0) hg 0 0 u (by simpa using hu)
     simpa[Addr.add]using this
    split at hr
    ·rename_i r' hlk
     cases hr
     obtain⟨g',T,arr,c1,c2,c3,c4⟩:=h.own id _ hlk
     rw[e1]at c1
     cases c1
     have hlt:0<arr.size:=by rw[c3];simp
     have hu:arr[0]?=some arr[0]:=Array.getElem?_eq_getElem hlt
     exact⟨_,run _ (cell c2 hu),c4 0 r _ rfl hu⟩
    ·rename_i ty' x bs hlk
     cases hm:qzl ty' with
     |true=>rw[hm]at hr;cases hr
     | false=>
      rw[hm]at hr
      cases hr
      obtain⟨g',T,arr,c1,c2,c3⟩:=h.own id _ hlk
      rw[e1]at c1
      cases c1
      have hlen:arr.size=1:=by
       have:=q05 c3
       rw[Array.length_toList]at this
       rw[this]
       cases ty' with
       |nm n=>cases hm
       |_=>rfl
      have hu:arr[0]?=some (arr[0]'(by omega)):=Array.getElem?_eq_getElem (by omega)
      refine⟨_,run _ (cell c2 hu),q1v c3 ?_⟩
      have hl:arr.toList=[arr[0]'(by omega)]:=by
       obtain⟨l⟩:=arr
       match l,hlen with
       |[v],_=>rfl
      cases ty' with
      |nm n=>cases hm
      |_=>exact hl
    ·cases hr
   ·cases hr
theorem qaa {β:Type}:∀(a b l:List (Nat×β)),q0d (a++b) l=q0d a (q0d b l)
 |[],_,_=>rfl
 |(i,v)::a,b,l=>by simp only[List.cons_append,q0d,qaa a b l]
theorem qur {τ:TypeId->Option TI}(F:Fits P N τ)(h:RelE io w0 σ E a w){rv:ResultVar}{n:Nat}{l:List (RV N)}(hr:z137 τ σ rv=some (n,l)):
  ∃arr:Array Value,(qf6 a.tmps rv).run P w=.ok (.agg arr) w/\arr.size=l.length/\(∀u∈arr.toList,u.oneCell'=true)/\∀(i:Nat) r u,l[i]?=some r->arr[i]?=some u->q0a w σ.own E r u:=by
 cases rv with
 |tmp t=>cases hr
 | cell d t=>
  simp only[z137]at hr
  split at hr
  ·rename_i n' e hτ
   split at hr
   ·rename_i id hid
    split at hr
    ·rename_i l' hlk
     obtain⟨hc,hr⟩:=q02 hr
     cases hr
     simp only[Bool.and_eq_true]at hc
     have hlen:=Nat.eq_of_beq_eq_true hc.1
     have hev:=h.ev (.tmp d)
     rw[hid]at hev
     obtain⟨_,g,e1,e2⟩:=hev
     have e2:a.tmps.getD d undef=.pointer (some ⟨g,0,none⟩):=e2
     obtain⟨g',T,arr,c1,c2,c3,c4⟩:=h.own id _ hlk
     rw[e1]at c1
     cases c1
     have hl:=F.loadCells hτ (w:=w) (cs:=arr.toList) (ad:=⟨g,0,none⟩) (by simpa[hlen]using c3) (fun j u hu=>h.box (id:=id) c2 0 j u (by simpa using hu))
     refine⟨arr,?_,c3,fun u hu=>?_,c4⟩
     ·simp only[Instr.loadAt,Instr.sureAddr,Sem.run_bind,Sem.run_pure,Result.andThen_ok]at hl
      simpa[qf6,e2,asAddr]using hl
     ·obtain⟨i,hi⟩:=List.getElem?_of_mem hu
      have hi:arr[i]?=some u:=by simpa using hi
      have hlt:i<l.length:=by rw[<-c3];exact(Array.getElem?_eq_some_iff.1 hi).1
      exact h.cellOne (c4 i l[i] u (gE hlt) hi) (List.all_eq_true.1 hc.2 _ (gM hlt))
    ·cases hr
   ·cases hr
  ·cases hr
theorem q8i {τ:TypeId->Option TI}(F:Fits P N τ):∀{rvs:List ResultVar} {σ:St N} {E:Env} {i:Nat} {l:List (RV N)} {ad:List (Nat×Blk N)},RelE io w0 σ E a w->qgc τ σ i rvs=some (l,ad)->
  ∃(E':Env) (us:List Value),RelE io w0 {σ with own:=q0d ad σ.own} E' a w/\(∀r v,q0a w σ.own E r v->q0a w (q0d ad σ.own) E' r v)/\us.length=l.length/\us.length=rvs.length/\(∀(i:Nat) rv u,rvs[i]?=some rv->us[i]?=some u->(qf6 a.tmps rv).run P w=.ok u w)/\
   ∀(i:Nat) r u,l[i]?=some r->us[i]?=some u->q0a w (q0d ad σ.own) E' r u
 |[],σ,E,i,l,ad,h,hl=>by
  cases hl
  exact⟨E,[],h,(fun _ _ h=>h),rfl,rfl,(fun i rv u hi _=>by simp at hi),fun i rv u hi _=>by simp at hi⟩
 | rv ::rvs,σ,E,i,l,ad,h,hl=>by
  simp only[qgc]at hl
  split at hl
  ·rename_i n cs hcs
   split at hl
   ·rename_i y ad' hno hy
    cases hl
    obtain⟨arr,k1,k2,k3,k4⟩:=qur F h hcs
    have hadd:=h.add (Ext.refl w) (V:=.agg arr) (b:=.vals n cs) hno (fun g hg=>by cases hg) ⟨arr,q07 _ _ _,k2,k3,fun i r u hi hu=>q22 (Ext.refl w) hno (fun g hg=>by cases hg) (k4 i r u hi hu)⟩
    obtain⟨E',us,q1,q2,q3,q4,q5,q6⟩:=q8i F hadd hy
    have hown:q0d (ad'++[(700000+i,Blk.vals n cs)]) σ.own=q0d ad' (ins (700000+i) (.vals n cs) σ.own):=by rw[qaa];rfl
    refine⟨E',.agg arr::us,by rw[hown];exact q1,fun r v hr=>by rw[hown];exact q2 r v (q22 (Ext.refl w) hno (fun g hg=>by cases hg) hr),by simp[q3],by simp[q4],fun j rv u hj hu=>?_,fun j r u hj hu=>?_⟩
    ·cases j with
     |zero=>
      simp only[List.getElem?_cons_zero,Option.some.injEq]at hj hu
      subst hj hu
      exact k1
     |succ j=>exact q5 j rv u (by simpa using hj) (by simpa using hu)
    ·rw[hown]
     cases j with
     |zero=>
      simp only[List.getElem?_cons_zero,Option.some.injEq]at hj hu
      subst hj hu
      refine q2 _ _ ⟨.inr (.inr (.inr ⟨n,cs,?_⟩)),(q07 _ _ _).symm⟩
      show look (ins (700000+i) (Blk.vals n cs) σ.own) (700000+i)=_
      rw[q09,if_pos rfl]
     |succ j=>exact q6 j r u (by simpa using hj) (by simpa using hu)
   ·cases hl
  ·split at hl
   ·rename_i x y ad' hx hy
    cases hl
    obtain⟨v,v1,v2⟩:=qus F h hx
    obtain⟨E',us,q1,q2,q3,q4,q5,q6⟩:=q8i F h hy
    refine⟨E',v::us,q1,q2,by simp[q3],by simp[q4],fun j rv u hj hu=>?_,fun j r u hj hu=>?_⟩
    ·cases j with
     |zero=>
      simp only[List.getElem?_cons_zero,Option.some.injEq]at hj hu
      subst hj hu
      exact v1
     |succ j=>exact q5 j rv u (by simpa using hj) (by simpa using hu)
    ·cases j with
     |zero=>
      simp only[List.getElem?_cons_zero,Option.some.injEq]at hj hu
      subst hj hu
      exact q2 _ _ v2
     |succ j=>exact q6 j r u (by simpa using hj) (by simpa using hu)
   ·cases hl
theorem q61 {ok ok':Nat->Prop}{vs0:List Value}(h:∀g,ok g->ok' g):∀{l:List CK} {x:HC N.ρ l} {us:List Value},qdd w ok vs0 l x us->qdd w ok' vs0 l x us
 |[],_,_,hh=>hh
 |.c t::l,x,us,⟨u,rest,e,k1,k2⟩=>⟨u,rest,e,q08 (fun _ _ _ h=>h) h k1,q61 h k2⟩
 |.o el t::l,x,us,⟨u,rest,e,⟨cells,k1,k3⟩,k2⟩=>⟨u,rest,e,⟨cells,k1,q0r (fun x cs hx=>q08 (fun _ _ _ h=>h) h hx) k3⟩,q61 h k2⟩
 |.f f js::l,x,us,⟨u,rest,e,k1,k2⟩=>⟨u,rest,e,k1,q61 h k2⟩
theorem q4h (h:RelE io w0 σ E a w){okA:Nat->Prop}{B0:List Nat}{ps0:List PK}{vs0:List Value}(hfk:∀f js r u,qp5 ps0 f js r=true->q0a w σ.own E r u->u=qb7 vs0 f js)(hA:∀g,okb w.heap.size σ.own E B0 g->okA g):∀(ps:List PK) (i:Nat) (vs:List Value) (y:HOut N.ρ ps) (B R:List Nat),q8s ps0 σ.own i ps=some (y,B,R)->(∀k∈B,k∈B0)->vs.length=ps.length->
  (∀(j:Nat) p v,ps[j]?=some p->vs[j]?=some v->qi3 p=true->E (pid (i+j))=v)->
  q62 w okA vs0 ps y vs (R.flatMap fun id=>q0u (E id))/\∀id∈R,∃b,look σ.own id=some b
 |[],i,vs,y,B,R,ho,hB,hl,hv=>by
  cases ho
  exact⟨rfl,fun id hid=>by cases hid⟩
 | .v t::ps,i,vs,y,B,R,ho,hB,hl,hv=>by
  match vs,hl with
  | v::vs,hl=>
   exact q4h h hfk hA ps (i+1) vs y B R ho hB (by simpa using hl) (fun j p v hp hv' hpin=>by
    rw[show i+1+j=i+(j+1)from by omega]
    exact hv (j+1) p v (by simpa using hp) (by simpa using hv') hpin)
 | .io el e::ps,i,vs,y,B,R,ho,hB,hl,hv=>by
  match vs,hl with
  | v ::vs,hl=>
   have hEv:E (pid i)=v:=hv 0 _ v rfl rfl rfl
   simp only[q8s]at ho
   split at ho
   ·rename_i el' e' xs bs p hlk
    obtain⟨hel,ho⟩:=q02 ho
    obtain⟨hel,hlt⟩:=q5k hel
    subst hel
    split at ho
    ·rename_i xs' y1 B1 R1 h1 h2
     cases ho
     obtain⟨et,rfl⟩:=q0b h1
     cases et
     obtain⟨q1,q2⟩:=q4h h hfk hA ps (i+1) vs y1 B1 R1 h2 (fun k hk=>hB k (mA.2 (.inr hk))) (by simpa using hl) (fun j p v hp hv' hpin=>by
      rw[show i+1+j=i+(j+1)from by omega]
      exact hv (j+1) p v (by simpa using hp) (by simpa using hv') hpin)
     obtain⟨cells,c1,c2⟩:=q6a (fun k hk=>hB k (mA.2 (.inl hk))) (h.ownAt hlk hlt)
     rw[hEv]at c1
     exact⟨⟨v,vs,q0u v,_,rfl,by rw[List.flatMap_cons,hEv],⟨⟨cells,c1,q0r (fun x cs hx=>q08 (fun _ _ _ h=>h) hA hx) c2⟩,rfl⟩,q1⟩,fun id hid=>by
      rcases List.mem_cons.1 hid with rfl|hid
      ·exact⟨_,hlk⟩
      ·exact q2 id hid⟩
    ·cases ho
   ·cases ho
 | .bw t::ps,i,vs,y,B,R,ho,hB,hl,hv=>by
  match vs,hl with
  | v ::vs,hl=>
   have hEv:E (pid i)=v:=hv 0 _ v rfl rfl rfl
   simp only[q8s]at ho
   split at ho
   ·rename_i t' x bs hlk
    split at ho
    ·rename_i x' y1 B1 R1 h1 h2
     cases ho
     obtain⟨rfl,rfl⟩:=q0b h1
     obtain⟨q1,q2⟩:=q4h h hfk hA ps (i+1) vs y1 B1 R1 h2 (fun k hk=>hB k (mA.2 (.inr hk))) (by simpa using hl) (fun j p v hp hv' hpin=>by
      rw[show i+1+j=i+(j+1)from by omega]
      exact hv (j+1) p v (by simpa using hp) (by simpa using hv') hpin)
     obtain⟨g,T,arr,c1,c2,c3⟩:=h.own _ _ hlk
     have c3:=q2b (fun k hk=>hB k (mA.2 (.inl hk))) c3
     rw[hEv]at c1
     exact⟨⟨v,vs,[g],_,rfl,by rw[List.flatMap_cons,hEv,c1];rfl,⟨g,T,arr,⟨c1,c2⟩,q08 (fun _ _ _ h=>h) hA c3,rfl⟩,q1⟩,fun id hid=>by
      rcases List.mem_cons.1 hid with rfl|hid
      ·exact⟨_,hlk⟩
      ·exact q2 id hid⟩
    ·cases ho
   ·cases ho
 | .ag n l::ps,i,vs,y,B,R,ho,hB,hl,hv=>by
  match vs,hl with
  | v::vs,hl=>
   exact q4h h hfk hA ps (i+1) vs y B R ho hB (by simpa using hl) (fun j p v hp hv' hpin=>by
    rw[show i+1+j=i+(j+1)from by omega]
    exact hv (j+1) p v (by simpa using hp) (by simpa using hv') hpin)
 | .go el e::ps,i,vs,y,B,R,ho,hB,hl,hv=>by
  match vs,hl with
  | v::vs,hl=>
   exact q4h h hfk hA ps (i+1) vs y B R ho hB (by simpa using hl) (fun j p v hp hv' hpin=>by
    rw[show i+1+j=i+(j+1)from by omega]
    exact hv (j+1) p v (by simpa using hp) (by simpa using hv') hpin)
 | .fn f js::ps,i,vs,y,B,R,ho,hB,hl,hv=>by
  match vs,hl with
  | v::vs,hl=>
   exact q4h h hfk hA ps (i+1) vs y B R ho hB (by simpa using hl) (fun j p v hp hv' hpin=>by
    rw[show i+1+j=i+(j+1)from by omega]
    exact hv (j+1) p v (by simpa using hp) (by simpa using hv') hpin)
 | .rp t::ps,i,vs,y,B,R,ho,hB,hl,hv=>by
  match vs,hl with
  | v::vs,hl=>
   exact q4h h hfk hA ps (i+1) vs y B R ho hB (by simpa using hl) (fun j p v hp hv' hpin=>by
    rw[show i+1+j=i+(j+1)from by omega]
    exact hv (j+1) p v (by simpa using hp) (by simpa using hv') hpin)
 | .fv f::ps,i,vs,y,B,R,ho,hB,hl,hv=>by
  match vs,hl with
  | v::vs,hl=>
   exact q4h h hfk hA ps (i+1) vs y B R ho hB (by simpa using hl) (fun j p v hp hv' hpin=>by
    rw[show i+1+j=i+(j+1)from by omega]
    exact hv (j+1) p v (by simpa using hp) (by simpa using hv') hpin)
 | .fb f::ps,i,vs,y,B,R,ho,hB,hl,hv=>by
  match vs,hl with
  | v ::vs,hl=>
   have hEv:E (pid i)=v:=hv 0 _ v rfl rfl rfl
   simp only[q8s]at ho
   split at ho
   ·rename_i rs hlk
    obtain⟨hf,ho⟩:=q02 ho
    rw[qf7 hf]at hlk
    split at ho
    ·rename_i y1 B1 R1 h2
     cases ho
     obtain⟨q1,q2⟩:=q4h h hfk hA ps (i+1) vs y1 B R1 h2 hB (by simpa using hl) (fun j p v hp hv' hpin=>by
      rw[show i+1+j=i+(j+1)from by omega]
      exact hv (j+1) p v (by simpa using hp) (by simpa using hv') hpin)
     obtain⟨g,T,arr,c1,c2,c3,c4⟩:=h.own _ _ hlk
     rw[hEv]at c1
     refine⟨⟨v,vs,[g],_,rfl,by rw[List.flatMap_cons,hEv,c1];rfl,⟨g,T,arr,⟨c1,c2⟩,?_,rfl⟩,q1⟩,fun id hid=>?_⟩
     ·obtain⟨l⟩:=arr
      match l,c3 with
      |[u],_=>
       have:=(c4 0 _ u rfl (by simp)).1
       rw[this,<-hEv]
       rfl
     ·rcases List.mem_cons.1 hid with rfl|hid
      ·exact⟨_,hlk⟩
      ·exact q2 id hid
    ·cases ho
   ·cases ho
 | .bc l::ps,i,vs,y,B,R,ho,hB,hl,hv=>by
  match vs,hl with
  | v ::vs,hl=>
   have hEv:E (pid i)=v:=hv 0 _ v rfl rfl rfl
   simp only[q8s]at ho
   split at ho
   ·rename_i rs hlk
    split at ho
    ·rename_i x b J y1 B1 R1 h1 h2
     cases ho
     obtain⟨q1,q2⟩:=q4h h hfk hA ps (i+1) vs y1 B1 R1 h2 (fun k hk=>hB k (mA.2 (.inr hk))) (by simpa using hl) (fun j p v hp hv' hpin=>by
      rw[show i+1+j=i+(j+1)from by omega]
      exact hv (j+1) p v (by simpa using hp) (by simpa using hv') hpin)
     obtain⟨g,T,arr,c1,c2,c3,c4⟩:=h.own _ _ hlk
     obtain⟨p1,p2,p3⟩:=q2x h (B0:=B0) hfk l rs arr.toList x b J h1 (by simpa using c3) (fun i r u hi hu=>c4 i r u hi (by simpa using hu)) (fun i hi=>hB i (mA.2 (.inl hi)))
     rw[hEv]at c1
     refine⟨⟨v,vs,g::q4i l arr.toList,_,rfl,?_,⟨g,T,arr,⟨c1,c2⟩,q61 hA p1,rfl⟩,q1⟩,fun id hid=>?_⟩
     ·rw[List.flatMap_cons,List.flatMap_append,hEv,c1,p2]
      simp[q0u,q0i]
     ·rcases List.mem_cons.1 hid with rfl|hid
      ·exact⟨_,hlk⟩
      ·rcases mA.1 hid with hid|hid
       ·obtain⟨b,hb,_⟩:=p3 id hid
        exact⟨b,hb⟩
       ·exact q2 id hid
    ·cases ho
   ·cases ho
theorem q6c (h:RelE io w0 σ E a w){okA:Nat->Prop}{B0:List Nat}(hA:∀g,okb w.heap.size σ.own E B0 g->okA g):∀(rs:List RK) (ds:List (RV N)) (us:List Value) (y:HRes N.ρ rs) (B R:List Nat),qi5 σ rs ds=some (y,B,R)->(∀k∈B,k∈B0)->
  us.length=ds.length->(∀(i:Nat) r u,ds[i]?=some r->us[i]?=some u->q0a w σ.own E r u)->
  qne w okA rs y us (R.flatMap fun id=>q0u (E id))/\∀id∈R,∃b,look σ.own id=some b
 |[],[],us,y,B,R,hr,hB,hl,hu=>by
  cases hr
  rw[List.eq_nil_of_length_eq_zero hl]
  exact⟨⟨rfl,rfl⟩,fun id hid=>by cases hid⟩
 |[],_::_,us,y,B,R,hr,hB,hl,hu=>by cases hr
 |.v t::rs,[],us,y,B,R,hr,hB,hl,hu=>by cases hr
 |.own el e::rs,[],us,y,B,R,hr,hB,hl,hu=>by cases hr
 |.ag n l::rs,[],us,y,B,R,hr,hB,hl,hu=>by cases hr
 | .ag n l::rs,d::ds,us,y,B,R,hr,hB,hl,hu=>by
  match us,hl with
  | u ::us,hl=>
   have hu0:=hu 0 d u rfl rfl
   have hus:∀(i:Nat) r u,ds[i]?=some r->us[i]?=some u->q0a w σ.own E r u:=fun i r u hi hu'=>hu (i+1) r u (by simpa using hi) (by simpa using hu')
   simp only[qi5]at hr
   split at hr
   ·rename_i _ id _
    split at hr
    ·rename_i m cs hlk
     obtain⟨hm,hr⟩:=q02 hr
     split at hr
     ·rename_i x b J y1 B1 R1 h1 h2
      cases hr
      obtain⟨q1,q2⟩:=q6c h hA rs ds us y1 B1 R1 h2 (fun k hk=>hB k (mA.2 (.inr hk))) (by simpa using hl) hus
      obtain⟨arr,c1,c2,c3,c4⟩:=h.own _ _ hlk
      obtain⟨p1,p2,p3⟩:=q2x h (B0:=B0) qxd l cs arr.toList x b J h1 (by simpa using c2) (fun i r u hi hu=>c4 i r u hi (by simpa using hu)) (fun i hi=>hB i (mA.2 (.inl hi)))
      refine⟨⟨u,us,q4i l arr.toList,_,rfl,?_,⟨arr.toList,by rw[hu0.2,c1],q61 hA p1,rfl⟩,q1⟩,fun id hid=>?_⟩
      ·rw[List.flatMap_append,p2]
      ·rcases mA.1 hid with hid|hid
       ·obtain⟨b,hb,_⟩:=p3 id hid
        exact⟨b,hb⟩
       ·exact q2 id hid
     ·cases hr
    ·cases hr
   ·cases hr
 | .v t::rs,d::ds,us,y,B,R,hr,hB,hl,hu=>by
  match us,hl with
  | u::us,hl=>
   have hu0:=hu 0 d u rfl rfl
   have hus:∀(i:Nat) r u,ds[i]?=some r->us[i]?=some u->q0a w σ.own E r u:=fun i r u hi hu'=>hu (i+1) r u (by simpa using hi) (by simpa using hu')
   simp only[qi5]at hr
   split at hr
   ·rename_i x b y1 B1 R1 h1 h2
    cases hr
    obtain⟨q1,q2⟩:=q6c h hA rs ds us y1 B1 R h2 (fun k hk=>hB k (mA.2 (.inr hk))) (by simpa using hl) hus
    obtain⟨cs,k1,k2⟩:=h.toDen h1 hu0
    exact⟨⟨_,_,[],_,rfl,rfl,⟨⟨cs,q08 (fun _ _ _ h=>h) hA (q2b (fun k hk=>hB k (mA.2 (.inl hk))) k1),k2⟩,rfl⟩,q1⟩,q2⟩
   ·cases hr
 | .own el e::rs,d::ds,us,y,B,R,hr,hB,hl,hu=>by
  match us,hl with
  | u ::us,hl=>
   have hev:=hu 0 d u rfl rfl
   have hus:∀(i:Nat) r u,ds[i]?=some r->us[i]?=some u->q0a w σ.own E r u:=fun i r u hi hu'=>hu (i+1) r u (by simpa using hi) (by simpa using hu')
   simp only[qi5]at hr
   split at hr
   ·rename_i _ j _
    split at hr
    ·rename_i el' e' xs bs hlk
     obtain⟨hel,hr⟩:=q02 hr
     obtain⟨hel,hlt⟩:=q5k hel
     subst hel
     split at hr
     ·rename_i xs' y1 B1 R1 h1 h2
      cases hr
      obtain⟨et,rfl⟩:=q0b h1
      cases et
      obtain⟨q1,q2⟩:=q6c h hA rs ds us y1 B1 R1 h2 (fun k hk=>hB k (mA.2 (.inr hk))) (by simpa using hl) hus
      obtain⟨cells,c1,c2⟩:=q6a (fun k hk=>hB k (mA.2 (.inl hk))) (h.ownAt hlk hlt)
      rw[<-hev.1]at c1
      refine⟨⟨_,_,q0u (E j),_,rfl,rfl,⟨⟨cells,c1,q0r (fun x cs hx=>q08 (fun _ _ _ h=>h) hA hx) c2⟩,by rw[<-hev.1]⟩,q1⟩,fun id hid=>?_⟩
      rcases List.mem_cons.1 hid with rfl|hid
      ·exact⟨_,hlk⟩
      ·exact q2 id hid
     ·cases hr
    ·cases hr
   ·split at hr
    ·rename_i y1 B1 R1 h2
     cases hr
     obtain⟨q1,q2⟩:=q6c h hA rs ds us y1 B R h2 hB (by simpa using hl) hus
     have hev:u=.slice none 0 0:=hev
     refine⟨⟨_,_,[],_,rfl,rfl,⟨⟨[],?_,rfl⟩,?_⟩,q1⟩,q2⟩
     ·show _/\w.ownsRow 0 el (N.sz e) u 0 []
      rw[hev]
      exact⟨.inl rfl,by simp,.inl ⟨rfl,rfl⟩⟩
     ·show[]=q0u u
      rw[hev]
      rfl
    ·cases hr
   ·cases hr
end Go.Eng

set_option linter.unusedVariables false
set_option linter.unusedSimpArgs false
namespace Go.Eng
variable {N:Names} {P:Program}
theorem qez {fn:Func}{ds:List ResultVar}(h:fn.results.toList=ds)(hl:ds.length<=5)(tmps:Array Value)(w:World)(us:List Value)(hlen:us.length=ds.length)
  (hus:∀(i:Nat) rv u,ds[i]?=some rv->us[i]?=some u->(qf6 tmps rv).run P w=.ok u w):(results fn tmps).run P w=.ok (qai us) w:=by
 have hr:fn.results=ds.toArray:=Array.ext' h
 have e:results fn tmps=(do let vs<-fn.results.mapM (qf6 tmps);pure (if h:vs.size=1 then vs[0]else .tuple vs)):=by
  have hf:qf6 tmps=fun rv=>match rv with
    |.tmp t=>pure (tmps.getD t undef)
    |.cell a t=>(do loadVar t (<-asAddr (tmps.getD a undef)):Sem Value):=(funext fun rv=>by cases rv<;>rfl)
  rw[hf]
  rfl
 rw[e,hr]
 clear e
 match ds,hl,us,hlen with
 |[],_,[],_=>simp[qai]
 |[d1],_,[u1],_=>
  have h1:=hus 0 d1 u1 rfl rfl
  simp[qai,h1]
 |[d1,d2],_,[u1,u2],_=>
  have h1:=hus 0 d1 u1 rfl rfl
  have h2:=hus 1 d2 u2 rfl rfl
  simp[qai,h1,h2]
 |[d1,d2,d3],_,[u1,u2,u3],_=>
  have h1:=hus 0 d1 u1 rfl rfl
  have h2:=hus 1 d2 u2 rfl rfl
  have h3:=hus 2 d3 u3 rfl rfl
  simp[qai,h1,h2,h3]
 |[d1,d2,d3,d4],_,[u1,u2,u3,u4],_=>
  have h1:=hus 0 d1 u1 rfl rfl
  have h2:=hus 1 d2 u2 rfl rfl
  have h3:=hus 2 d3 u3 rfl rfl
  have h4:=hus 3 d4 u4 rfl rfl
  simp[qai,h1,h2,h3,h4]
 |[d1,d2,d3,d4,d5],_,[u1,u2,u3,u4,u5],_=>
  have h1:=hus 0 d1 u1 rfl rfl
  have h2:=hus 1 d2 u2 rfl rfl
  have h3:=hus 2 d3 u3 rfl rfl
  have h4:=hus 3 d4 u4 rfl rfl
  have h5:=hus 4 d5 u5 rfl rfl
  simp[qai,h1,h2,h3,h4,h5]
structure Fn (N:Names)where
 X:Ctx N
 body:Code
 ds:List ResultVar
 ntmps:Nat
abbrev U:Slot N:=.one .undef
def qfx (f:Func):Code:=match f.body with
 |some c=>c
 |none=>.skip
def Fn.C (f:Fn N)(ps:List PK)(rs:List RK):Conts N (HRes N.ρ rs×HOut N.ρ ps):=⟨qo1 f.X.τ ps rs f.ds,fun _ _=>none,qo1 f.X.τ ps rs f.ds⟩
def Fn.at (f:Fn N)(ps:List PK)(rs:List RK)(n id:Nat)(σ:St N):Option (HRes N.ρ rs×HOut N.ρ ps):=tbl f.X f.body (f.C ps rs) n id σ
def Fn.from (f:Fn N)(ps:List PK)(rs:List RK)(n:Nat)(σ:St N):Option (HRes N.ρ rs×HOut N.ρ ps):=qe4 f.X (f.at ps rs n) f.body (f.C ps rs) σ
def Fn.run (f:Fn N)(ps:List PK)(rs:List RK)(n:Nat)(x:HIn N.ρ ps):Option (HRes N.ρ rs×HOut N.ρ ps):=f.from ps rs n (qg4 ps f.ntmps f.X.gh x)
theorem q3z {P : Program}{f : FuncId}{fn : Func}{c : Code}(hf : P.funcs[f]? = some fn)(hb : fn.body = some c)(hn : (fn.name == "runtime.NumGoroutine") = false)(w : World)(args : Array Value) :
  (callFunc f args).run P w=.ok (.enter f args) w:=by
 unfold callFunc
 simp only[Sem.run_bind,run_program,Result.andThen_ok,hf,hb,hn,Option.isNone_some,Bool.false_eq_true,if_false,Sem.run_pure]
theorem q8f:∀(ps:List PK) (i j:Nat) (p:PK),ps[j]?=some p->qi3 p=true->pid (i+j)∈q4d i ps
 |[],i,j,p,hp,_=>by simp at hp
 |q::ps,i,0,p,hp,hpin=>by
  simp only[List.getElem?_cons_zero,Option.some.injEq]at hp
  subst hp
  cases q with
  |v t=>cases hpin
  |fv f=>cases hpin
  |ag n l=>cases hpin
  |go el e=>cases hpin
  |fn f js=>cases hpin
  |rp t=>cases hpin
  |_=>exact mS
 |q::ps,i,j+1,p,hp,hpin=>by
  have:=q8f ps (i+1) j p (by simpa using hp) hpin
  rw[show i+1+j=i+(j+1)from by omega]at this
  cases q with
  |v t=>exact this
  |fv f=>exact this
  |ag n l=>exact this
  |go el e=>exact this
  |fn f js=>exact this
  |rp t=>exact this
  |_=>exact mC _ this
theorem qtj {f : Fn N}(F : Fits P N f.X.τ)(hm : P.follows .mixedOrders = true)(hΦ : ∀ g S, f.X.Φ g = some S -> Good P (g % 1000000) S)(hI : ∀ g J, f.X.inl g = some J -> InlOk P g J){id : FuncId}{fn : Func}(hf : P.funcs[id]? = some fn)(hb : fn.body = some f.body)(hn : (fn.name == "runtime.NumGoroutine") = false)
  (hres:fn.results.toList=f.ds) (hl:f.ds.length<=5) (ht:fn.ntmps=f.ntmps) (hocc:q3f (occ f.X f.body)=true)
  (S:Spec N) (hgh:f.X.gh=S.gh) (hids:(q3f (q1n 0 S.ps)&&qre S.ps S.ps)=true) (hpins:f.X.pins=q4d 0 S.ps)
  (hrun:∀x r,S.f x=some r->∃n,f.run S.ps S.rs n x=some (S.out r)):Good P id S where
 enter w args:=q3z hf hb hn w args
 calls w ok x vs bl r hok hin hbl hblk hr:=by
  obtain⟨n,hrun⟩:=hrun x r hr
  rw[Bool.and_eq_true]at hids
  obtain⟨hids,hjs⟩:=hids
  obtain⟨L,l1,l2,l3,l4,l4',l5,l6,l7⟩:=q3e (ps0:=S.ps) S.ps 0 x vs bl hin hjs
  have hLids:(L.map (·.1)).Nodup:=by rw[l2];exact q20 hids
  let E0:Env:=⟨q74 L,fun b=>ok b\/b∈bl\/w.heap.size<=b⟩
  let io:Io:=⟨fun g=>g∈bl,fun b=>ok b\/b∈bl\/w.heap.size<=b,f.X.pins,q74 L⟩
  have hst:qfi L (q1c 0 S.ps x) E0:=fun e he=>by
   have:=q8b hLids e he
   rw[l1]at this
   exact this
  have hof:∀id b,look (q1c 0 S.ps x) id=some b->∃e∈L,e.1=id/\e.2.1=b/\q74 L id=e.2.2:=by
   intro id b hb
   rw[<-l1]at hb
   obtain⟨e,he,rfl,rfl⟩:=qhu hb
   exact⟨e,he,rfl,rfl,(q8b hLids e he).2⟩
  have hbof:∀id b,look (q1c 0 S.ps x) id=some b->∀g,q0i (q74 L id)=some g->g∈bl:=by
   intro id b hb g hg
   obtain⟨e,he,rfl,rfl,hv⟩:=hof id b hb
   rw[hv]at hg
   rw[l3]
   exact List.mem_flatMap.2 ⟨e,he,q0y.2 hg⟩
  have hok0:∀g,ok g->okb w.heap.size (q1c 0 S.ps x) E0 [] g:=fun g hg=>⟨⟨hok g hg,.inl hg⟩,fun id hid _ hg2=>by
   obtain⟨b,hb⟩:=Option.isSome_iff_exists.1 hid
   exact(hblk g (hbof id b hb g hg2)).1 hg⟩
  have hbx:qgn S.ps vs (q1c 0 S.ps x) E0:=by
   intro j hj
   unfold qlo at hj
   split at hj
   ·rename_i p hp
    have hlt:j<vs.length:=by
     have:=(List.getElem?_eq_some_iff.1 hp).1
     omega
    have hpin:qi3 p=true:=by cases p<;>first|rfl|cases hj
    obtain⟨e,he,e1,e2,e3⟩:=l5 j p vs[j] hp (gE hlt) hpin
    rw[Nat.zero_add]at e1
    obtain⟨s1,s2⟩:=hst e he
    obtain⟨k1,g,k2⟩:=e3 hj
    have hv:E0 (pid j)=vs[j]:=by rw[<-e1,<-e2];exact s2
    refine⟨?_,?_,g,hv.trans k2⟩
    ·rw[<-e1]
     rcases k1 with⟨t,y,bs,k1⟩|⟨l,k1⟩
     ·exact .inl ⟨t,y,bs,by rw[s1,k1]⟩
     ·exact .inr (.inl ⟨l,by rw[s1,k1]⟩)
    ·rw[hv,gQ,gE hlt]
     rfl
   ·cases hj
  obtain⟨hblkR,hregs⟩:=l7 _ E0 hst hbx hok0
  have hvl:(vs.take (S.ps.length-S.gh)).length=S.ps.length-S.gh:=by rw[lT];omega
  have hrel:Rel io w (qg4 S.ps f.ntmps f.X.gh x) {tmps:=(vs.take (S.ps.length-S.gh)).toArray++Array.replicate (fn.ntmps-(vs.take (S.ps.length-S.gh)).toArray.size) undef,defers:=[]} w:=by
   refine⟨E0,⟨⟨rfl,rfl,rfl,nR _,fun _ _ _=>rfl⟩,?_,rfl,?_,?_,?_,?_,rfl,?_,?_⟩⟩
   ·simp[qg4,l4',ht,l4,hgh]
   ·intro t s hs
    simp only[qg4,hgh]at hs
    rcases Nat.lt_or_ge t (S.ps.length-S.gh)with hlt|hge
    ·rw[List.getElem?_append_left (by simp[l4',hlt]),List.getElem?_map,List.getElem?_take,if_pos hlt]at hs
     obtain⟨r0,hr0,rfl⟩:=Option.map_eq_some_iff.1 hs
     have hlt':t<vs.length:=by omega
     have hv:((vs.take (S.ps.length-S.gh)).toArray++Array.replicate (fn.ntmps-(vs.take (S.ps.length-S.gh)).toArray.size) undef).getD t undef=vs[t]:=by
      rw[Array.getD_eq_getD_getElem?,Array.getElem?_append_left (by rw[List.size_toArray,hvl];exact hlt)]
      rw[List.getElem?_toArray,List.getElem?_take,if_pos hlt,gE hlt']
      rfl
     rw[hv]
     exact hregs t r0 _ hr0 (gE hlt')
    ·rw[List.getElem?_append_right (by simp[l4',hge]),List.getElem?_replicate]at hs
     split at hs
     ·cases hs
      rename_i hlt
      refine⟨[],?_,rfl,fun i r u hi _=>by simp at hi⟩
      have:((vs.take (S.ps.length-S.gh)).toArray++Array.replicate (fn.ntmps-(vs.take (S.ps.length-S.gh)).toArray.size) undef).getD t undef=undef:=by
       rw[Array.getD_eq_getD_getElem?,Array.getElem?_append_right (by rw[List.size_toArray,hvl];exact hge)]
       rw[Array.getElem?_replicate]
       split<;>rfl
      rw[this]
      rfl
     ·cases hs
   ·intro id b hb
    obtain⟨e,he,rfl,rfl,_⟩:=hof id b hb
    exact hblkR e he
   ·intro id b hb g hg
    have:=hbof id b hb g hg
    exact⟨(hblk g this).2,.inr this⟩
   ·intro id id' b b' h1 h2 hne g hg
    obtain⟨e,he,rfl,rfl,hv⟩:=hof id b h1
    obtain⟨e',he',rfl,rfl,hv'⟩:=hof id' b' h2
    show q0i (q74 L e'.1)≠some g
    have hg:q0i (q74 L e.1)=some g:=hg
    rw[hv]at hg
    rw[hv']
    exact qlt (by rw[<-l3];exact hbl) e he e' he' hne g hg
   ·rintro b (hb|hb)
    ·exact .inr (.inr hb)
    ·exact .inr (.inl hb)
   ·intro i hi
    obtain⟨e,he,rfl,hp⟩:=l6 i (by rw[<-hpins];exact hi)
    obtain⟨s1,s2⟩:=hst e he
    exact⟨e.2.1,s1,rfl,hp⟩
  have hcon:ConOk io w (S.out r) (f.C S.ps S.rs) (bodyPost P fn fun e w'=>∃us bl' rl,e=.returned (qai us)/\AfterCall S ok vs bl w w' r us bl' rl):=by
   have key:∀σ a w',qo1 f.X.τ S.ps S.rs f.ds σ=some (S.out r)->Rel io w σ a w'->a.defers=[]/\∃v,(results fn a.tmps).run P w'=.ok v w'/\∃us bl' rl,Ending.returned v=.returned (qai us)/\AfterCall S ok vs bl w w' r us bl' rl:=by
    rintro σ a w' hfin ⟨E,hR⟩
    unfold qo1 at hfin
    split at hfin
    ·cases hfin
    rename_i rvs ad hrvs
    obtain⟨E1,us,hR1,_,u1,u2,u3,u4⟩:=q8i F hR hrvs
    refine⟨hR.defers,_,qez hres hl _ _ us u2 u3,?_⟩
    have hfk:∀f' js r u,qp5 S.ps f' js r=true->q0a w' (q0d ad σ.own) E1 r u->u=qb7 vs f' js:=by
     intro f' js r' u hf' hr'
     unfold qp5 at hf'
     split at hf'
     ·simp only[Bool.and_eq_true]at hf'
      obtain⟨⟨hf1,hf2⟩,hf3⟩:=hf'
      obtain rfl:=Nat.eq_of_beq_eq_true hf1
      obtain rfl:=q99 hf2
      have hf3:=List.all_eq_true.1 hf3
      rw[hr'.1]
      unfold qb7
      congr 2
      rw[List.map_map]
      refine List.map_congr_left (fun j hj=>?_)
      have hjb:=hf3 j hj
      obtain⟨_,b2,_⟩:=hbx j hjb
      have hpm:pid j∈io.ids:=by
       show pid j∈f.X.pins
       rw[hpins]
       unfold qlo at hjb
       split at hjb
       ·rename_i p hp
        have:=q8f S.ps 0 j p hp (by cases p<;>first|rfl|cases hjb)
        rwa [Nat.zero_add]at this
       ·cases hjb
      obtain⟨b,_,f2,_⟩:=hR1.fx _ hpm
      show E1 (pid j)=_
      rw[f2]
      exact b2
     ·cases hf'
    split at hfin
    ·rename_i y B R z B' R' h1 h2
     obtain⟨hcond,hfin⟩:=q02 hfin
     simp only[Bool.and_eq_true,Bool.not_eq_true']at hcond
     have hout:=Option.some.inj hfin
     have hnd:=q20 hcond.1
     have hmt:=q2k hcond.2
     have hall:∀id∈R'++R,∃b,look (q0d ad σ.own) id=some b:=by
      intro id hid
      rcases mA.1 hid with hid|hid
      ·exact(q4h hR1 hfk (okA:=fun _=>True) (B0:=B') (fun _ _=>trivial) S.ps 0 vs z B' R' h2 (fun _ h=>h) l4 (fun j p v hp hv hpin=>by
        obtain⟨e,he,e1,e2,_⟩:=l5 j p v hp hv hpin
        have hpm:pid (0+j)∈io.ids:=by
         show pid (0+j)∈f.X.pins
         rw[hpins]
         exact q8f S.ps 0 j p hp hpin
        obtain⟨b,_,f2,_⟩:=hR1.fx _ hpm
        rw[f2]
        show q74 L (pid (0+j))=v
        rw[<-e1,(q8b hLids e he).2,e2])).2 id hid
      ·exact(q6c hR1 (okA:=fun _=>True) (B0:=B) (fun _ _=>trivial) S.rs rvs us y B R h1 (fun _ h=>h) u1 u4).2 id hid
     have hA:∀g,okb w'.heap.size (q0d ad σ.own) E1 (B++B') g->qhx ok w w' bl (((R'.flatMap fun id=>q0u (E1 id)))++(R.flatMap fun id=>q0u (E1 id))) g:=by
      rintro g ⟨⟨g1,g2⟩,g3⟩
      refine⟨g1,by rw[hR1.sc]at g2;exact g2,fun hm=>?_⟩
      rw[<-List.flatMap_append]at hm
      obtain⟨id,hid,hg⟩:=List.mem_flatMap.1 hm
      obtain⟨b,hb⟩:=hall id hid
      exact g3 id (by rw[hb];rfl) (fun hm=>hmt id hm hid) (q0y.1 hg)
     obtain⟨q1,_⟩:=q4h hR1 hfk hA S.ps 0 vs z B' R' h2 (fun _ h=>mA.2 (.inr h)) l4 (fun j p v hp hv hpin=>by
        obtain⟨e,he,e1,e2,_⟩:=l5 j p v hp hv hpin
        have hpm:pid (0+j)∈io.ids:=by
         show pid (0+j)∈f.X.pins
         rw[hpins]
         exact q8f S.ps 0 j p hp hpin
        obtain⟨b,_,f2,_⟩:=hR1.fx _ hpm
        rw[f2]
        show q74 L (pid (0+j))=v
        rw[<-e1,(q8b hLids e he).2,e2])
     obtain⟨q2,_⟩:=q6c hR1 hA S.rs rvs us y B R h1 (fun _ h=>mA.2 (.inl h)) u1 u4
     refine⟨us,R'.flatMap fun id=>q0u (E1 id),R.flatMap fun id=>q0u (E1 id),rfl,?_⟩
     refine⟨⟨hR1.kept.os,hR1.kept.tape,hR1.kept.output,hR1.kept.size,hR1.kept.block⟩,?_,?_,?_,?_⟩
     ·rw[<-hout]
      exact q1
     ·rw[<-hout]
      exact q2
     ·rw[<-List.flatMap_append]
      exact qbm hR1 hnd hall
     ·intro g hg
      rw[<-List.flatMap_append]at hg
      obtain⟨id,hid,hg⟩:=List.mem_flatMap.1 hg
      obtain⟨b,hb⟩:=hall id hid
      obtain⟨k1,k2⟩:=hR1.blk id b hb g (q0y.1 hg)
      exact⟨k2.symm,k1⟩
    ·cases hfin
   refine⟨fun σ a w' h1 h2=>?_,fun i σ a w' h1 _=>(by cases h1),fun σ a w' h1 h2=>?_⟩
   ·exact key σ a w' h1 h2
   ·exact key σ a w' h1 h2
  exact calls_of_wp hf hb (qpy F hΦ hI hm rfl (q20 hocc) hcon hrun hrel)
def Fn.spec (f:Fn N)(ps:List PK)(rs:List RK)(n:Nat):Spec N:=⟨ps,rs,HRes N.ρ rs×HOut N.ρ ps,f.run ps rs n,fun r=>r,f.X.gh⟩
def Fn.specG (f:Fn N)(gh:Nat)(ps:List PK)(rs:List RK)(n:Nat):Spec N:=⟨ps,rs,HRes N.ρ rs×HOut N.ρ ps,f.run ps rs n,fun r=>r,gh⟩
def qcr:List (Nat×Spec N)->FuncId->Option (Spec N)
 |[],_=>none
 |(k,v)::r,i=>bif k==i then some v else qcr r i
inductive Goods (P:Program):List (Nat×Spec N)->Prop
 |nil:Goods P []
 |cons' {k:Nat} {S:Spec N} {l:List (Nat×Spec N)}:Good P (k%1000000) S->Goods P l->Goods P ((k,S)::l)
theorem Goods.cons {P:Program}{j:Nat}{S:Spec N}{l:List (Nat×Spec N)}(h:Good P j S)(hl:Goods P l)(e:j=j%1000000:=by rfl):Goods P ((j,S)::l):=.cons' (e▸h) hl
theorem Goods.look {P:Program}{l:List (Nat×Spec N)}(h:Goods P l):∀f S,qcr l f=some S->Good P (f%1000000) S:=by
 induction h with
 |nil=>intro f S hf;cases hf
 | @cons' k S' l hg _ ih=>
  intro f S hf
  simp only[qcr]at hf
  cases hk:(k==f)with
  |true=>
   rw[hk]at hf
   cases hf
   have:k=f:=by simpa using hk
   rw[<-this]
   exact hg
  |false=>
   rw[hk]at hf
   exact ih f S hf
theorem qxe {P:Program}:∀g J,qqj (N:=N) g=some J->InlOk P g J:=fun g J h=>by cases h
theorem z12g {f : Fn N}{ps : List PK}{rs : List RK}{k : Nat}{l : List (Nat × Spec N)}{τ : TypeId -> Option TI}(F : Fits P N τ)(hτ : f.X.τ = τ)(hm : P.follows .mixedOrders = true)(hΦ : f.X.Φ = qcr l)(hg : Goods P l){id : FuncId}{fn : Func}(hf : P.funcs[id]? = some fn)(hb : fn.body = some f.body)(hn : (fn.name == "runtime.NumGoroutine") = false)
  (hres:fn.results.toList=f.ds) (hl:Nat.ble f.ds.length 5=true) (ht:fn.ntmps=f.ntmps) (hocc:q3f (occ f.X f.body)=true)
  (hids:(q3f (q1n 0 ps)&&qre ps ps)=true) (hpins:f.X.pins=q4d 0 ps) (hinl:f.X.inl=qqj:=by rfl):Good P id (f.spec ps rs k):=
 qtj (by rw[hτ];exact F) hm (by rw[hΦ];exact hg.look) (by rw[hinl];exact qxe) hf hb hn hres (Nat.le_of_ble_eq_true hl) ht hocc _ rfl hids hpins (fun x r h=>⟨k,h⟩)
def q5s (ps:List PK)(rs:List RK)(gh:Nat)(g:HIn N.ρ ps->Option (HRes N.ρ rs×HOut N.ρ ps)):Spec N:=⟨ps,rs,HRes N.ρ rs×HOut N.ρ ps,g,fun r=>r,gh⟩
theorem z16j {id : FuncId}{fn : Func}{c : Code}(hf : P.funcs[id]? = some fn)(hb : fn.body = some c)(hn : (fn.name == "runtime.NumGoroutine") = false)(ps : List PK)(rs : List RK)(gh : Nat) : Good P id (q5s (N := N) ps rs gh fun _ => none) where
 enter w args:=q3z hf hb hn w args
 calls w ok x vs bl r _ _ _ _ hr:=by cases hr
theorem qx1 {f:Fn N}{ps:List PK}{rs:List RK}{k:Nat}{g:HIn N.ρ ps->Option (HRes N.ρ rs×HOut N.ρ ps)}{id:FuncId}(h:Good P id (f.spec ps rs k))(he:∀x,g x=f.run ps rs k x):Good P id (q5s ps rs f.X.gh g):=by
 have:g=f.run ps rs k:=funext he
 subst this
 exact h
end Go.Eng

set_option linter.unusedVariables false
set_option linter.unusedSimpArgs false
namespace Go.Eng
variable {N:Names} {P:Program}
def qgg:Slot N->RV N
 |.one r=>bif qgu r then r else .undef
 |.tup _=>.undef
def qwa (s:Slot N)(r:RV N):Slot N:=match s with
 |.one r0=>bif qgu r0 then .one r else .one .undef
 |.tup _=>.one .undef
def q8d (own:List (Nat×Blk N)):Nat->Option Nat
 |0=>none
 |n+1=>match look own (800000+n)with
  |none=>some (800000+n)
  |some _=>q8d own n
theorem q7u {own:List (Nat×Blk N)}:∀{n s:Nat},q8d own n=some s->look own s=none
 |0,s,h=>by cases h
 | n+1,s,h=>by
  simp only[q8d]at h
  split at h
  ·rename_i hl
   cases h
   exact hl
  ·exact q7u h
def Fn.fin {β:Type}(f:Fn N)(σ:St N)(s:Nat)(k:List (RV N)->St N->Option β)(σ1:St N):Option β:=
 match qgc f.X.τ σ1 0 f.ds with
 |none=>none
 |some (rvs,ad)=>match look (q0d ad σ1.own) s with
  |some (.vals _ l)=>k rvs {regs:=List.zipWith qwa σ.regs l,own:=q0d ad σ1.own}
  |_=>none
def qqb (f:Fn N):Inl N:=⟨fun{β} pins σ rs k=>match q8d σ.own 4 with
 |none=>none
 |some s=>qe4 ⟨f.X.τ,f.X.Φ,fun _=>none,s::pins,0,f.X.inl⟩ (fun _ _=>none) f.body ⟨f.fin σ s k,fun _ _=>none,f.fin σ s k⟩ {regs:=rs.map Slot.one++List.replicate (f.ntmps-rs.length) (.tup []),own:=ins s (.vals 0 (σ.regs.map qgg)) σ.own}⟩
theorem q5q {X:Ctx N}(hK:X.K=fun _=>none):∀c:Code,occ X c=[]
 |.seq a b=>by
  have h1:X.cutOf b=none:=by unfold Ctx.cutOf;split<;>simp[hK]
  simp[occ,q5q hK a,q5q hK b,h1]
 |.cond _ t e=>by simp[occ,q5q hK t,q5q hK e]
 |.block _ c=>by simp[occ,q5q hK c]
 |.loop c=>by
  have h1:X.cutOf c=none:=by unfold Ctx.cutOf;split<;>simp[hK]
  simp[occ,q5q hK c,h1]
 |.scope c=>by simp[occ,q5q hK c]
 |.skip=>rfl
 |.label _=>rfl
 |.region .. =>rfl
 |.exit _=>rfl
 |.ret=>rfl
 |.rangeFunc .. =>rfl
 |.goto _=>rfl
 |.refuse _=>rfl
def qwc (v:Value):Option (Slot N)->Value
 |some (.one r)=>bif qgu r then v else .bool false
 |_=>.bool false
theorem Kept.turn {io io':Io}{w0 w:World}(hp:io'.p=io.p)(h:Kept io w0 w):Kept io' w0 w:=⟨h.os,h.tape,h.output,h.size,by rw[hp];exact h.block⟩
theorem qn6 {io:Io}{w0 w:World}{σ:St N}{E:Env}{a:Act}(h:RelE io w0 σ E a w):∃arr:List Value,arr.length=σ.regs.length/\(∀u∈arr,u.oneCell'=true)/\
  ∀(i:Nat) s u,σ.regs[i]?=some s->arr[i]?=some u->q0a w σ.own E (qgg s) u/\((∃r,s=.one r/\qgu r=true/\u=a.tmps.getD i undef)\/∀r,qwa s r=.one .undef):=by
 refine⟨(List.range σ.regs.length).map fun i=>qwc (a.tmps.getD i undef) σ.regs[i]?,by simp,?_,?_⟩
 ·intro u hu
  obtain⟨i,hi,rfl⟩:=List.mem_map.1 hu
  unfold qwc
  split
  ·rename_i r hr
   cases hc:qgu r with
   |true=>exact h.cellOne (h.regs i _ hr) hc
   |false=>rfl
  ·rfl
 ·intro i s u hs hu
  have hi:i<σ.regs.length:=(List.getElem?_eq_some_iff.1 hs).1
  rw[List.getElem?_map,List.getElem?_range hi]at hu
  simp only[Option.map_some,Option.some.injEq,hs]at hu
  subst hu
  cases s with
  |tup l=>exact⟨trivial,.inr fun r=>rfl⟩
  | one r=>
   cases hc:qgu r with
   |true=>
    have h1:=h.regs i _ hs
    refine⟨?_,.inl ⟨r,rfl,hc,by simp only[qwc,hc,cT]⟩⟩
    simp only[qgg,qwc,hc,cT]
    exact h1
   |false=>exact⟨by simp only[qgg,hc,cF];trivial,.inr fun r'=>by simp only[qwa,hc,cF]⟩
theorem z16o {f : Fn N}(F : Fits P N f.X.τ)(hm : P.follows .mixedOrders = true)(hΦ : ∀ g S, f.X.Φ g = some S -> Good P (g % 1000000) S)(hI : ∀ g J, f.X.inl g = some J -> InlOk P g J){id : FuncId}{fn : Func}(hf : P.funcs[id]? = some fn)(hb : fn.body = some f.body)(hn : (fn.name == "runtime.NumGoroutine") = false)
  (hres:fn.results.toList=f.ds) (hl:f.ds.length<=5) (ht:fn.ntmps=f.ntmps):InlOk P id (qqb f)where
 enter w args:=q3z hf hb hn w args
 calls {β} σ rs k r io w0 E a w vals h hE hv:=by
  simp only[qqb]at h
  split at h
  ·cases h
  rename_i s hs
  have hs:=q7u hs
  obtain⟨arr,a1,a2,a3⟩:=qn6 hE
  have hadd:=hE.add (Ext.refl w) (V:=.agg arr.toArray) (b:=.vals 0 (σ.regs.map qgg)) hs (fun g hg=>by cases hg)
   ⟨arr.toArray,q07 _ _ _,by simp[a1],(fun u hu=>a2 u (by simpa using hu)),fun i r u hi hu=>by
    rw[List.getElem?_map]at hi
    obtain⟨s0,hs0,rfl⟩:=Option.map_eq_some_iff.1 hi
    exact q22 (Ext.refl w) hs (fun g hg=>by cases hg) (a3 i s0 u hs0 (by simpa using hu)).1⟩
  let io':Io:={io with ids:=s::io.ids,fix:=fun i=>if i=s then .agg arr.toArray else io.fix i}
  have hids:∀i∈io.ids,i≠s:=fun i hi e=>by
   obtain⟨b,hb,_⟩:=hE.fx i hi
   rw[e,hs]at hb
   cases hb
  have hrel:Rel io' w0 {regs:=rs.map Slot.one++List.replicate (f.ntmps-rs.length) (.tup []),own:=ins s (.vals 0 (σ.regs.map qgg)) σ.own} {tmps:=vals.toArray++Array.replicate (fn.ntmps-vals.toArray.size) undef,defers:=[]} w:=by
   refine⟨q9r E s (.agg arr.toArray),Kept.turn (io:=io) (io':=io') rfl hadd.kept,?_,rfl,?_,hadd.own,hadd.blk,hadd.sep,hadd.sc,hadd.nw,?_⟩
   ·simp[hv.1,ht]
   ·intro t s0 hs0
    rcases Nat.lt_or_ge t rs.length with hlt|hge
    ·rw[List.getElem?_append_left (by simpa using hlt),List.getElem?_map]at hs0
     obtain⟨r0,hr0,rfl⟩:=Option.map_eq_some_iff.1 hs0
     have hlt':t<vals.length:=by rw[hv.1];exact hlt
     have hval:(vals.toArray++Array.replicate (fn.ntmps-vals.toArray.size) undef).getD t undef=vals[t]:=by
      rw[Array.getD_eq_getD_getElem?,Array.getElem?_append_left (by simpa using hlt')]
      rw[List.getElem?_toArray,gE hlt']
      rfl
     rw[hval]
     exact q22 (Ext.refl w) hs (fun g hg=>by cases hg) (hv.2 t r0 _ hr0 (gE hlt'))
    ·rw[List.getElem?_append_right (by simpa using hge),List.getElem?_replicate]at hs0
     split at hs0
     ·cases hs0
      refine⟨[],?_,rfl,fun i r u hi _=>by simp at hi⟩
      have:(vals.toArray++Array.replicate (fn.ntmps-vals.toArray.size) undef).getD t undef=undef:=by
       rw[Array.getD_eq_getD_getElem?,Array.getElem?_append_right (by rw[List.size_toArray,hv.1];exact hge)]
       rw[Array.getElem?_replicate]
       split<;>rfl
      rw[this]
      rfl
     ·cases hs0
   ·intro i hi
    by_cases his:i=s
    ·subst his
     exact⟨_,by rw[q09,if_pos rfl],by rw[q07];simp[io'],rfl⟩
    ·have hi':i∈io.ids:=by
      rcases List.mem_cons.1 hi with h|h
      ·exact absurd h his
      ·exact h
     obtain⟨b0,h1,h2,h3⟩:=hadd.fx i hi'
     exact⟨b0,h1,by simp only[io',if_neg his];exact h2,h3⟩
  have hcon:ConOk io' w0 r ⟨f.fin σ s k,fun _ _=>none,f.fin σ s k⟩ (bodyPost P fn fun e w'=>∃us E' rs' σ',e=.returned (qai us)/\k rs' σ'=some r/\RelE io w0 σ' E' a w'/\qde w' σ'.own E' rs' us):=by
   have key:∀σ1 ac w1,f.fin σ s k σ1=some r->Rel io' w0 σ1 ac w1->ac.defers=[]/\∃v,(results fn ac.tmps).run P w1=.ok v w1/\∃us E' rs' σ',Ending.returned v=.returned (qai us)/\k rs' σ'=some r/\RelE io w0 σ' E' a w1/\qde w1 σ'.own E' rs' us:=by
    rintro σ1 ac w1 hfin ⟨E2,hR⟩
    unfold Fn.fin at hfin
    split at hfin
    ·cases hfin
    rename_i rvs ad hrvs
    obtain⟨E3,us,hR3,_,u1,u2,u3,u4⟩:=q8i F hR hrvs
    split at hfin
    ·rename_i n l hlk
     refine⟨hR.defers,_,qez hres hl _ _ us u2 u3,us,E3,rvs,_,rfl,hfin,?_,u1,u4⟩
     obtain⟨arr',b1,b2,b3,b4⟩:=hR3.own s _ hlk
     obtain⟨_,_,f2,_⟩:=hR3.fx s mS
     have hEs:E3 s=.agg arr.toArray:=by rw[f2];simp[io']
     rw[b1]at hEs
     cases hEs
     have hll:l.length=σ.regs.length:=by rw[<-b2];simpa using a1
     refine⟨Kept.turn (io:=io') (io':=io) rfl hR3.kept,?_,hE.defers,?_,hR3.own,hR3.blk,hR3.sep,hR3.sc,hR3.nw,?_⟩
     ·simp[hE.size,hll]
     ·intro t s0 hs0
      rw[List.getElem?_zipWith]at hs0
      cases hreg:σ.regs[t]? with
      |none=>rw[hreg]at hs0;simp at hs0
      | some s1=>
       cases hlt:l[t]? with
       |none=>rw[hreg,hlt]at hs0;simp at hs0
       | some r1=>
        rw[hreg,hlt]at hs0
        simp only[Option.some.injEq]at hs0
        subst hs0
        have htl:t<arr.length:=by rw[a1];exact(List.getElem?_eq_some_iff.1 hreg).1
        have hval:=b4 t r1 arr[t] hlt (by simp[htl])
        rcases(a3 t s1 arr[t] hreg (gE htl)).2 with⟨r0,rfl,hc,hu⟩|hu
        ·simp only[qwa,hc,cT]
         rw[<-hu]
         exact hval
        ·rw[hu];trivial
     ·intro i hi
      obtain⟨b0,h1,h2,h3⟩:=hR3.fx i (mC _ hi)
      exact⟨b0,h1,by rw[h2];simp only[io',if_neg (hids i hi)],h3⟩
    ·cases hfin
   exact⟨fun σ a w' h1 h2=>key σ a w' h1 h2,fun i σ a w' h1 _=>(by cases h1),fun σ a w' h1 h2=>key σ a w' h1 h2⟩
  have hocc:=q5q (X:=(⟨f.X.τ,f.X.Φ,fun _=>none,s::io.ids,0,f.X.inl⟩:Ctx N)) rfl f.body
  exact calls_of_wp hf hb (q1u (X:=⟨f.X.τ,f.X.Φ,fun _=>none,s::io.ids,0,f.X.inl⟩) F hΦ hI hm rfl f.body _ _ _ (fun id hid=>by rw[hocc]at hid;cases hid) (by rw[hocc];exact List.nodup_nil) hcon h _ _ hrel)
def z1ag (τ:TypeId->Option TI)(Φ:FuncId->Option (Spec N))(I:FuncId->Option (Inl N))(f:Func):Fn N:=⟨⟨τ,Φ,fun _=>none,[],0,I⟩,qfx f,f.results.toList,f.ntmps⟩
def qml:List (Nat×Inl N)->FuncId->Option (Inl N)
 |[],_=>none
 |(k,v)::r,i=>bif k==i then some v else qml r i
inductive Inls (P:Program):List (Nat×Inl N)->Prop
 |nil:Inls P []
 |cons {k:Nat} {J:Inl N} {l:List (Nat×Inl N)}:InlOk P k J->Inls P l->Inls P ((k,J)::l)
theorem Inls.look {P:Program}{l:List (Nat×Inl N)}(h:Inls P l):∀f J,qml l f=some J->InlOk P f J:=by
 induction h with
 |nil=>intro f J hf;cases hf
 | @cons k J' l hg _ ih=>
  intro f J hf
  simp only[qml]at hf
  cases hk:(k==f)with
  |true=>
   rw[hk]at hf
   cases hf
   have:k=f:=by simpa using hk
   rw[<-this]
   exact hg
  |false=>
   rw[hk]at hf
   exact ih f J hf
theorem z16n {f : Fn N}{l : List (Nat × Spec N)}{li : List (Nat × Inl N)}{τ : TypeId -> Option TI}(F : Fits P N τ)(hτ : f.X.τ = τ)(hm : P.follows .mixedOrders = true)(hΦ : f.X.Φ = qcr l)(hg : Goods P l)(hi : f.X.inl = qml li)(hli : Inls P li){id : FuncId}{fn : Func}(hf : P.funcs[id]? = some fn)(hb : fn.body = some f.body)(hn : (fn.name == "runtime.NumGoroutine") = false)
  (hres:fn.results.toList=f.ds) (hl:Nat.ble f.ds.length 5=true) (ht:fn.ntmps=f.ntmps):InlOk P id (qqb f):=
 z16o (by rw[hτ];exact F) hm (by rw[hΦ];exact hg.look) (by rw[hi];exact hli.look) hf hb hn hres (Nat.le_of_ble_eq_true hl) ht
theorem qoa {f : Fn N}{ps : List PK}{rs : List RK}{k : Nat}{l : List (Nat × Spec N)}{li : List (Nat × Inl N)}{τ : TypeId -> Option TI}(F : Fits P N τ)(hτ : f.X.τ = τ)(hm : P.follows .mixedOrders = true)(hΦ : f.X.Φ = qcr l)(hg : Goods P l)(hi : f.X.inl = qml li)(hli : Inls P li){id : FuncId}{fn : Func}(hf : P.funcs[id]? = some fn)(hb : fn.body = some f.body)(hn : (fn.name == "runtime.NumGoroutine") = false)
  (hres:fn.results.toList=f.ds) (hl:Nat.ble f.ds.length 5=true) (ht:fn.ntmps=f.ntmps) (hocc:q3f (occ f.X f.body)=true)
  (hids:(q3f (q1n 0 ps)&&qre ps ps)=true) (hpins:f.X.pins=q4d 0 ps):Good P id (f.spec ps rs k):=
 qtj (by rw[hτ];exact F) hm (by rw[hΦ];exact hg.look) (by rw[hi];exact hli.look) hf hb hn hres (Nat.le_of_ble_eq_true hl) ht hocc _ rfl hids hpins (fun x r h=>⟨k,h⟩)
end Go.Eng

set_option linter.unusedVariables false
set_option linter.unusedSimpArgs false
namespace Go.Eng
variable {N:Names} {P:Program}
def qs4 (N:Names):(ts:List Ty)->HL N.ρ ts
 |[]=>()
 |t::ts=>(N.dflt t,qs4 N ts)
theorem qra (hdv:∀n,N.un n (N.dv n)=qs4 N (N.body n))(w:World)(ok:Nat->Prop):∀(f:Nat) (t:Ty) (cs:List Value),q3k N f t cs=true->Rep w ok t (N.dflt t) cs:=by
 have one:∀(g:Ty->List Value->Bool) (hg:∀t cs,g t cs=true->Rep w ok t (N.dflt t) cs) (ts:List Ty) (cs:List Value),qb2 g N.sz ts cs=true->q8p w ok (q93 w ok) ts (qs4 N ts) cs:=by
  intro g hg ts
  induction ts with
  |nil=>
   intro cs h
   simp only[qb2,List.isEmpty_iff]at h
   exact h
  |cons t ts ih=>
   intro cs h
   simp only[qb2,Bool.and_eq_true]at h
   exact⟨_,_,(List.take_append_drop _ cs).symm,hg _ _ h.1,ih _ h.2⟩
 intro f
 induction f with
 | zero=>
  intro t cs h
  unfold q3k at h
  split at h
  ·simp only[Bool.and_eq_true,decide_eq_true_eq]at h
   obtain⟨rfl,rfl⟩:=h
   rfl
  ·rename_i b
   cases b with
   |true=>cases h
   |false=>rfl
  ·rename_i s
   refine⟨s,rfl,?_⟩
   simp only[List.isEmpty_iff]at h
   unfold q0q
   rw[h]
   rfl
  ·exact⟨none,0,rfl,nR _,fun _=>rfl,fun i x hx=>by simp[Names.dflt]at hx⟩
  ·exact⟨_,rfl,h⟩
  ·rename_i h0
   cases h0
  ·cases h
 | succ f ih=>
  intro t cs h
  unfold q3k at h
  split at h
  ·simp only[Bool.and_eq_true,decide_eq_true_eq]at h
   obtain⟨rfl,rfl⟩:=h
   rfl
  ·rename_i b
   cases b with
   |true=>cases h
   |false=>rfl
  ·rename_i s
   refine⟨s,rfl,?_⟩
   simp only[List.isEmpty_iff]at h
   unfold q0q
   rw[h]
   rfl
  ·exact⟨none,0,rfl,nR _,fun _=>rfl,fun i x hx=>by simp[Names.dflt]at hx⟩
  ·exact⟨_,rfl,h⟩
  ·rename_i n hf
   cases hf
   refine q33 ?_
   rw[show N.un n (N.dflt (.nm n))=qs4 N (N.body n)from hdv n]
   exact one _ ih _ _ h
  ·cases h
def qca (P:Program)(t:TypeId)(n:Nat)(z:Value->Bool):Bool:=match P.info? t with
 |some i=>(match i.zero with|some v=>z v|none=>false)&&decide (i.size=n)&&Nat.ble i.bytes 32768
 |none=>false
theorem q2z {t:TypeId}{n:Nat}{z:Value->Bool}(h:qca P t n z=true):∃v,z v=true/\qy8 P t v n:=by
 unfold qca at h
 split at h
 ·rename_i i hi
  simp only[Bool.and_eq_true,decide_eq_true_eq]at h
  obtain⟨⟨h1,h2⟩,h3⟩:=h
  split at h1
  ·rename_i v hv
   exact⟨v,h1,i,hi,hv,h2,Nat.le_of_ble_eq_true h3⟩
  ·cases h1
 ·cases h
def qa4 (N:Names)(τ:TypeId->Option TI):List Ty->Nat->List Field->Bool
 |[],_,[]=>true
 | ty :: tys, off, f :: fs => decide (f.offset = off) && (match τ f.type with | some ti => decide (ti.ty = ty) | none => false) && !(decide (N.sz ty = 0)) && !(decide (f.name = "_")) && qa4 N τ tys (off + N.sz ty) fs
 |_,_,_=>false
theorem q6s {τ:TypeId->Option TI}:∀(tys:List Ty) (off:Nat) (fs:List Field),qa4 N τ tys off fs=true->q2g N τ tys off fs
 |[],_,[],_=>trivial
 |[],_,_::_,h=>by cases h
 |_::_,_,[],h=>by cases h
 | ty::tys,off,f::fs,h=>by
  simp only[qa4,Bool.and_eq_true,decide_eq_true_eq,Bool.not_eq_true',decide_eq_false_iff_not]at h
  obtain⟨⟨⟨⟨h1,h2⟩,h3⟩,h4⟩,h5⟩:=h
  refine⟨h1,?_,h3,h4,q6s tys _ fs h5⟩
  split at h2
  ·rename_i ti hti
   have:ti.ty=ty:=by simpa using h2
   exact⟨ti.el,by rw[hti,<-this]⟩
  ·cases h2
def z1d8 (k:Value->Bool):Value->Bool:=k
def q7q (P:Program)(N:Names)(τ:TypeId->Option TI)(t:TypeId)(ti:TI):Bool:=
 match ti.ty with
 |.int k=>(match P.underlying t with|some (.int k')=>decide (k'=k)|_=>false)&&qca P t 1 fun v=>match v with|.int k' n=>decide (k'=k)&&decide (n=0)|_=>false
 |.bool=>(match P.underlying t with|some .bool=>true|_=>false)&&qca P t 1 fun v=>match v with|.bool b=>!b|_=>false
 |.str=>(match P.underlying t with|some .string=>true|_=>false)&&qca P t 1 fun v=>match v with|.string s=>s.data.toList.isEmpty|_=>false
 |.sl e=>Nat.blt ti.el qff&&(match P.underlying t with|some (.slice el)=>decide (el=ti.el)|_=>false)&&(match τ ti.el with|some te=>decide (te.ty=e)|none=>false)&&qca P t 1 fun v=>match v with|.slice none 0 0=>true|_=>false
 |.opq=>(match P.underlying t with|some (.struct _)=>false|some (.array _ _)=>false|some _=>true|none=>false)&&(decide (ti.el=0)||(decide (ti.el=1)&&(match P.underlying t with|some (.func _ _ _)=>true|_=>false))||Nat.blt 1 ti.el&&(match P.underlying t with|some (.map k v)=>decide (k=ti.el/100000)&&decide (v=ti.el%100000)|_=>false))&&qca P t 1 fun v=>v.oneCell'
 | .nm n=>(match P.underlying t with|some (.struct fs)=>decide (ti.el=0)&&qa4 N τ (N.body n) 0 fs.toList|some (.array len el)=>decide (ti.el=el+1)&&(match P.info? el with|some i=>qa4 N τ (N.body n) 0 (qr7 len el i.size)|none=>false)|_=>false)&&!P.stoodInHeld t&&!P.eqGuardType P.depth t&&Nat.blt 0 (N.size n)&&
   qca P t (N.size n) fun v=>match v with|.agg zc=>q3k N 8 (.nm n) zc.toList|_=>false
theorem z110 {l:List (TypeId×TI)}(hdv:∀n,N.un n (N.dv n)=qs4 N (N.body n))(h:(l.all fun p=>q7q P N (look l) p.1 p.2)=true):Fits P N (look l):=by
 have key:∀t ti,look l t=some ti->q7q P N (look l) t ti=true:=fun t ti ht=>List.all_eq_true.1 h _ (q42 ht)
 constructor
 ·intro t k e ht
  have:=key t _ ht
  simp only[q7q,Bool.and_eq_true]at this
  obtain⟨h1,h2⟩:=this
  obtain⟨v,hv,hi⟩:=q2z h2
  constructor
  ·split at h1
   ·rename_i k' hk
    rw[hk]
    have:k'=k:=by simpa using h1
    rw[this]
   ·cases h1
  ·split at hv
   ·simp only[Bool.and_eq_true,decide_eq_true_eq]at hv
    obtain⟨rfl,rfl⟩:=hv
    exact hi
   ·cases hv
 ·intro t e ht
  have:=key t _ ht
  simp only[q7q,Bool.and_eq_true]at this
  obtain⟨h1,h2⟩:=this
  obtain⟨v,hv,hi⟩:=q2z h2
  constructor
  ·split at h1
   ·assumption
   ·cases h1
  ·split at hv
   ·rename_i b
    cases b with
    |true=>cases hv
    |false=>exact hi
   ·cases hv
 ·intro t e ht
  have:=key t _ ht
  simp only[q7q,Bool.and_eq_true]at this
  obtain⟨h1,h2⟩:=this
  obtain⟨v,hv,hi⟩:=q2z h2
  constructor
  ·split at h1
   ·assumption
   ·cases h1
  ·split at hv
   ·rename_i s
    obtain⟨⟨l⟩⟩:=s
    have:l=[]:=by simpa using hv
    subst this
    exact hi
   ·cases hv
 ·intro t ty e ht
  have:=key t _ ht
  simp only[q7q,Bool.and_eq_true]at this
  obtain⟨⟨⟨_,h1⟩,h3⟩,h2⟩:=this
  obtain⟨v,hv,hi⟩:=q2z h2
  refine⟨?_,?_,?_⟩
  ·split at h1
   ·rename_i el hel
    rw[hel]
    have:el=e:=by simpa using h1
    rw[this]
   ·cases h1
  ·split at h3
   ·rename_i te hte
    have:te.ty=ty:=by simpa using h3
    exact⟨te.el,by rw[hte,<-this]⟩
   ·cases h3
  ·split at hv
   ·exact hi
   ·cases hv
 ·intro t e ht
  have:=key t _ ht
  simp only[q7q,Bool.and_eq_true]at this
  obtain⟨⟨h1,_⟩,h2⟩:=this
  obtain⟨v,hv,hi⟩:=q2z h2
  refine⟨?_,v,hi,hv⟩
  split at h1
  ·cases h1
  ·cases h1
  ·rename_i d hn1 hn2 hd
   refine⟨_,hd,?_⟩
   split
   ·rename_i fs
    exact(hn1 fs rfl).elim
   ·rename_i n e
    exact(hn2 n e rfl).elim
   ·rfl
  ·cases h1
 ·intro t e ht
  have:=key t _ ht
  simp only[q7q,Bool.and_eq_true,Bool.or_eq_true,decide_eq_true_eq]at this
  obtain⟨⟨_,h1⟩,_⟩:=this
  rcases h1 with(h1|⟨h1,h2⟩)|⟨h0,h1⟩
  ·exact .inl h1
  ·refine .inr (.inl ⟨h1,?_⟩)
   split at h2
   ·rename_i ps rs v hv
    exact⟨ps,rs,v,hv⟩
   ·cases h2
  ·refine .inr (.inr ⟨Nat.le_of_ble_eq_true h0,?_⟩)
   split at h1
   ·rename_i k v hkv
    simp only[Bool.and_eq_true,decide_eq_true_eq]at h1
    rw[hkv,h1.1,h1.2]
   ·cases h1
 ·intro t n e ht
  have:=key t _ ht
  simp only[q7q,Bool.and_eq_true,Bool.not_eq_true']at this
  obtain⟨⟨⟨⟨h1,h2⟩,h3⟩,h4⟩,h5⟩:=this
  obtain⟨v,hv,hi⟩:=q2z h5
  have hz:∃zc:Array Value,qy8 P t (.agg zc) (N.size n)/\0<N.size n/\∀w ok,Rep w ok (.nm n) (N.dv n) zc.toList:=by
   split at hv
   ·rename_i zc
    exact⟨zc,hi,Nat.le_of_ble_eq_true h4,fun w ok=>qra hdv w ok 8 (.nm n) _ hv⟩
   ·cases hv
  split at h1
  ·rename_i fs hfs
   simp only[Bool.and_eq_true,decide_eq_true_eq]at h1
   exact⟨fs,.inl ⟨h1.1,hfs⟩,q6s _ _ _ h1.2,h2,h3,hz⟩
  ·rename_i len el hfs
   simp only[Bool.and_eq_true,decide_eq_true_eq]at h1
   obtain⟨h0,h1⟩:=h1
   split at h1
   ·rename_i i hi'
    exact⟨_,.inr ⟨len,el,i,h0,hfs,hi',rfl⟩,q6s _ _ _ (by simpa using h1),h2,h3,hz⟩
   ·cases h1
  ·cases h1
 ·intro t n e i zc ht hi hz
  have:=key t _ ht
  simp only[q7q,Bool.and_eq_true]at this
  obtain⟨v,hv,j,hj1,hj2,_⟩:=q2z this.2
  rw[hi]at hj1
  cases hj1
  rw[hz]at hj2
  cases hj2
  exact hv
 ·intro t ty e ht
  have:=key t _ ht
  simp only[q7q,Bool.and_eq_true]at this
  exact Nat.le_of_ble_eq_true this.1.1.1
end Go.Eng

set_option linter.unusedVariables false
set_option linter.unusedSimpArgs false
namespace Go.Eng
variable {N:Names} {P:Program} {H:Type} {enc:TypeId×Value->H} {w:World} {τ:TypeId->Option TI}
/-! How great a value is; whether its numbers are of their kinds. -/
def sumL {α:Type}(f:α->Nat):List α->Nat
 |[]=>0
 |x::r=>f x+sumL f r
def qx9 (g:(n:Nat)->N.ρ n->Nat):(t:Ty)->t.den N.ρ->Nat
 |.int _,_=>1
 |.bool,_=>1
 |.str,l=>l.length+1
 |.sl e,xs=>sumL (qx9 g e) xs+1
 |.nm n,x=>g n x
 |.opq,_=>1
def qty (g:(n:Nat)->N.ρ n->Nat):(ts:List Ty)->HL N.ρ ts->Nat
 |[],_=>0
 |t::ts,x=>qx9 g t x.1+qty g ts x.2
def qx8 (N:Names):Nat->(n:Nat)->N.ρ n->Nat
 |0,_,_=>1
 |k+1,n,x=>qty (qx8 N k) (N.body n) (N.un n x)+1
def meas (k:Nat)(t:Ty)(x:t.den N.ρ):Nat:=qx9 (qx8 N k) t x
def okT (g:(n:Nat)->N.ρ n->Prop):(t:Ty)->t.den N.ρ->Prop
 |.int k,n=>(Lit.int k n).wf=true
 |.bool,_=>True
 |.str,l=>∀b∈l,0<=b/\b<256
 |.sl e,xs=>∀x∈xs,okT g e x
 |.nm n,x=>g n x
 |.opq,_=>True
def okL (g:(n:Nat)->N.ρ n->Prop):(ts:List Ty)->HL N.ρ ts->Prop
 |[],_=>True
 |t::ts,x=>okT g t x.1/\okL g ts x.2
def okK (N:Names):Nat->(n:Nat)->N.ρ n->Prop
 |0,_,_=>True
 |k+1,n,x=>okL (okK N k) (N.body n) (N.un n x)
def okV (k:Nat)(t:Ty)(x:t.den N.ρ):Prop:=okT (okK N k) t x
mutual
def bulk {H:Type}:DataW H->Nat
 |.lit (.string bytes)=>bytes.length+1
 |.lit _=>1
 |.nil=>1
 |.ptr d=>bulk d+1
 |.slice elems spare=>bulkAll elems+bulkAll spare+1
 |.agg parts=>bulkAll parts+1
 |.iface _ d=>bulk d+1
 |.map entries=>bulkEntries entries+1
 |.held _=>1
def bulkAll {H:Type}:List (DataW H)->Nat
 |[]=>0
 |d::r=>bulk d+bulkAll r
def bulkEntries {H:Type}:List (Lit×DataW H)->Nat
 |[]=>0
 |x::r=>bulkEntry x+bulkEntries r
def bulkEntry {H:Type}:Lit×DataW H->Nat
 |(.string bytes,d)=>bytes.length+bulk d+1
 |(_,d)=>bulk d+1
end
theorem qnj (d:DataW H):1<=bulk d:=by
 cases d with
 |lit l=>cases l<;>simp[bulk]
 |_=>simp[bulk]
theorem qvb {α:Type}{f:α->Nat}:∀(xs:List α) (ds:List (DataW H)),xs.length=ds.length->(∀(i:Nat) x d,xs[i]?=some x->ds[i]?=some d->f x<=bulk d)->sumL f xs<=bulkAll ds
 |[],_,_,_=>Nat.zero_le _
 |x::xs,[],h,_=>by simp at h
 |x::xs,d::ds,h,hx=>by
  have h1:=hx 0 x d rfl rfl
  have h2:=qvb (f:=f) xs ds (by simpa using h) (fun i x d hi hd=>hx (i+1) x d (by simpa using hi) (by simpa using hd))
  simp only[sumL,bulkAll]
  omega
theorem qds {α:Type}{Q:Nat->α->Prop}:∀(n:Nat),(∀i,i<n->∃x,Q i x)->∃xs:List α,xs.length=n/\∀(i:Nat) x,xs[i]?=some x->Q i x
 |0,_=>⟨[],rfl,fun i x h=>by simp at h⟩
 | n+1,h=>by
  obtain⟨xs,h1,h2⟩:=qds n (fun i hi=>h i (by omega))
  obtain⟨x,hx⟩:=h n (by omega)
  refine⟨xs++[x],by simp[h1],fun i y hy=>?_⟩
  rcases Nat.lt_or_ge i n with hi|hi
  ·rw[List.getElem?_append_left (by omega)]at hy
   exact h2 i y hy
  ·rw[List.getElem?_append_right (by omega)]at hy
   rcases Nat.eq_or_lt_of_le (show 0<=i-xs.length from Nat.zero_le _)with h0|h0
   ·rw[<-h0]at hy
    simp only[List.getElem?_cons_zero,Option.some.injEq]at hy
    subst hy
    rw[show i=n from by omega]
    exact hx
   ·obtain⟨m,hm⟩:∃m,i-xs.length=m+1:=⟨i-xs.length-1,by omega⟩
    rw[hm]at hy
    simp at hy
theorem qb6 (F:Fits P N τ){t e:TypeId}{ty:Ty}(h:τ t=some ⟨ty,e⟩):P.cellsOf t=N.sz ty:=by
 obtain⟨i,z,zc,h1,h2,h3,_⟩:=F.info h
 simp[Program.cellsOf,h1,h3]
theorem qiz (s:ByteArray):∀b∈q0q s,0<=b/\b<256:=by
 intro b hb
 unfold q0q at hb
 obtain⟨u,_,rfl⟩:=List.mem_map.1 hb
 have:=u.toNat_lt
 omega
theorem z12s {sp:Nat->Bool}{held:Bool}{fuel:Nat}{t:TypeId}{d0:TypeDesc}{cs:List Value}{x:DataW H×List MemPlace}(hn:(match d0 with|.struct _|.array _ _=>true|_=>false)=false)(hu:P.underlying t=some d0)
  (h:DataW.trod enc P w 0 sp held fuel t cs=some x):∃v,cs=[v]/\v.oneCell'=true:=by
 cases fuel with
 |zero=>simp[DataW.trod]at h
 |succ n=>
  unfold DataW.trod at h
  rw[hu]at h
  split at h<;>first|exact⟨_,rfl,rfl⟩|(simp_all;done)|(rename_i heq;cases heq;cases hn)
theorem qmz (F:Fits P N τ){sp:Nat->Bool}{held:Bool}:∀(fuel:Nat) (t:TypeId) (ty:Ty) (e:TypeId) (cs:List Value) (d:DataW H) (ps:List MemPlace),τ t=some ⟨ty,e⟩->DataW.trod enc P w 0 sp held fuel t cs=some (d,ps)->
  ∃x:ty.den N.ρ,Rep w (fun b=>b<w.heap.size) ty x cs/\(∀k,meas k ty x<=bulk d)/\∀k,okV k ty x:=by
 intro fuel
 induction fuel with
 |zero=>intro t ty e cs d ps _ h;simp[DataW.trod]at h
 | succ fuel ih=>
  intro t ty e cs d ps hτ h
  cases ty with
  |int k=>
   obtain⟨n,h1,h2,h3⟩:=DataW.trod_int (F.int t k e hτ).1 h
   cases h2
   exact⟨n,h1,fun _=>nR _,fun _=>h3⟩
  |bool=>
   obtain⟨b,h1,h2⟩:=DataW.trod_bool (F.bool t e hτ).1 h
   cases h2
   exact⟨b,h1,fun _=>nR _,fun _=>trivial⟩
  |str=>
   obtain⟨s,h1,h2,h3⟩:=DataW.trod_string (F.str t e hτ).1 h
   cases h2
   refine⟨q0q s,⟨s,h1,rfl⟩,fun _=>?_,fun _=>qiz s⟩
   simp[meas,qx9,bulk,q0q]
  |opq=>
   obtain⟨⟨d0,u1,u2⟩,_⟩:=F.opq t e hτ
   obtain⟨v,hv,hv1⟩:=z12s u2 u1 h
   exact⟨(),⟨v,hv,hv1⟩,fun _=>qnj d,fun _=>trivial⟩
  | sl ty'=>
   obtain⟨u1,⟨e',u2⟩,_⟩:=F.sl t ty' e hτ
   rcases DataW.trod_slice u1 h with⟨rfl,hx⟩|⟨a,len,cap,elems,rest,n,hn,rfl,hx,_,hlc,_,hlen,hel,_,_⟩
   ·cases hx
    exact⟨[],⟨none,0,rfl,nR _,fun _=>rfl,fun i x hi=>by simp at hi⟩,fun _=>nR _,fun _ x hx=>by cases hx⟩
   ·cases hn
    have hc:=qb6 F u2
    have hpos:=F.pos u2
    have each:∀i,i<len->∃x:ty'.den N.ρ,∃ccs d',w.cells? 0 (a.add (i*N.sz ty')) (N.sz ty')=some ccs/\(elems.map (·.1))[i]?=some d'/\Rep w (fun b=>b<w.heap.size) ty' x ccs/\(∀k,meas k ty' x<=bulk d')/\∀k,okV k ty' x:=by
     intro i hi
     have h1:=hel i hi
     rw[hc]at h1
     obtain⟨y,hy⟩:∃y,elems[i]?=some y:=⟨_,gE (by omega)⟩
     rw[hy]at h1
     obtain⟨ccs,h2,h3⟩:=Option.bind_eq_some_iff.1 h1
     obtain⟨x,x1,x2,x3⟩:=ih e ty' e' ccs y.1 y.2 u2 h3
     exact⟨x,ccs,y.1,h2,by simp[hy],x1,x2,x3⟩
    obtain⟨xs,hxl,hxs⟩:=qds len each
    cases hx
    refine⟨xs,⟨some a,cap,by rw[hxl],by omega,(fun h=>by cases h),fun i x hi=>?_⟩,fun k=>?_,fun k x hx=>?_⟩
    ·obtain⟨ccs,d',q1,q2,q3,_⟩:=hxs i x hi
     obtain⟨_,r1,r2⟩:=World.cells?_some q1
     have hb:a.block<w.heap.size:=by
      have:=r2 0 hpos
      obtain⟨u,hu⟩:∃u,ccs[0]?=some u:=⟨_,gE (by omega)⟩
      rw[hu]at this
      have:=World.block_lt_of_cell? w _ this
      rwa [q1b,q1b]at this
     refine⟨a,ccs,rfl,hb,q3,fun j u hu=>?_⟩
     have hj:j<N.sz ty':=by
      have:=(List.getElem?_eq_some_iff.1 hu).1
      omega
     rw[<-q46,r2 j hj,hu]
    ·have:=qvb (f:=meas k ty') xs (elems.map (·.1)) (by simp[hxl,hlen]) (fun i x d hi hd=>by
      obtain⟨ccs,d',_,q2,_,q4,_⟩:=hxs i x hi
      rw[q2]at hd
      cases hd
      exact q4 k)
     show sumL (meas k ty') xs+1<=_
     simp only[bulk]
     omega
    ·obtain⟨i,hi⟩:=List.mem_iff_getElem?.1 hx
     obtain⟨ccs,d',_,_,_,_,q5⟩:=hxs i x hi
     exact q5 k
  | nm n=>
   obtain⟨fs,u1,u2,_,_,zc,u5,_⟩:=F.nm t n e hτ
   obtain⟨xs,m,hm,hx,hl,hxl,hf⟩:∃(xs:List (DataW H×List MemPlace)) (n:Nat),fuel+1=n+1/\(d,ps)=(DataW.agg (xs.map (·.1)),xs.flatMap (·.2))/\cs.length=P.cellsOf t/\xs.length=fs.size/\
     ∀(i:Nat) (f:Field),fs[i]?=some f->DataW.trod enc P w 0 sp held n f.type ((cs.drop f.offset).take (P.cellsOf f.type))=xs[i]?:=by
    rcases u1 with⟨_,u1⟩|⟨len,el,ie,_,u1,ui,rfl⟩
    ·exact DataW.trod_struct u1 h
    ·obtain⟨xs,m,hm,hx,hl,hxl,hf⟩:=DataW.trod_array u1 h
     refine⟨xs,m,hm,hx,hl,by simp[qr7,hxl],fun i f hif=>?_⟩
     obtain⟨hlt,rfl⟩:=Array.getElem?_eq_some_iff.1 hif
     simp only[qr7,List.getElem_toArray,List.getElem_map,List.getElem_range',Nat.zero_add,Nat.one_mul]
     have hcel:P.cellsOf el=ie.size:=by simp[Program.cellsOf,ui]
     rw[hcel]
     rw[hcel]at hf
     exact hf i (by simpa[qr7]using hlt)
   cases hm
   cases hx
   have hcl:=qb6 F hτ
   have fields:∀(tys:List Ty) (off:Nat) (fl:List Field) (ys:List (DataW H×List MemPlace)),q2g N τ tys off fl->ys.length=fl.length->
     (∀(i:Nat) f,fl[i]?=some f->DataW.trod enc P w 0 sp held fuel f.type ((cs.drop f.offset).take (P.cellsOf f.type))=ys[i]?)->
     ∃y:HL N.ρ tys,q8p w (fun b=>b<w.heap.size) (q93 w fun b=>b<w.heap.size) tys y ((cs.drop off).take (szL N.size tys))/\(∀k,qty (qx8 N k) tys y<=bulkAll (ys.map (·.1)))/\∀k,okL (okK N k) tys y:=by
    intro tys
    induction tys with
    |nil=>
     intro off fl ys hfit hyl hy
     exact⟨(),by simp[szL,q8p],fun _=>Nat.zero_le _,fun _=>trivial⟩
    | cons ty tys ihf=>
     intro off fl ys hfit hyl hy
     match fl,ys,hfit,hyl with
     | f::fl,y::ys,hfit,hyl=>
      obtain⟨f1,⟨e1,f2⟩,_,_,f5⟩:=hfit
      have h0:=hy 0 f rfl
      rw[qb6 F f2,f1]at h0
      obtain⟨x,x1,x2,x3⟩:=ih f.type ty e1 _ y.1 y.2 f2 h0
      obtain⟨z,z1,z2,z3⟩:=ihf (off+N.sz ty) fl ys f5 (by simpa using hyl) (fun i f hf=>by simpa using hy (i+1) f (by simpa using hf))
      refine⟨(x,z),⟨_,_,?_,x1,z1⟩,fun k=>?_,fun k=>⟨x3 k,z3 k⟩⟩
      ·rw[qpe,<-List.drop_drop,List.take_add]
      ·have a1:=x2 k
       have a2:=z2 k
       simp only[meas]at a1
       simp only[qty,List.map_cons,bulkAll]
       omega
   obtain⟨y,y1,y2,y3⟩:=fields (N.body n) 0 fs.toList xs u2 (by simpa using hxl) (fun i f hf'=>hf i f (by simpa using hf'))
   have hcs:(cs.drop 0).take (szL N.size (N.body n))=cs:=by
    rw[List.drop_zero,tL]
    rw[hl,hcl]
    exact Nat.le_of_eq (N.size_eq n)
   rw[hcs]at y1
   refine⟨N.re n y,q33 (by rw[N.un_re];exact y1),fun k=>?_,fun k=>?_⟩
   ·cases k with
    |zero=>exact qnj _
    |succ k=>
     have:=y2 k
     show qty (qx8 N k) (N.body n) (N.un n (N.re n y))+1<=_
     rw[N.un_re]
     simp only[bulk]
     omega
   ·cases k with
    |zero=>trivial
    |succ k=>
     show okL (okK N k) (N.body n) (N.un n (N.re n y))
     rw[N.un_re]
     exact y3 k
/-! The arguments of a law. -/
open Go.ChangeShapes Go.WideShapes Go.ChangeAt Go.RowKit
def qac (k:Nat):(ps:List PK)->HIn N.ρ ps->Nat
 |[],_=>0
 |.v t::ps,x=>meas k t x.1+qac k ps x.2
 |.io _ _::ps,x=>qac k ps x.2
 |.bw _::ps,x=>qac k ps x.2
 |.bc _::ps,x=>qac k ps x.2
 |.fv _::ps,x=>qac k ps x.2
 |.fb _::ps,x=>qac k ps x.2
 |.ag _ _::ps,x=>qac k ps x.2
 |.go _ _::ps,x=>qac k ps x.2
 |.fn _ _::ps,x=>qac k ps x.2
 |.rp _::ps,x=>qac k ps x.2
def okI (k:Nat):(ps:List PK)->HIn N.ρ ps->Prop
 |[],_=>True
 |.v t::ps,x=>okV k t x.1/\okI k ps x.2
 |.io _ _::ps,x=>okI k ps x.2
 |.bw _::ps,x=>okI k ps x.2
 |.bc _::ps,x=>okI k ps x.2
 |.fv _::ps,x=>okI k ps x.2
 |.fb _::ps,x=>okI k ps x.2
 |.ag _ _::ps,x=>okI k ps x.2
 |.go _ _::ps,x=>okI k ps x.2
 |.fn _ _::ps,x=>okI k ps x.2
 |.rp _::ps,x=>okI k ps x.2
def lawPs (P:Program)(τ:TypeId->Option TI):List TypeId->List PK->Bool
 |[],[]=>true
 |t::ts,.v ty::ps=>(match τ t with|some ti=>decide (ti.ty=ty)|none=>false)&&(match ty with|.opq=>false|_=>true)&&P.readableRec t&&decide (t<P.types.size)&&lawPs P τ ts ps
 |_,_=>false
theorem qw8 (F:Fits P N τ){t e:TypeId}{ty:Ty}(hτ:τ t=some ⟨ty,e⟩)(hno:ty≠.opq){r:Reach}{b0:Nat}{v:Value}(hv:Value.okWide P w r b0 t v):AsV ty v v.cells.toList:=by
 cases ty with
 |int k=>obtain⟨n,rfl⟩:=okWide_int (F.int t k e hτ).1 hv;rfl
 |bool=>obtain⟨b,rfl⟩:=okWide_bool (F.bool t e hτ).1 hv;rfl
 |str=>obtain⟨s,rfl⟩:=okWide_string (F.str t e hτ).1 hv;rfl
 |sl ty'=>obtain⟨a,len,cap,rfl⟩:=okWide_slice (F.sl t ty' e hτ).1 hv;rfl
 | nm n=>
  obtain⟨fs,u1,_⟩:=F.nm t n e hτ
  rcases u1 with⟨_,u1⟩|⟨len,el,ie,_,u1,_,_⟩
  ·obtain⟨cs,rfl,_⟩:=okWide_struct u1 hv
   rfl
  ·simp only[Value.okWide,u1]at hv
   obtain⟨cs,rfl,_⟩:=hv
   rfl
 |opq=>exact absurd rfl hno
theorem qgj (F:Fits P N τ){b0:Nat}{vs0:List Value}:∀(ts:List TypeId) (ps:List PK) (vs:List Value) (ds:List (DataW H)) (p:List MemPlace),lawPs P τ ts ps=true->(∀(j:Nat) t v,ts[j]?=some t->vs[j]?=some v->Value.okWide P w .any b0 t v)->
  DataW.TrodAll enc P w 0 (fun _=>true) true ts vs ds p->∃x:HIn N.ρ ps,qlj w (fun b=>b<w.heap.size) vs0 ps x vs []/\(∀k,qac k ps x<=bulkAll ds)/\(∀k,okI k ps x)/\∀y∈p,y.block<w.heap.size
 |[],[],vs,ds,p,hl,hv,hA=>by
  obtain⟨rfl,rfl,rfl⟩:=trodAll_nil hA
  exact⟨(),⟨rfl,rfl⟩,fun _=>nR _,fun _=>trivial,fun y hy=>by cases hy⟩
 |[],_::_,vs,ds,p,hl,hv,hA=>by cases hl
 |_::_,[],vs,ds,p,hl,hv,hA=>by cases hl
 |_::_,.io _ _::_,vs,ds,p,hl,hv,hA=>by cases hl
 |_::_,.bw _::_,vs,ds,p,hl,hv,hA=>by cases hl
 |_::_,.bc _::_,vs,ds,p,hl,hv,hA=>by cases hl
 |_::_,.fv _::_,vs,ds,p,hl,hv,hA=>by cases hl
 |_::_,.fb _::_,vs,ds,p,hl,hv,hA=>by cases hl
 |_::_,.ag _ _::_,vs,ds,p,hl,hv,hA=>by cases hl
 |_::_,.go _ _::_,vs,ds,p,hl,hv,hA=>by cases hl
 |_::_,.fn _ _::_,vs,ds,p,hl,hv,hA=>by cases hl
 |_::_,.rp _::_,vs,ds,p,hl,hv,hA=>by cases hl
 | t::ts,.v ty::ps,vs,ds,p,hl,hv,hA=>by
  obtain⟨v,vs',d,ds',p1,q,rfl,rfl,rfl,h0,r0⟩:=trodAll_cons hA
  simp only[lawPs,Bool.and_eq_true,decide_eq_true_eq]at hl
  obtain⟨⟨⟨⟨h1,h2⟩,_⟩,_⟩,h5⟩:=hl
  split at h1
  ·rename_i ti hti
   have h1:ti.ty=ty:=by simpa using h1
   subst h1
   have hno:ti.ty≠.opq:=fun e=>by rw[e]at h2;cases h2
   obtain⟨x,x1,x2,x3,x4⟩:=qgj F ts ps vs' ds' q h5 (fun j t v ht hv'=>hv (j+1) t v (by simpa using ht) (by simpa using hv')) r0
   have hlt:∀y∈p1,y.block<w.heap.size:=by obtain⟨m,hm⟩:=h0;exact DataW.trod_lt m _ _ _ hm
   obtain⟨m,hm⟩:=h0
   obtain⟨y,y1,y2,y3⟩:=qmz F m t ti.ty ti.el _ d p1 (by rw[hti]) hm
   refine⟨(y,x),⟨v,vs',[],[],rfl,rfl,⟨⟨_,y1,qw8 F (e:=ti.el) (by rw[hti]) hno (hv 0 t v rfl rfl)⟩,rfl⟩,x1⟩,fun k=>?_,fun k=>⟨y3 k,x3 k⟩,fun z hz=>?_⟩
   ·have a1:=y2 k
    have a2:=x2 k
    simp only[qac,bulkAll]
    omega
   ·rcases mA.1 hz with hz|hz
    ·exact hlt z hz
    ·exact x4 z hz
  ·cases h1
theorem qcj (hl:laidOutB P=true){W':World}(hb:Below w.heap.size w W'):∀(ts:List TypeId) (ps:List PK) (vs:List Value) (ds:List (DataW H)) (p:List MemPlace),lawPs P τ ts ps=true->(∀y∈p,y.block<w.heap.size)->
  DataW.TrodAll enc P w 0 (fun _=>true) true ts vs ds p->DataW.TrodAll enc P W' 0 (fun b=>decide (b<w.heap.size)) true ts vs ds p
 |[],[],vs,ds,p,h,hlt,hA=>by
  obtain⟨rfl,rfl,rfl⟩:=trodAll_nil hA
  exact trodAll_mk0
 |[],_::_,vs,ds,p,h,hlt,hA=>by cases h
 |_::_,[],vs,ds,p,h,hlt,hA=>by cases h
 |_::_,.io _ _::_,vs,ds,p,h,hlt,hA=>by cases h
 |_::_,.bw _::_,vs,ds,p,h,hlt,hA=>by cases h
 |_::_,.bc _::_,vs,ds,p,h,hlt,hA=>by cases h
 |_::_,.fv _::_,vs,ds,p,h,hlt,hA=>by cases h
 |_::_,.fb _::_,vs,ds,p,h,hlt,hA=>by cases h
 |_::_,.ag _ _::_,vs,ds,p,h,hlt,hA=>by cases h
 |_::_,.go _ _::_,vs,ds,p,h,hlt,hA=>by cases h
 |_::_,.fn _ _::_,vs,ds,p,h,hlt,hA=>by cases h
 |_::_,.rp _::_,vs,ds,p,h,hlt,hA=>by cases h
 |t::ts,.v ty::ps,vs,ds,p,h,hlt,hA=>by
  obtain⟨v,vs',d,ds',p1,q,rfl,rfl,rfl,h0,r0⟩:=trodAll_cons hA
  simp only[lawPs,Bool.and_eq_true,decide_eq_true_eq]at h
  obtain⟨⟨⟨⟨_,_⟩,h3⟩,h4⟩,h5⟩:=h
  exact trodAll_cons_mk (Below.trod hl h3 h4 h0 hb (fun y hy=>hlt y (mA.2 (.inl hy)))) (qcj hl hb ts ps vs' ds' q h5 (fun y hy=>hlt y (mA.2 (.inr hy))) r0)
theorem qk0 {ok:Nat->Prop}{vs0:List Value}:∀(ps:List PK) (x:HIn N.ρ ps) (vs:List Value) (bl:List Nat),qlj w ok vs0 ps x vs bl->vs.length=ps.length
 |[],_,vs,bl,h=>by rw[h.1];rfl
 |p::ps,x,vs,bl,⟨v,rest,b1,b2,e,_,_,h⟩=>by rw[e,lC,qk0 ps x.2 rest b2 h];rfl
theorem arr_get {α:Type}(a:Array α)(j:Nat)(t:α)(h:a.toList[j]?=some t):a[j]?=some t:=by
 rw[<-Array.getElem?_toList]
 exact h
theorem law_run (F:Fits P N τ)(hlaid:laidOutB P=true){f:FuncId}{ts:List TypeId}{ps:List PK}{Fn:Eng.Fn N}{kf:Nat}
  (G:Good P f (Fn.spec ps [.v .bool] kf)) (hps:lawPs P τ ts ps=true) {B:Nat} (hlaw:∀x:HIn N.ρ ps,(∀k,qac k ps x<=B)->(∀k,okI k ps x)->∃o,Fn.run ps [.v .bool] kf x=some ((true,()),o))
  {b0:Nat} {args:Array Value} {ds:List (DataW H)} {p:List MemPlace} (hv:∀(j:Nat) t v,ts[j]?=some t->args[j]?=some v->Value.okWide P w .any b0 t v)
  (hA:DataW.TrodAll enc P w 0 (fun _=>true) true ts args.toList ds p) (hB:bulkAll ds<=B) (hgh:Fn.X.gh=0:=by rfl):
  Calls P f args w fun e W'=>e=.returned (.bool true)/\Below w.heap.size w W'/\DataW.TrodAll enc P W' 0 (fun b=>decide (b<w.heap.size)) true ts args.toList ds p:=by
 obtain⟨x,x1,x2,x3,x4⟩:=qgj (vs0:=args.toList) F ts ps args.toList ds p hps (fun j t v ht hv'=>hv j t v ht (by simpa using hv')) hA
 obtain⟨o,hx⟩:=hlaw x (fun k=>Nat.le_trans (x2 k) hB) x3
 have:=G.calls w (fun b=>b<w.heap.size) x args.toList [] ((true,()),o) (fun _ h=>h) x1 List.nodup_nil (fun g hg=>by cases hg) hx
 rw[show(Fn.spec ps [RK.v .bool] kf).ps.length-(Fn.spec ps [RK.v .bool] kf).gh=args.toList.length from by rw[show(Fn.spec ps [RK.v .bool] kf).gh=0 from hgh,qk0 ps x _ _ x1];rfl,List.take_length,Array.toArray_toList]at this
 refine this.mono ?_
 rintro e W' ⟨us,bl',rl,rfl,hC⟩
 have hb:Below w.heap.size w W':=⟨hC.kept.os,hC.kept.tape,hC.kept.output,hC.kept.size,fun k hk=>hC.kept.block k hk (fun h=>by cases h)⟩
 refine⟨?_,hb,qcj hlaid hb ts ps _ ds p hps x4 hA⟩
 have hr:=hC.res
 obtain⟨v,rest,b1,b2,rfl,rfl,⟨⟨cs,k1,k2⟩,rfl⟩,⟨rfl,rfl⟩⟩:=hr
 have k1:cs=[.bool true]:=k1
 have k2:cs=[v]:=k2
 rw[k1]at k2
 cases k2
 rfl
end Go.Eng

set_option linter.unusedVariables false
set_option linter.unusedSimpArgs false
namespace Go.Eng
theorem q00 {z:Int}(h1:-9223372036854775808<=z)(h2:z<9223372036854775808):IntKind.i64.wrap z=z:=by
 simp only[IntKind.wrap]
 first
  |omega
  |(simp[IntKind.bits,IntKind.signed];omega)
  |(rw[Int.bmod_eq_of_le]<;>omega)
end Go.Eng

set_option linter.unusedVariables false
set_option linter.unusedSimpArgs false
namespace Go.Eng
variable {N:Names} {P:Program}
def qvu (a b:List Int):Int:=bif q0s a b then-1 else bif q0s b a then 1 else 0
theorem qry (x y:Int)(a b:List Int):qvu (x::a) (y::b)=if x<y then-1 else if y<x then 1 else qvu a b:=by
 unfold qvu
 simp only[q0s]
 by_cases h1:x<y
 ·simp[h1]
 ·by_cases h2:y<x
  ·simp[h1,h2,show¬x=y by omega]
  ·have:x=y:=by omega
   subst this
   simp
theorem qnl:∀l m:List UInt8,Lib.compareBytes l m=qvu (l.map fun b=>(b.toNat:Int)) (m.map fun b=>(b.toNat:Int))
 |[],[]=>rfl
 |[],_::_=>rfl
 |_::_,[]=>rfl
 | a::l,b::m=>by
  rw[Lib.compareBytes,List.map_cons,List.map_cons,qry,qnl l m]
  have e1:(a<b)<->((a.toNat:Int)<(b.toNat:Int)):=by rw[UInt8.lt_iff_toNat_lt];omega
  have e2:(b<a)<->((b.toNat:Int)<(a.toNat:Int)):=by rw[UInt8.lt_iff_toNat_lt];omega
  by_cases h1:a<b
  ·rw[if_pos h1,if_pos (e1.1 h1)]
  ·rw[if_neg h1,if_neg (fun h=>h1 (e1.2 h))]
   by_cases h2:b<a
   ·rw[if_pos h2,if_pos (e2.1 h2)]
   ·rw[if_neg h2,if_neg (fun h=>h2 (e2.2 h))]
theorem qx0 {id : FuncId}{fn : Func}{c : Code}(hf : P.funcs[id]? = some fn)(hb : fn.body = some c)(hn : (fn.name == "runtime.NumGoroutine") = false)
  (hcalls:∀(a b:ByteArray) (w:World),Calls P id #[.string a,.string b] w fun e w'=>e=.returned (.int .i64 (Lib.compareBytes a.data.toList b.data.toList))/\w'=w):
  Good P id (q5s (N:=N) [.v .str,.v .str] [.v (.int .i64)] 0 fun x=>some ((qvu x.1 x.2.1,()),()))where
 enter w args:=q3z hf hb hn w args
 calls w ok x vs bl r hok hin hbl hblk hr:=by
  obtain⟨v1,rest,b1,b2,rfl,rfl,⟨⟨cs1,h1,k1⟩,rfl⟩,v2,rest2,b3,b4,rfl,rfl,⟨⟨cs2,h2,k2⟩,rfl⟩,rfl,rfl⟩:=hin
  obtain⟨s1,e1,f1⟩:=h1
  obtain⟨s2,e2,f2⟩:=h2
  have k1':cs1=[v1]:=k1
  have k2':cs2=[v2]:=k2
  rw[e1]at k1'
  rw[e2]at k2'
  have g1:v1=.string s1:=(List.cons.inj k1').1.symm
  have g2:v2=.string s2:=(List.cons.inj k2').1.symm
  have hr':some ((qvu x.1 x.2.1,()),())=some r:=hr
  cases hr'
  subst g1 g2
  refine(hcalls s1 s2 w).mono ?_
  rintro e w' ⟨rfl,rfl⟩
  refine⟨[.int .i64 (qvu x.1 x.2.1)],[],[],?_,⟨⟨rfl,rfl,rfl,nR _,fun _ _ _=>rfl⟩,rfl,⟨_,[],[],[],rfl,rfl,⟨⟨_,rfl,rfl⟩,rfl⟩,rfl,rfl⟩,List.nodup_nil,fun g hg=>by cases hg⟩⟩
  rw[qnl,<-f1,<-f2]
  rfl
end Go.Eng

set_option linter.unusedVariables false
set_option linter.unusedSimpArgs false
namespace Go.Eng
open Go.Sort Go.Proofs
variable {N:Names} {P:Program}
def insS (x:List Int):List (List Int)->List (List Int)
 |[]=>[x]
 |y::r=>bif q0s y x then y::insS x r else x::y::r
def q9h:List (List Int)->List (List Int)
 |[]=>[]
 |x::r=>insS x (q9h r)
theorem q4e:∀a:List Int,q0s a a=false
 |[]=>rfl
 |a::x=>by simp[q0s,q4e x]
theorem q5e:∀{a b c:List Int},q0s a b=true->q0s b c=true->q0s a c=true
 |_,[],_,h,_=>by simp[q0s]at h
 |_,_::_,[],_,h=>by simp[q0s]at h
 |[],b::y,c::z,_,_=>rfl
 |a::x,b::y,c::z,h1,h2=>by
  simp only[q0s,Bool.or_eq_true,Bool.and_eq_true,decide_eq_true_eq]at h1 h2 ⊢
  rcases h1 with h1|⟨h1,k1⟩<;>rcases h2 with h2|⟨h2,k2⟩
  ·exact .inl (by omega)
  ·exact .inl (by omega)
  ·exact .inl (by omega)
  ·exact .inr ⟨by omega,q5e k1 k2⟩
theorem q8m {a b:List Int}(h1:q0s a b=false)(h2:q0s b a=false):a=b:=by
 have:=q73 a b
 rw[h1,h2]at this
 simpa using this
theorem qfa {a b:List Int}(h:q0s a b=true):q0s b a=false:=by
 cases h2:q0s b a with
 |false=>rfl
 |true=>have:=q5e h h2;rw[q4e]at this;cases this
theorem qn7 {a b c:List Int}(h1:q0s b a=false)(h2:q0s c b=false):q0s c a=false:=by
 cases h:q0s c a with
 |false=>rfl
 |true=>
  cases hab:q0s a b with
  |true=>rw[q5e h hab]at h2;cases h2
  |false=>rw[q8m hab h1,h2]at h;cases h
theorem qei (x:List Int):∀l,(insS x l).Perm (x::l)
 |[]=>List.Perm.refl _
 |y::r=>by
  unfold insS
  cases q0s y x with
  |true=>exact((qei x r).cons y).trans (List.Perm.swap _ _ _)
  |false=>exact List.Perm.refl _
theorem q4t:∀l,(q9h l).Perm l
 |[]=>List.Perm.refl _
 |x::r=>(qei x _).trans ((q4t r).cons x)
theorem qej (x:List Int):∀{l},l.Pairwise (fun a b=>q0s b a=false)->(insS x l).Pairwise (fun a b=>q0s b a=false)
 |[],_=>List.pairwise_singleton _ _
 | y::r,h=>by
  obtain⟨h1,h2⟩:=List.pairwise_cons.1 h
  unfold insS
  cases hyx:q0s y x with
  |true=>
   refine List.pairwise_cons.2 ⟨fun z hz=>?_,qej x h2⟩
   rcases List.mem_cons.1 ((qei x r).mem_iff.1 hz)with rfl|hz
   ·exact qfa hyx
   ·exact h1 z hz
  |false=>
   refine List.pairwise_cons.2 ⟨fun z hz=>?_,h⟩
   rcases List.mem_cons.1 hz with rfl|hz
   ·exact hyx
   ·exact qn7 hyx (h1 z hz)
theorem q7x:∀l,(q9h l).Pairwise (fun a b=>q0s b a=false)
 |[]=>List.Pairwise.nil
 |x::r=>qej x (q7x r)
theorem qk3 {l m:List (List Int)}(hm:m.Pairwise (fun a b=>q0s b a=false))(hp:m.Perm l):m=q9h l:=
 List.Perm.eq_of_pairwise (fun a b _ _ h1 h2=>q8m h2 h1) hm (q7x l) (hp.trans (q4t l).symm)
def toI (l:List UInt8):List Int:=l.map fun b=>(b.toNat:Int)
theorem z102:∀(l m:List UInt8),decide (l<m)=q0s (toI l) (toI m)
 |[],[]=>by simp[toI,q0s]
 |[],_::_=>by simp[toI,q0s]
 |_::_,[]=>by simp[toI,q0s]
 | a::x,b::y=>by
  have ih:=z102 x y
  have e0:decide (a::x<b::y)=(decide (a<b)||(decide (a=b)&&decide (x<y))):=by
   rw[<-Bool.decide_and,<-Bool.decide_or]
   exact decide_eq_decide.2 List.cons_lt_cons_iff
  rw[e0]
  simp only[toI,List.map_cons,q0s]
  rw[show q0s (List.map (fun b:UInt8=>(b.toNat:Int)) x) (List.map (fun b:UInt8=>(b.toNat:Int)) y)=decide (x<y)from ih.symm]
  have e1:(a<b)<->((a.toNat:Int)<(b.toNat:Int)):=by rw[UInt8.lt_iff_toNat_lt];omega
  have e2:(a=b)<->((a.toNat:Int)=(b.toNat:Int)):=by
   rw[<-UInt8.toNat_inj];omega
  by_cases h1:a<b<;>by_cases h2:a=b<;>by_cases h3:x<y<;>simp[h1,h2,h3,<-e1,<-e2]
theorem qy2 (ss:List (List UInt8)):(ss.mergeSort fun x y=>decide (x<=y)).map toI=q9h (ss.map toI):=by
 refine qk3 ?_ ((List.mergeSort_perm ss _).map toI)
 rw[List.pairwise_map]
 have h:=List.pairwise_mergeSort (le:=fun x y:List UInt8=>decide (x<=y)) (fun a b c h1 h2=>by
   simp only[decide_eq_true_eq]at h1 h2 ⊢
   exact List.le_trans h1 h2) (fun a b=>by
   simp only[Bool.or_eq_true,decide_eq_true_eq]
   exact List.le_total a b) ss
 refine h.imp fun{a b} hab=>?_
 rw[<-z102]
 simp only[decide_eq_true_eq]at hab
 simpa using hab
def qpa (N:Names)(el:TypeId):Spec N:=⟨[.io el .str],[],List (List Int),fun x=>bif Nat.blt x.1.length 4611686018427387904 then some (q9h x.1)else none,fun r=>((),(r,())),0⟩
theorem qos {w:World}{ok:Nat->Prop}:∀{xs:List (List Int)} {cells:List Value},q6f (Rep (N:=N) w ok .str) xs cells->∃ss:List (List UInt8),cells=ss.map encStr/\xs=ss.map toI
 |[],_,h=>⟨[],by simpa[q6f]using h,rfl⟩
 | x::xs,cells,⟨c1,c2,e,h1,h2⟩=>by
  obtain⟨s,rfl,hs⟩:=h1
  obtain⟨ss,e1,e2⟩:=qos h2
  refine⟨s.data.toList::ss,?_,?_⟩
  ·rw[e,e1]
   simp[encStr]
  ·rw[e2]
   simp only[List.map_cons,List.cons.injEq,and_true]
   rw[<-hs]
   simp[q0q,toI]
theorem qpb {w:World}{ok:Nat->Prop}:∀(ss:List (List UInt8)),q6f (Rep (N:=N) w ok .str) (ss.map toI) (ss.map encStr)
 |[]=>rfl
 |s::ss=>⟨_,_,rfl,⟨⟨s.toArray⟩,rfl,by simp[q0q,toI]⟩,qpb ss⟩
theorem qtk {f:FuncId}{el:TypeId}(hcalls:∀(blk off cap:Nat) (ss:List (List UInt8)) (w:World),Holds encStr w blk off ss.toArray->blk<w.heap.size->ss.length<4611686018427387904->
   Calls P f #[.slice (some ⟨blk,off,none⟩) ss.length cap] w fun e w'=>e=.returned (.tuple #[])/\∃n os,w'=grow (putRow encStr (Sort.ahead w n) blk off (ss.mergeSort fun x y=>decide (x<=y)).toArray) os)
  {F:Fn N} {k:Nat} (hF:Good P f (F.spec [.io el .str] [] k)) (hnil:F.run [.io el .str] [] k ([],())=some ((),([],()))) (hgh:F.X.gh=0:=by rfl):Good P f (qpa N el)where
 enter:=hF.enter
 calls w ok x vs bl r hok hin hbl hblk hr:=by
  obtain⟨v,rest,b1,b2,rfl,rfl,⟨hown,hb1⟩,⟨rfl,rfl⟩⟩:=hin
  have hr:(bif Nat.blt x.1.length 4611686018427387904 then some (q9h x.1)else none)=some r:=hr
  have hsz0:x.1.length<4611686018427387904:=by
   cases hb:Nat.blt x.1.length 4611686018427387904 with
   |false=>rw[hb]at hr;cases hr
   |true=>exact Nat.le_of_ble_eq_true hb
  rw[show Nat.blt x.1.length 4611686018427387904=true from Nat.ble_eq_true_of_le hsz0]at hr
  have hr:some (q9h x.1)=some r:=hr
  cases hr
  have hin:qlj w ok [v] [.io el .str] x [v] (b1++[]):=⟨v,[],b1,[],rfl,rfl,⟨hown,hb1⟩,⟨rfl,rfl⟩⟩
  obtain⟨cells,ho,hc⟩:=hown
  rcases ho.2.2 with⟨rfl,hn⟩|⟨g,cap,cur,rfl,_,hg,hnc,hcm,hcs,ht⟩
  ·have hx:x=(([],()):HIn N.ρ [.io el .str]):=by
    obtain⟨x1,x2⟩:=x
    have:x1=[]:=List.eq_nil_of_length_eq_zero hn
    subst this
    rfl
   subst hx
   have hfx:(F.spec [.io el .str] [] k).f (([],()):HIn N.ρ [.io el .str])=some ((),([],())):=hnil
   have hk:=hF.calls w ok _ _ _ _ hok hin hbl hblk hfx
   rw[show(F.spec [.io el .str] [] k).gh=0 from hgh]at hk
   refine hk.mono ?_
   rintro e w' ⟨us,bl',rl,he,hC⟩
   exact⟨us,bl',rl,he,⟨hC.kept,hC.out,hC.res,hC.nodup,hC.old⟩⟩
  ·obtain⟨ss,e1,e2⟩:=qos hc
   have hlen:x.1.length=ss.length:=by rw[e2,List.length_map]
   have ht':cur.toList.take ss.length=ss.map encStr:=by
    have:N.sz (.str)=1:=rfl
    rw[this,Nat.mul_one,e1,hlen]at ht
    exact ht
   have hsz:ss.length<4611686018427387904:=by omega
   have hgl:g<w.heap.size:=(Array.getElem?_eq_some_iff.1 hg).1
   have hgb:g∈b1++[]:=by rw[hb1];simp[q0u,q0i]
   have:=hcalls g 0 cap ss w (holds_of_block hg ht') hgl hsz
   rw[show x.1.length=ss.length from hlen]
   refine this.mono ?_
   rintro e w' ⟨rfl,n,os,rfl⟩
   have hl:(ss.mergeSort fun x y=>decide (x<=y)).length=ss.length:=by simp
   have hgr:w.grownBy _ (some g):=grownBy_sorted (w:=w) (n:=n) (os:=os) (g:=g) (ss.mergeSort fun x y=>decide (x<=y)).toArray
   have hrow:=ownsRow_sorted (base:=0) (os:=os) (n:=n) hl (Nat.zero_le _) hg (by omega) hcm (by have h1:N.sz Ty.str=1:=rfl;rw[hcs,h1])
   have hlx:(q9h x.1).length=ss.length:=by rw[(q4t x.1).length_eq,hlen]
   refine⟨[],q0u (.slice (some ⟨g,0,none⟩) ss.length cap),[],rfl,⟨⟨hgr.os,hgr.tape,hgr.output,hgr.size,fun k hk hkb=>hgr.block k hk (fun e=>hkb (by cases e;exact hgb))⟩,?_,⟨rfl,rfl⟩,?_,?_⟩⟩
   ·have hel:el<qff:=by
     rcases ho.1 with h0|h0
     ·cases h0
     ·exact h0
    refine⟨_,[],q0u (.slice (some ⟨g,0,none⟩) ss.length cap),[],rfl,(by simp),⟨⟨(ss.mergeSort fun x y=>decide (x<=y)).map encStr,?_,?_⟩,rfl⟩,rfl⟩
    ·refine⟨.inr hel,?_⟩
     show World.ownsRow _ 0 el 1 (.slice (some ⟨g,0,none⟩) ss.length cap) (q9h x.1).length _
     rw[hlx]
     exact hrow
    ·show q6f _ (q9h x.1) _
     rw[e2,<-qy2]
     exact qpb _
   ·simp[q0u,q0i]
   ·intro g' hg'
    have:g'=g:=by simpa[q0u,q0i]using hg'
    subst this
    exact⟨.inl hgb,Nat.lt_of_lt_of_le hgl hgr.size⟩
end Go.Eng

set_option linter.unusedVariables false
namespace Go.Eng
def unA (ρ:Nat->Type)(T:Ty):(k:Nat)->(Nat->T.den ρ)->HL ρ (List.replicate k T)
 |0,_=>()
 |k+1,f=>(f 0,unA ρ T k fun i=>f (i+1))
def reA (ρ:Nat->Type)(T:Ty):(k:Nat)->HL ρ (List.replicate k T)->List (T.den ρ)
 |0,_=>[]
 |k+1,x=>x.1::reA ρ T k x.2
theorem qve {ρ:Nat->Type}{T:Ty}{d:T.den ρ}:∀(k:Nat) (x:HL ρ (List.replicate k T)),unA ρ T k (fun i=>(reA ρ T k x).getD i d)=x
 |0,_=>rfl
 |k+1,x=>by
  have ih:=qve (d:=d) k x.2
  show(x.1,unA ρ T k fun i=>(reA ρ T k x.2).getD i d)=x
  rw[ih]
  rfl
theorem qeh {ρ:Nat->Type}{T:Ty}:∀(k:Nat) (f:Nat->T.den ρ) (m:Nat),m<k->q7w ρ (List.replicate k T) (unA ρ T k f) m=some ⟨T,f m⟩
 |0,_,_,h=>absurd h (Nat.not_lt_zero _)
 |k+1,f,0,_=>rfl
 |k+1,f,m+1,h=>qeh k (fun i=>f (i+1)) m (Nat.lt_of_succ_lt_succ h)
def qrf {α:Type}(d:α)(k:Nat)(x:List α):List α:=(List.range k).map fun i=>x.getD i d
def lstA (ρ:Nat->Type)(T0:Ty)(k:Nat)(d:T0.den ρ)(T:Ty)(x:List (T0.den ρ)):Option (List (T.den ρ)):=if h:T0=T then some (h▸qrf d k x)else none
def ofA (ρ:Nat->Type)(T0:Ty)(T:Ty)(x:List (T.den ρ)):Option (List (T0.den ρ)):=if h:T=T0 then some (h▸x)else none
theorem z12l {ρ:Nat->Type}{T0:Ty}{k:Nat}{d:T0.den ρ}{T:Ty}{x:List (T0.den ρ)}{l:List (T.den ρ)}(h:lstA ρ T0 k d T x=some l):
  l.length=(List.replicate k T0).length/\∀(m:Nat) z,l[m]?=some z->q7w ρ (List.replicate k T0) (unA ρ T0 k fun i=>x.getD i d) m=some ⟨T,z⟩:=by
 unfold lstA at h
 split at h
 ·rename_i e
  subst e
  cases h
  refine⟨by simp[qrf],fun m z hz=>?_⟩
  have hm:m<k:=by
   have:=(List.getElem?_eq_some_iff.1 hz).1
   simpa[qrf]using this
  rw[qeh k _ m hm]
  simp only[qrf,List.getElem?_map,List.getElem?_range hm,Option.map_some,Option.some.injEq]at hz
  rw[hz]
 ·cases h
theorem z16r {ρ:Nat->Type}{T0:Ty}{k:Nat}{d:T0.den ρ}{T:Ty}{l:List (T.den ρ)}{y:List (T0.den ρ)}(hl:l.length=(List.replicate k T0).length)(h:ofA ρ T0 T l=some y):
  ∀(m:Nat) z,l[m]?=some z->q7w ρ (List.replicate k T0) (unA ρ T0 k fun i=>y.getD i d) m=some ⟨T,z⟩:=by
 unfold ofA at h
 split at h
 ·rename_i e
  subst e
  cases h
  intro m z hz
  have hm:m<k:=by
   have:=(List.getElem?_eq_some_iff.1 hz).1
   rw[hl,List.length_replicate]at this
   exact this
  rw[qeh k _ m hm]
  congr 2
  show List.getD l m d=z
  rw[gQ,hz]
  rfl
 ·cases h
end Go.Eng

set_option linter.unusedVariables false
set_option linter.unusedSimpArgs false
namespace Go.Eng
theorem qbx (n:Nat):IntKind.u8.wrap (n:Int)=((n%256:Nat):Int):=by
 simp[IntKind.wrap,IntKind.bits,IntKind.signed]
theorem qav (n:Nat):IntKind.u64.wrap (n:Int)=((n%18446744073709551616:Nat):Int):=by
 simp[IntKind.wrap,IntKind.bits,IntKind.signed]
theorem q01 {z:Int}(h1:0<=z)(h2:z<18446744073709551616):IntKind.u64.wrap z=z:=by
 obtain⟨n,rfl⟩:=Int.eq_ofNat_of_zero_le h1
 rw[qav,Nat.mod_eq_of_lt (by omega)]
theorem q1x {z:Int}(h1:0<=z)(h2:z<256):IntKind.u8.wrap z=z:=by
 obtain⟨n,rfl⟩:=Int.eq_ofNat_of_zero_le h1
 rw[qbx,Nat.mod_eq_of_lt (by omega)]
theorem q55 (w n:Nat):BitVec.ofInt w (n:Int)=BitVec.ofNat w n:=BitVec.ofInt_natCast w n
theorem z12t {a b:Nat}(ha:a<256)(hb:b<256):Go.bits .or .u8 (a:Int) (b:Int)=((a|||b:Nat):Int):=by
 unfold Go.bits
 simp only[q55,BitVec.toNat_or,BitVec.toNat_ofNat,show IntKind.u8.bits=8 from rfl]
 rw[Nat.mod_eq_of_lt (show a<2^8 from ha),Nat.mod_eq_of_lt (show b<2^8 from hb),qbx,Nat.mod_eq_of_lt]
 exact Nat.or_lt_two_pow (n:=8) ha hb
theorem qg8 {a b:Nat}(ha:a<18446744073709551616)(hb:b<18446744073709551616):Go.bits .or .u64 (a:Int) (b:Int)=((a|||b:Nat):Int):=by
 unfold Go.bits
 simp only[q55,BitVec.toNat_or,BitVec.toNat_ofNat,show IntKind.u64.bits=64 from rfl]
 rw[Nat.mod_eq_of_lt (show a<2^64 from ha),Nat.mod_eq_of_lt (show b<2^64 from hb),qav,Nat.mod_eq_of_lt]
 exact Nat.or_lt_two_pow (n:=64) ha hb
theorem qro {a b:Nat}(ha:a<256)(hb:b<256):Go.bits .and .u8 (a:Int) (b:Int)=((a&&&b:Nat):Int):=by
 unfold Go.bits
 simp only[q55,BitVec.toNat_and,BitVec.toNat_ofNat,show IntKind.u8.bits=8 from rfl]
 rw[Nat.mod_eq_of_lt (show a<2^8 from ha),Nat.mod_eq_of_lt (show b<2^8 from hb),qbx,Nat.mod_eq_of_lt]
 exact Nat.lt_of_le_of_lt Nat.and_le_left ha
theorem z10k {a b:Nat}(ha:a<18446744073709551616)(hb:b<18446744073709551616):Go.bits .and .u64 (a:Int) (b:Int)=((a&&&b:Nat):Int):=by
 unfold Go.bits
 simp only[q55,BitVec.toNat_and,BitVec.toNat_ofNat,show IntKind.u64.bits=64 from rfl]
 rw[Nat.mod_eq_of_lt (show a<2^64 from ha),Nat.mod_eq_of_lt (show b<2^64 from hb),qav,Nat.mod_eq_of_lt]
 exact Nat.lt_of_le_of_lt Nat.and_le_left ha
theorem q47 {a k:Nat}(ha:a<18446744073709551616)(hk:k<=64):Go.bits .and .u64 (a:Int) ((2^k-1:Nat):Int)=((a%2^k:Nat):Int):=by
 have h:2^k<=2^64:=Nat.pow_le_pow_right (by decide) hk
 rw[z10k ha (Nat.lt_of_lt_of_le (Nat.sub_lt (Nat.two_pow_pos k) (by decide)) h),Nat.and_two_pow_sub_one_eq_mod]
theorem qaf {a y r:Nat}(ha:a<2^r):a|||(y*2^r)=a+y*2^r:=by
 rw[Nat.or_comm,Nat.mul_comm,<-Nat.two_pow_add_eq_or_of_lt ha,Nat.add_comm]
def dig (M len:Nat):List Int:=(List.range len).map fun p=>((M/256^p%256:Nat):Int)
theorem q4r (M len:Nat):(dig M len).length=len:=by simp[dig]
theorem qwk {M len p:Nat}(h:p<len):(dig M len).getD p 0=((M/256^p%256:Nat):Int):=by
 rw[gQ,dig,List.getElem?_map,List.getElem?_range h]
 rfl
theorem qnv (len:Nat):dig 0 len=List.replicate len 0:=by
 apply List.ext_getElem?
 intro p
 rw[dig,List.getElem?_map,List.getElem?_replicate]
 by_cases h:p<len
 ·rw[List.getElem?_range h,if_pos h]
  simp
 ·rw[List.getElem?_eq_none (by simpa using h),if_neg h]
  rfl
theorem qaj (j r:Nat):2^(8*j+r)=256^j*2^r:=by
 rw[Nat.pow_add,Nat.pow_mul]
theorem z10t {M len j r y:Nat}(hr:r<8)(hM:M<2^(8*j+r))(hy:y<2^(8-r)){z:Int}(hz:z=((M/256^j+y*2^r:Nat):Int)):
  (dig M len).set j z=dig (M+y*2^(8*j+r)) len:=by
 have hp:=qaj j r
 have h256:0<256^j:=Nat.pow_pos (by decide)
 have e8:2^(8-r)*2^r=256:=by rw[<-Nat.pow_add,show 8-r+r=8 by omega]
 have hb:M/256^j<2^r:=Nat.div_lt_of_lt_mul (by rw[<-hp];exact hM)
 have hyr:(y+1)*2^r<=256:=by rw[<-e8];exact Nat.mul_le_mul_right _ hy
 rw[Nat.add_mul,Nat.one_mul]at hyr
 apply List.ext_getElem?
 intro p
 rw[List.getElem?_set]
 by_cases hpl:p<len
 ·have e1:(dig M len)[p]?=some ((M/256^p%256:Nat):Int):=by rw[dig,List.getElem?_map,List.getElem?_range hpl];rfl
  have e2:(dig (M+y*2^(8*j+r)) len)[p]?=some (((M+y*2^(8*j+r))/256^p%256:Nat):Int):=by rw[dig,List.getElem?_map,List.getElem?_range hpl];rfl
  rw[e1,e2]
  rcases Nat.lt_trichotomy p j with h|h|h
  ·rw[if_neg (by omega),hp]
   have e3:y*(256^j*2^r)=256^p*(256*(256^(j-p-1)*(y*2^r))):=by
    rw[show 256^j=256^p*(256*256^(j-p-1)) by rw[<-Nat.pow_succ',<-Nat.pow_add];congr 1;omega]
    simp only[Nat.mul_assoc,Nat.mul_left_comm,Nat.mul_comm]
   rw[e3,Nat.add_mul_div_left _ _ (Nat.pow_pos (by decide)),Nat.add_mul_mod_self_left]
  ·subst h
   rw[if_pos rfl,if_pos (by rw[q4r];exact hpl),hp,hz,show y*(256^p*2^r)=256^p*(y*2^r) by simp only[Nat.mul_left_comm],Nat.add_mul_div_left _ _ h256,Nat.mod_eq_of_lt (by omega)]
  ·rw[if_neg (by omega)]
   have hle:256^(j+1)<=256^p:=Nat.pow_le_pow_right (by decide) h
   have e4:M+y*2^(8*j+r)<256^(j+1):=by
    rw[hp,Nat.pow_succ,show y*(256^j*2^r)=256^j*(y*2^r) by simp only[Nat.mul_left_comm]]
    rw[hp]at hM
    calc M+256^j*(y*2^r)<256^j*2^r+256^j*(y*2^r):=Nat.add_lt_add_right hM _
     _=256^j*(y*2^r+2^r):=by rw[<-Nat.mul_add,Nat.add_comm]
     _<=256^j*256:=Nat.mul_le_mul_left _ hyr
   rw[Nat.div_eq_of_lt (by omega),Nat.div_eq_of_lt (by omega)]
 ·have hn:∀M,(dig M len)[p]?=none:=fun M=>List.getElem?_eq_none (by rw[q4r];omega)
  rw[hn,hn]
  by_cases h:j=p
  ·rw[if_pos h,if_neg (by rw[q4r];omega)]
  ·rw[if_neg h]
/-! The number of significant bits. -/
def q16:Nat->Nat
 |0=>0
 |n+1=>q16 ((n+1)/2)+1
decreasing_by omega
theorem q4p {n:Nat}(h:0<n):q16 n=q16 (n/2)+1:=by
 obtain⟨m,rfl⟩:∃m,n=m+1:=⟨n-1,by omega⟩
 rw[q16]
theorem q48:∀(k n:Nat),2^k<=n->q16 n=q16 (n/2^k)+k
 |0,n,_=>by simp
 |k+1,n,h=>by
  have h1:2^k<=n/2:=by rw[Nat.pow_succ]at h;omega
  rw[q4p (Nat.lt_of_lt_of_le (Nat.two_pow_pos _) h),q48 k (n/2) h1,Nat.div_div_eq_div_mul,Nat.pow_succ',Nat.add_assoc]
theorem q4x:∀(k n:Nat),n<2^k->q16 n<=k
 |0,n,h=>by
  have:n=0:=by simpa using h
  rw[this,q16]
  exact nR _
 | k+1,n,h=>by
  rcases Nat.eq_zero_or_pos n with rfl|hn
  ·rw[q16];omega
  ·rw[q4p hn]
   have:=q4x k (n/2) (by rw[Nat.pow_succ]at h;omega)
   omega
theorem qtx:∀n:Nat,n<2^q16 n:=by
 intro n
 induction n using Nat.strongRecOn with
 | ind n ih=>
  rcases Nat.eq_zero_or_pos n with rfl|hn
  ·rw[q16];decide
  ·rw[q4p hn,Nat.pow_succ]
   have:=ih (n/2) (by omega)
   omega
/-! Numbers of seven bits a byte. -/
def q0f (n:Nat):List Int:=if h:n<128 then[(n:Int)]else((128+n%128:Nat):Int)::q0f (n/128)
termination_by n
decreasing_by omega
theorem q28 {n:Nat}(h:n<128):q0f n=[(n:Int)]:=by rw[q0f,dif_pos h]
theorem qay {n:Nat}(h:128<=n):q0f n=((128+n%128:Nat):Int)::q0f (n/128):=by rw[q0f,dif_neg (by omega)]
theorem qpl:∀(k n:Nat),n<128^(k+1)->(q0f n).length<=k+1
 |0,n,h=>by rw[q28 (by simpa using h)];simp
 | k+1,n,h=>by
  by_cases hs:n<128
  ·rw[q28 hs];simp
  ·rw[qay (by omega),lC]
   have:=qpl k (n/128) (Nat.div_lt_of_lt_mul (by rw[<-Nat.pow_succ'];exact h))
   omega
end Go.Eng
