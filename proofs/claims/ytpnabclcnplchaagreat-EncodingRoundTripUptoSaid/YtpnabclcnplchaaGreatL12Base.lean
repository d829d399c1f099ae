/- The types of the program of law 12. -/
import Derived.Test.YtpnabclcnplchaaGreatEngine4
import Derived.Shelf.Small.Strs
import Derived.Shelf.Sort.Plain
import Derived.Shelf.Lay
import Derived.Test.YtpnabclcnplchaaGreatProg
set_option linter.unusedVariables false
namespace Go.Proofs
shelf_lay Lays.n213 Nm 213 at Tryz as Tryz.lays213
shelf_lay Lays.n190 Nm 190 at Tryz as Tryz.lays190
end Go.Proofs
namespace Go.Proofs.Tryz
open Go.Eng
mutual
structure Vec where
 f_Type:Int
 ints:List (Int)
 texts:List (List Int)
 nulls:List (Bool)
structure Cost where
 encoding:Int
 bytes:Int
structure Val where
 kind:Int
 int:Int
 text:List Int
structure Pred where
 column:Int
 op:Int
 value:Val
structure Bits where
 n:Int
 words:List (Int)
structure Run where
 value:Int
 count:Int
structure Hdr where
 base:Int
 width:Int
 exceptions:Int
 f_end:Int
structure Patch where
 index:Int
 high:Int
end
@[reducible] def NN:Names where
 ρ:=fun n=>match n with|0=>Vec|1=>Cost|2=>Val|3=>Pred|4=>Bits|5=>Run|6=>List (Int)|7=>Hdr|_+8=>Patch
 body:=fun n=>match n with|0=>[.int .i64,.sl (.int .i64),.sl (.str),.sl (.bool)]|1=>[.int .i64,.int .i64]|2=>[.int .i64,.int .i64,.str]|3=>[.int .i64,.int .i64,.nm 2]|4=>[.int .i64,.sl (.int .u64)]|5=>[.int .i64,.int .i64]|6=>List.replicate 65 (.int .i64)|7=>[.int .i64,.int .i64,.int .i64,.int .i64]|_+8=>[.int .i64,.int .u64]
 un:=fun n=>match n with|0=>fun v=>(v.f_Type,v.ints,v.texts,v.nulls,())|1=>fun v=>(v.encoding,v.bytes,())|2=>fun v=>(v.kind,v.int,v.text,())|3=>fun v=>(v.column,v.op,v.value,())|4=>fun v=>(v.n,v.words,())|5=>fun v=>(v.value,v.count,())|6=>fun v=>unA _ (.int .i64) 65 fun i=>v.getD i (0)|7=>fun v=>(v.base,v.width,v.exceptions,v.f_end,())|_+8=>fun v=>(v.index,v.high,())
 re:=fun n=>match n with|0=>fun x=>⟨x.1,x.2.1,x.2.2.1,x.2.2.2.1⟩|1=>fun x=>⟨x.1,x.2.1⟩|2=>fun x=>⟨x.1,x.2.1,x.2.2.1⟩|3=>fun x=>⟨x.1,x.2.1,x.2.2.1⟩|4=>fun x=>⟨x.1,x.2.1⟩|5=>fun x=>⟨x.1,x.2.1⟩|6=>fun x=>reA _ (.int .i64) 65 x|7=>fun x=>⟨x.1,x.2.1,x.2.2.1,x.2.2.2.1⟩|_+8=>fun x=>⟨x.1,x.2.1⟩
 dv:=fun n=>match n with|0=>⟨0,[],[],[]⟩|1=>⟨0,0⟩|2=>⟨0,0,[]⟩|3=>⟨0,0,⟨0,0,[]⟩⟩|4=>⟨0,[]⟩|5=>⟨0,0⟩|6=>List.replicate 65 (0)|7=>⟨0,0,0,0⟩|_+8=>⟨0,0⟩
 size:=fun n=>match n with|0=>4|1=>2|2=>3|3=>5|4=>2|5=>2|6=>65|7=>4|_+8=>2
 rowsAt:=fun n=>match n with|4=>[none,some (83,.int .u64)]|_=>[]
 oslD:=fun d=>[71].contains d
 elT:=fun n=>match n with|6=>some (.int .i64)|_=>none
 un_re:=fun n=>match n with|0=>fun _=>rfl|1=>fun _=>rfl|2=>fun _=>rfl|3=>fun _=>rfl|4=>fun _=>rfl|5=>fun _=>rfl|6=>fun x=>qw3 65 x|7=>fun _=>rfl|_+8=>fun _=>rfl
 lst:=fun n=>match n with|6=>fun T x=>lstA _ (.int .i64) 65 (0) T x|_=>fun _ _=>none
 lst_ok:=fun n=>match n with|0=>fun _ _ _ h=>nomatch h|1=>fun _ _ _ h=>nomatch h|2=>fun _ _ _ h=>nomatch h|3=>fun _ _ _ h=>nomatch h|4=>fun _ _ _ h=>nomatch h|5=>fun _ _ _ h=>nomatch h|6=>fun _ _ _ h=>z123 h|7=>fun _ _ _ h=>nomatch h|_+8=>fun _ _ _ h=>nomatch h
 ofL:=fun n=>match n with|6=>fun T x=>ofA _ (.int .i64) T x|_=>fun _ _=>none
 ofL_ok:=fun n=>match n with|0=>fun _ _ _ _ h=>nomatch h|1=>fun _ _ _ _ h=>nomatch h|2=>fun _ _ _ _ h=>nomatch h|3=>fun _ _ _ _ h=>nomatch h|4=>fun _ _ _ _ h=>nomatch h|5=>fun _ _ _ _ h=>nomatch h|6=>fun _ _ _ hl h=>z15t hl h|7=>fun _ _ _ _ h=>nomatch h|_+8=>fun _ _ _ _ h=>nomatch h
 size_eq:=fun n=>match n with|0=>rfl|1=>rfl|2=>rfl|3=>rfl|4=>rfl|5=>rfl|6=>rfl|7=>rfl|_+8=>rfl
def tys:List (TypeId×TI):=[(2,⟨.int .i64,0⟩),(3,⟨.int .i64,0⟩),(4,⟨.bool,0⟩),(5,⟨.int .u8,0⟩),(6,⟨.int .u8,0⟩),(9,⟨.str,0⟩),(10,⟨.str,0⟩),(11,⟨.str,0⟩),(12,⟨.int .u64,0⟩),(21,⟨.int .i32,0⟩),(22,⟨.sl (.int .i64),2⟩),(23,⟨.sl (.str),9⟩),(24,⟨.sl (.bool),4⟩),(25,⟨.nm 0,0⟩),(26,⟨.nm 0,0⟩),(29,⟨.sl (.int .u8),5⟩),(30,⟨.int .i64,0⟩),(35,⟨.sl (.nm 1),38⟩),(37,⟨.nm 1,0⟩),(38,⟨.nm 1,0⟩),(47,⟨.nm 2,0⟩),(48,⟨.nm 2,0⟩),(49,⟨.nm 3,0⟩),(50,⟨.nm 3,0⟩),(52,⟨.sl (.int .u64),83⟩),(53,⟨.nm 4,0⟩),(54,⟨.nm 4,0⟩),(70,⟨.opq,1⟩),(74,⟨.opq,1⟩),(80,⟨.sl (.int .i64),3⟩),(83,⟨.int .u64,0⟩),(84,⟨.int .u64,0⟩),(87,⟨.sl (.nm 5),110⟩),(109,⟨.nm 5,0⟩),(110,⟨.nm 5,0⟩),(115,⟨.nm 6,4⟩),(128,⟨.sl (.sl (.int .u8)),29⟩),(145,⟨.nm 7,0⟩),(146,⟨.nm 7,0⟩),(149,⟨.sl (.nm 8),151⟩),(150,⟨.nm 8,0⟩),(151,⟨.nm 8,0⟩),(188,⟨.int .i64,0⟩),(196,⟨.int .u32,0⟩),(197,⟨.int .u64,0⟩),(213,⟨.int .u8,0⟩),(214,⟨.int .u8,0⟩),(217,⟨.int .i32,0⟩),(218,⟨.int .i32,0⟩),(177,⟨.opq,900004⟩)]
theorem fits:Fits prog NN (Eng.look tys):=z114 (fun n=>match n with|0=>rfl|1=>rfl|2=>rfl|3=>rfl|4=>rfl|5=>rfl|6=>rfl|7=>rfl|_+8=>rfl) (by decide+kernel)
def q3k:Vec:={f_Type:=(0:Int),ints:=[],texts:=[],nulls:=[]:Vec}
def qdj:Cost:={encoding:=(0:Int),bytes:=(0:Int):Cost}
def zVal:Val:={kind:=(0:Int),int:=(0:Int),text:=[]:Val}
def z1by:Pred:={column:=(0:Int),op:=(0:Int),value:={kind:=(0:Int),int:=(0:Int),text:=[]:Val}:Pred}
def z1bx:Bits:={n:=(0:Int),words:=[]:Bits}
def q0x:Run:={value:=(0:Int),count:=(0:Int):Run}
def zHdr:Hdr:={base:=(0:Int),width:=(0:Int),exceptions:=(0:Int),f_end:=(0:Int):Hdr}
def qd8:Patch:={index:=(0:Int),high:=(0:Int):Patch}
theorem qwx:∀(a b:ByteArray) (w:World),Calls prog 169 #[.string a,.string b] w fun e w'=>e=.returned (.int .i64 (Lib.compareBytes a.data.toList b.data.toList))/\w'=w:=
 fun a b w=>Any.bytealg_CompareString lays213 a b w
theorem q0e:prog.follows .mixedOrders=true:=by kernel_rfl
open Go.Sort in
theorem qvq:∀(blk off cap:Nat) (ss:List (List UInt8)) (w:World),Holds encStr w blk off ss.toArray->blk<w.heap.size->ss.length<4611686018427387904->
   Calls prog 152 #[.slice (some ⟨blk,off,none⟩) ss.length cap] w fun e w'=>e=.returned (.tuple #[])/\∃n os,w'=grow (putRow encStr (Go.Sort.ahead w n) blk off (ss.mergeSort fun x y=>decide (x<=y)).toArray) os:=
 fun blk off cap ss w h1 h2 h3=>Any.slices_Sort_string lays190 blk off cap ss w h1 h2 h3
abbrev Pk0:List PK:=[.v (.sl (.int .u8)),.v (.int .i64),.v (.int .i64)]
abbrev Rk1:List RK:=[RK.own 5 (Ty.int IntKind.u8)]
abbrev Pk2:List PK:=[PK.v (Ty.int IntKind.u8).sl,PK.v (Ty.int .i64),PK.v (Ty.int .i64)]
abbrev Rk3:List RK:=[.own 2 (.int .i64),.v (.int .i64),.v (.int .i64)]
abbrev Rk4:List RK:=[.own 5 (.int .u8)]
abbrev Pk5:List PK:=[PK.v (Ty.int IntKind.u8).sl,PK.v (Ty.int .i64)]
abbrev Rk6:List RK:=[RK.v (Ty.int .i64)]
abbrev Rk7:List RK:=[.own 9 (.str),.v (.int .i64),.v (.int .i64)]
abbrev Rk8:List RK:=[RK.v (Ty.int IntKind.u64),RK.v (Ty.int .i64),RK.v (Ty.int .i64)]
abbrev Pk9:List PK:=[PK.v (Ty.int .i64),PK.v (Ty.int .i64)]
abbrev Pka:List PK:=[PK.v (Ty.int IntKind.u64)]
abbrev Pkb:List PK:=[.v (.sl (.int .u8)),.v (.int .i64)]
abbrev Pkc:List PK:=[PK.v (Ty.int .i64).sl]
abbrev Rkd:List RK:=[.v (.int .i64)]
abbrev Pke:List PK:=[.v (.sl (.int .i64))]
abbrev Rkf:List RK:=[RK.v (Ty.int IntKind.u64)]
abbrev Pkg:List PK:=[.v (.sl (.int .u8)),.v (.int .i64),.v (.int .i64),.v (.int .i64)]
abbrev Rkh:List RK:=[.v (.nm 0),.v (.int .i64),.v (.int .i64)]
abbrev Rki:List RK:=[RK.own 2 (Ty.int .i64),RK.v (Ty.int .i64),RK.v (Ty.int .i64)]
abbrev Pkj:List PK:=[PK.v (Ty.int IntKind.u64),PK.v (Ty.int .i64)]
abbrev Rkk:List RK:=[.v (.bool)]
abbrev Rkl:List RK:=[RK.v Ty.bool]
abbrev Rkm:List RK:=[.own 110 (.nm 5),.v (.int .i64),.v (.int .i64)]
abbrev Pkn:List PK:=[PK.v (Ty.int IntKind.u8).sl,PK.v (Ty.int .i64),PK.v (Ty.int .i64),PK.v (Ty.int .i64)]
abbrev Pko:List PK:=[PK.v (Ty.int IntKind.u64).sl,PK.v (Ty.int .i64)]
abbrev Rkp:List RK:=[.own 83 (.int .u64),.v (.int .i64),.v (.int .i64)]
abbrev Pkq:List PK:=[.v (.sl (.str))]
abbrev Rkr:List RK:=[.v (.int .u64),.v (.int .i64),.v (.int .i64)]
abbrev Pks:List PK:=[.v (.sl (.nm 5))]
abbrev Pkt:List PK:=[PK.v (Ty.int .i64).sl,PK.v (Ty.int .i64)]
abbrev Rku:List RK:=[RK.own 9 Ty.str,RK.v (Ty.int .i64),RK.v (Ty.int .i64)]
abbrev Pkv:List PK:=[.v (.int .u64),.v (.int .i64)]
abbrev Rkw:List RK:=[.own 9 (.str),.own 3 (.int .i64)]
abbrev Pkx:List PK:=[.v (.nm 0)]
abbrev Pky:List PK:=[PK.v (Ty.int .i64)]
abbrev Pkz:List PK:=[.v (.int .i64),.v (.int .i64)]
abbrev Pk10:List PK:=[.v (.sl (.int .u8)),.v (.int .i64),.v (.int .i64),.v (.str)]
abbrev Pk11:List PK:=[PK.v (Ty.int IntKind.u8),PK.v (Ty.int .i64).sl,PK.v (Ty.int .i64).sl]
abbrev qrz:List PK:=[PK.v (Ty.nm 0),PK.v (Ty.int .i64)]
abbrev qsb:List PK:=[.v (.sl (.int .i64)),.v (.int .i64)]
abbrev qdk:List PK:=[PK.bw (Ty.nm 0)]
abbrev qd9:List PK:=[.v (.int .u64)]
abbrev qym:List RK:=[RK.own 5 (Ty.int IntKind.u8),RK.v (Ty.int .i64)]
abbrev qs0:List PK:=[PK.v (Ty.int IntKind.u8).sl.sl]
abbrev qwf:List RK:=[.own 83 (.int .u64),.v (.int .i64)]
abbrev qe5:List PK:=[PK.v (Ty.nm 0)]
abbrev qwg:List RK:=[.own 2 (.int .i64),.v (.int .i64)]
abbrev Pk1b:List PK:=[.v (.sl (.int .u8)),.v (.int .i64),.v (.int .i64),.v (.int .i64),.io 83 (.int .u64)]
abbrev qwn:List PK:=[.v (.sl (.int .u64)),.v (.int .i64)]
abbrev qji:List PK:=[PK.v (Ty.nm 5).sl]
abbrev qwo:List PK:=[.v (.int .i64),.v (.sl (.int .i64))]
abbrev qgd:List RK:=[.v (.int .u64)]
abbrev qo2:List RK:=[RK.own 2 (Ty.int .i64)]
abbrev Rk1h:List RK:=[RK.v (Ty.nm 0),RK.v (Ty.int .i64),RK.v (Ty.int .i64)]
abbrev qm2:List RK:=[.own 2 (.int .i64)]
abbrev qgq:List PK:=[PK.v Ty.str.sl]
abbrev Pk1k:List PK:=[PK.v (Ty.int IntKind.u64),PK.bw (Ty.int .i64),PK.bw (Ty.int .i64),PK.bc [CK.o 5 (Ty.int IntKind.u8)]]
abbrev Rk1l:List RK:=[.v (.str),.v (.int .i64),.v (.int .i64)]
abbrev qs1:List PK:=[.v (.nm 0),.v (.nm 0)]
abbrev qwd:List PK:=[.v (.nm 0),.v (.int .i64)]
abbrev qyk:List PK:=[.v (.nm 0),.v (.sl (.int .u8))]
abbrev Rk1p:List RK:=[RK.own 83 (Ty.int IntKind.u64),RK.v (Ty.int .i64)]
abbrev Pk1q:List PK:=[PK.v (Ty.int .i64),PK.v (Ty.int .i64).sl]
abbrev qyn:List RK:=[.v (.int .u64),.v (.int .i64)]
abbrev Rk1s:List RK:=[RK.own 110 (Ty.nm 5),RK.v (Ty.int .i64),RK.v (Ty.int .i64)]
abbrev Rk1t:List RK:=[RK.own 9 Ty.str,RK.own 3 (Ty.int .i64)]
abbrev qwp:List PK:=[.v (.sl (.sl (.int .u8)))]
abbrev Pk1v:List PK:=[PK.v (Ty.int IntKind.u8).sl,PK.v (Ty.int .i64),PK.v (Ty.int .i64),PK.v (Ty.int .i64),PK.io 83 (Ty.int IntKind.u64)]
abbrev Pk1w:List PK:=[.v (.int .u8),.v (.sl (.int .i64)),.v (.sl (.int .i64))]
abbrev qjj:List PK:=[.bw (.nm 0)]
abbrev Rk1y:List RK:=[.v (.int .i64),.v (.int .i64)]
abbrev Rk1z:List RK:=[.v (.int .i64),.own 83 (.int .u64)]
abbrev Pk20:List PK:=[.v (.int .u64),.bw (.int .i64),.bw (.int .i64),.bc [.o 5 (.int .u8)]]
abbrev Pk21:List PK:=[PK.v Ty.str.sl,PK.v (Ty.int .i64)]
abbrev Rk22:List RK:=[RK.own 83 (Ty.int IntKind.u64),RK.v (Ty.int .i64),RK.v (Ty.int .i64)]
abbrev Rk23:List RK:=[.own 5 (.int .u8),.v (.int .i64)]
abbrev qyl:List PK:=[PK.v Ty.str,PK.v Ty.str]
abbrev Rk25:List RK:=[RK.v (Ty.int .i64),RK.v Ty.bool]
abbrev Rk26:List RK:=[RK.v (Ty.int .i64),RK.v (Ty.int .i64)]
abbrev qwh:List RK:=[.own 110 (.nm 5)]
abbrev qyo:List RK:=[RK.own 110 (Ty.nm 5)]
abbrev Rk29:List RK:=[RK.own 2 (Ty.int .i64),RK.v (Ty.int .i64)]
abbrev Pk2a:List PK:=[PK.v Ty.str.sl,PK.v Ty.str]
abbrev Pk2b:List PK:=[PK.v (Ty.int IntKind.u8).sl,PK.v (Ty.int .i64),PK.v (Ty.int .i64),PK.v (Ty.nm 3)]
abbrev Pk2c:List PK:=[PK.v (Ty.int IntKind.u8).sl,PK.v (Ty.int .i64),PK.v (Ty.int .i64),PK.v Ty.str]
abbrev qwe:List PK:=[.v (.int .i64)]
abbrev Pk2e:List PK:=[PK.v (Ty.nm 0),PK.v (Ty.nm 0)]
abbrev Rk2f:List RK:=[RK.v (Ty.int .i64),RK.own 83 (Ty.int IntKind.u64)]
abbrev Pk2g:List PK:=[.v (.str),.v (.str)]
abbrev Pk2h:List PK:=[.v (.int .i64),.v (.sl (.int .u64))]
abbrev Pk2i:List PK:=[PK.v (Ty.int .i64),PK.v (Ty.int IntKind.u64).sl]
abbrev Pk2j:List PK:=[.v (.sl (.str)),.v (.str)]
abbrev Rk2k:List RK:=[.v (.int .i64),.v (.bool)]
abbrev Pk2l:List PK:=[.v (.sl (.str)),.v (.int .i64)]
abbrev Pk2m:List PK:=[.v (.sl (.int .u8)),.v (.int .i64),.v (.int .i64),.v (.nm 3)]
abbrev Pk2n:List PK:=[PK.v Ty.str.sl,PK.v Ty.str,PK.v Ty.bool]
abbrev Pk2o:List PK:=[PK.v (Ty.nm 1),PK.v (Ty.nm 1),PK.fv 37]
abbrev Pk2p:List PK:=[.v (.sl (.str)),.v (.str),.v (.bool)]
abbrev Rk2q:List RK:=[.own 38 (.nm 1)]
abbrev Pk2r:List PK:=[PK.v (Ty.int IntKind.u8).sl,PK.v (Ty.int IntKind.u8).sl]
abbrev Pk2s:List PK:=[PK.v Ty.str,PK.bc [CK.o 9 Ty.str]]
abbrev Rk2t:List RK:=[RK.v Ty.str,RK.v (Ty.int .i64),RK.v (Ty.int .i64)]
abbrev Rk2u:List RK:=[RK.own 83 (Ty.int IntKind.u64)]
abbrev Rk2v:List RK:=[RK.v (Ty.int IntKind.u64),RK.v (Ty.int .i64)]
abbrev Rk2w:List RK:=[RK.own 38 (Ty.nm 1)]
abbrev Rk2x:List RK:=[.own 83 (.int .u64)]
abbrev Pk2y:List PK:=[.v (.sl (.int .u8)),.v (.sl (.int .u8))]
abbrev Pk2z:List PK:=[PK.v (Ty.nm 1)]
abbrev Rk30:List RK:=[RK.v (Ty.nm 4),RK.v (Ty.int .i64)]
abbrev Pk31:List PK:=[.v (.nm 1),.v (.nm 1),.fv 37]
abbrev Pk32:List PK:=[PK.v (Ty.nm 4)]
def uU:Nat->List (Slot NN)->List (Slot NN)
  |0,l=>l
  |n+1,l=>U::uU n l
theorem gF {f:Eng.Fn NN}{ps:List PK}{rs:List RK}{k:Nat}{l:List (Nat×Eng.Spec NN)}{τ:TypeId->Option TI}{id:FuncId}{fn:Func}(F:Fits prog NN τ)(hm:prog.follows .mixedOrders=true)(hg:Goods prog l)
    (h : (prog.funcs[id]?, fn.body, fn.name == "runtime.NumGoroutine", fn.results.toList, Nat.ble f.ds.length 5, fn.ntmps, q3g (occ f.X f.body), (q3g (q1s 0 ps) && qs4 ps ps), f.X.pins, f.X.τ, f.X.Φ, f.X.inl) = (some fn, some f.body, false, f.ds, true, f.ntmps, true, true, q4s 0 ps, τ, qdf l, qra))   : Eng.Good prog id (f.spec ps rs k) := by
  injection h with h1 h
  injection h with h2 h
  injection h with h3 h
  injection h with h4 h
  injection h with h5 h
  injection h with h6 h
  injection h with h7 h
  injection h with h8 h
  injection h with h9 h
  injection h with h10 h
  injection h with h11 h12
  exact z11y F h10 hm h11 hg h1 h2 h3 h4 h5 h6 h7 h8 h9 h12
def mkF (S:List (Nat×Eng.Spec NN))(L:List (Nat×List Nat))(ps:List PK)(b:Func)(t:List ResultVar)(n:Nat):Eng.Fn NN:=⟨⟨Eng.look tys,qdf S,Eng.look L,q4s 0 ps,0,qra⟩,qgt b,t,n⟩
end Go.Proofs.Tryz
