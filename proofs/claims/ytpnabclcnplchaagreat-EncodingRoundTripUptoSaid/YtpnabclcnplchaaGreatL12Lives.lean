/- The functions of the program as the engine follows them (printed by a program of ours): their code, what is known of them, and the equations of their runs. -/
import Derived.Test.YtpnabclcnplchaaGreatL12FnL
import Derived.Test.YtpnabclcnplchaaGreatL12Cost
set_option linter.unusedVariables false
set_option linter.unusedSimpArgs false
set_option maxRecDepth 20000
namespace Go.Proofs.Tryz
open Go.Eng
open IntKind (i64 u64 u8)
noncomputable def F10:Eng.Fn NN:=mkF [(16,sp16),(32,sp32),(27,sp27),(20,sp20),(18,sp18),(22,sp22),(11,sp11),(14,sp14),(31,sp31)] [] [] f10 [.tmp 0] 147
noncomputable def sp10:Eng.Spec NN:=Eng.q66 [] [RK.v Ty.bool] 0 (fun _=>some ((true,()),()))
theorem z119:Eng.Good prog 10 (F10.spec [] Rkk 4000000):=gF (fn:=f10) fits q0e (.cons z14o (.cons z14v (.cons z14s (.cons qzh (.cons qts (.cons z14p (.cons qtm (.cons qzg (.cons z14u .nil))))))))) (by kernel_rfl)
noncomputable def F10g (g16:HIn NN.ρ [.v (.nm 0)]->Option (HRes NN.ρ [.v (.int .i64)]×HOut NN.ρ [.v (.nm 0)]))(g32:HIn NN.ρ [.v (.nm 4)]->Option (HRes NN.ρ [.v (.int .i64)]×HOut NN.ρ [.v (.nm 4)]))(g27:HIn NN.ρ [.v (.nm 4)]->Option (HRes NN.ρ [.v (.bool)]×HOut NN.ρ [.v (.nm 4)]))(g20:HIn NN.ρ [.v (.nm 0),.v (.nm 0)]->Option (HRes NN.ρ [.v (.bool)]×HOut NN.ρ [.v (.nm 0),.v (.nm 0)]))(g18:HIn NN.ρ [.v (.sl (.int .u8)),.v (.int .i64),.v (.int .i64)]->Option (HRes NN.ρ [.v (.nm 0),.v (.int .i64),.v (.int .i64)]×HOut NN.ρ [.v (.sl (.int .u8)),.v (.int .i64),.v (.int .i64)]))(g22:HIn NN.ρ [.v (.sl (.int .u8)),.v (.int .i64),.v (.int .i64),.v (.nm 3)]->Option (HRes NN.ρ [.v (.nm 4),.v (.int .i64)]×HOut NN.ρ [.v (.sl (.int .u8)),.v (.int .i64),.v (.int .i64),.v (.nm 3)]))(g11:HIn NN.ρ [.v (.nm 0),.v (.int .i64)]->Option (HRes NN.ρ [.own 5 (.int .u8),.v (.int .i64)]×HOut NN.ρ [.v (.nm 0),.v (.int .i64)]))(g14:HIn NN.ρ [.v (.nm 0)]->Option (HRes NN.ρ [.own 38 (.nm 1)]×HOut NN.ρ [.v (.nm 0)]))(g31:HIn NN.ρ []->Option (HRes NN.ρ [.v (.nm 0)]×HOut NN.ρ [])):Eng.Fn NN:=⟨⟨(Eng.look tys),(qdf [(16,Eng.q66 [.v (.nm 0)] [.v (.int .i64)] 0 g16),(32,Eng.q66 [.v (.nm 4)] [.v (.int .i64)] 0 g32),(27,Eng.q66 [.v (.nm 4)] [.v (.bool)] 0 g27),(20,Eng.q66 [.v (.nm 0),.v (.nm 0)] [.v (.bool)] 0 g20),(18,Eng.q66 [.v (.sl (.int .u8)),.v (.int .i64),.v (.int .i64)] [.v (.nm 0),.v (.int .i64),.v (.int .i64)] 0 g18),(22,Eng.q66 [.v (.sl (.int .u8)),.v (.int .i64),.v (.int .i64),.v (.nm 3)] [.v (.nm 4),.v (.int .i64)] 0 g22),(11,Eng.q66 [.v (.nm 0),.v (.int .i64)] [.own 5 (.int .u8),.v (.int .i64)] 0 g11),(14,Eng.q66 [.v (.nm 0)] [.own 38 (.nm 1)] 0 g14),(31,Eng.q66 [] [.v (.nm 0)] 0 g31)]),Eng.look [],Eng.q4s 0 [],0,qra⟩,Eng.qgt Go.Proofs.Tryz.f10,[.tmp 0],147⟩
theorem F10g_run (n : Nat)(g16 : HIn NN.ρ [.v (.nm 0)]->Option (HRes NN.ρ [.v (.int .i64)]×HOut NN.ρ [.v (.nm 0)]))(g32:HIn NN.ρ [.v (.nm 4)]->Option (HRes NN.ρ [.v (.int .i64)]×HOut NN.ρ [.v (.nm 4)]))(g27:HIn NN.ρ [.v (.nm 4)]->Option (HRes NN.ρ [.v (.bool)]×HOut NN.ρ [.v (.nm 4)]))(g20:HIn NN.ρ [.v (.nm 0),.v (.nm 0)]->Option (HRes NN.ρ [.v (.bool)]×HOut NN.ρ [.v (.nm 0),.v (.nm 0)]))(g18:HIn NN.ρ [.v (.sl (.int .u8)),.v (.int .i64),.v (.int .i64)]->Option (HRes NN.ρ [.v (.nm 0),.v (.int .i64),.v (.int .i64)]×HOut NN.ρ [.v (.sl (.int .u8)),.v (.int .i64),.v (.int .i64)]))(g22:HIn NN.ρ [.v (.sl (.int .u8)),.v (.int .i64),.v (.int .i64),.v (.nm 3)]->Option (HRes NN.ρ [.v (.nm 4),.v (.int .i64)]×HOut NN.ρ [.v (.sl (.int .u8)),.v (.int .i64),.v (.int .i64),.v (.nm 3)]))(g11:HIn NN.ρ [.v (.nm 0),.v (.int .i64)]->Option (HRes NN.ρ [.own 5 (.int .u8),.v (.int .i64)]×HOut NN.ρ [.v (.nm 0),.v (.int .i64)]))(g14:HIn NN.ρ [.v (.nm 0)]->Option (HRes NN.ρ [.own 38 (.nm 1)]×HOut NN.ρ [.v (.nm 0)]))(g31:HIn NN.ρ []->Option (HRes NN.ρ [.v (.nm 0)]×HOut NN.ρ [])):(F10g g16 g32 g27 g20 g18 g22 g11 g14 g31).run [] [.v (.bool)] n (())=
 (g31 ()).bind fun r0 =>
  (g14 (r0.fst.fst, ())).bind fun r1=>
   (g11 (r0.fst.fst, (0 : Int), ())).bind fun r2=>
    (g18 (r2.fst.fst, (2 : Int), (3 :Int),())).bind fun r3=>
     (g11 (r0.fst.fst, (5 : Int), ())).bind fun r4=>
      (g11 (r0.fst.fst, (6 : Int), ())).bind fun r5=>
       (g22 (r2.fst.fst, (2 : Int), (3:Int),{column:=(0:Int),op:=(1:Int),value:={kind:=(2:Int),int:=(7:Int),text:=[]:Val}:Pred},())).bind fun r6=>
        (g18 ([], (2 : Int), (0 : Int),())).bind fun r7=>
         bif decide ((↑(List.length r1.fst.fst):Int)=(6:Int))then
          if (0 : Int) < (↑(List.length r1.fst.fst):Int)then
           bif decide ((List.getD r1.fst.fst (Int.toNat (0:Int)) qdj).bytes=(25:Int))then
            if (1 : Int) < (↑(List.length r1.fst.fst):Int)then
             bif decide ((List.getD r1.fst.fst (Int.toNat (1:Int)) qdj).bytes=(4:Int))then
              if (4 : Int) < (↑(List.length r1.fst.fst):Int)then
               bif decide ((List.getD r1.fst.fst (Int.toNat (4:Int)) qdj).bytes=(-1:Int))then
                if (5 : Int) < (↑(List.length r1.fst.fst):Int)then
                 bif decide ((List.getD r1.fst.fst (Int.toNat (5:Int)) qdj).encoding=(5:Int))then
                  bif decide ((↑(List.length r2.fst.fst):Int)=(25:Int))then
                   if (1 : Int) < (↑(List.length r2.fst.fst):Int)then
                    bif decide (List.getD r2.fst.fst (Int.toNat (1:Int)) (0:Int)=(7:Int))then
                     bif decide (r2.fst.snd.fst=(0:Int))then
                      bif decide (r3.fst.snd.snd.fst=(0:Int))then
                       bif decide (r3.fst.snd.fst=(25:Int))then
                        (g20 (r3.fst.fst,r0.fst.fst,())).bind fun r8=>
                         bif r8.fst.fst then
                          bif decide (r4.fst.snd.fst=(7:Int))then
                           bif decide (r5.fst.snd.fst=(1:Int))then
                            bif decide (r6.fst.snd.fst=(0:Int))then
                             bif decide (r6.fst.fst.n=(3:Int))then
                              (g27 (Bits.mk r6.fst.fst.n r6.fst.fst.words,())).bind fun r9=>
                               bif r9.fst.fst then
                                (g32 (Bits.mk r6.fst.fst.n r6.fst.fst.words,())).bind fun r10=>
                                 bif decide (r10.fst.fst=(3:Int))then
                                  bif decide (r7.fst.snd.snd.fst=(2:Int))then
                                   (g16 (r0.fst.fst,())).bind fun r11=>
                                    some ((!decide (r11.fst.fst=(0:Int)),()),())
                                  else
                                   some ((false,()),())
                                 else
                                  some ((false,()),())
                               else
                                some ((false,()),())
                             else
                              some ((false,()),())
                            else
                             some ((false,()),())
                           else
                            some ((false,()),())
                          else
                           some ((false,()),())
                         else
                          some ((false,()),())
                       else
                        some ((false,()),())
                      else
                       some ((false,()),())
                     else
                      some ((false,()),())
                    else
                     some ((false,()),())
                   else
                    none
                  else
                   some ((false,()),())
                 else
                  some ((false,()),())
                else
                 none
               else
                some ((false,()),())
              else
               none
             else
              some ((false,()),())
            else
             none
           else
            some ((false,()),())
          else
           none
         else
          some ((false,()),()):=by kernel_rfl
theorem F10_run (n : Nat) : F10.run [] Rkk n (())=
 (F31.run [] [RK.v (Ty.nm 0)] 4000000 ()).bind fun r0=>
  (F14.run qe5 Rk2w 4000000 (r0.fst.fst,())).bind fun r1=>
   (F11.run qrz qym 4000000 (r0.fst.fst,(0:Int),())).bind fun r2=>
    (F18.run Pk2 Rk1h 4000000 (r2.fst.fst,(2:Int),(3:Int),())).bind fun r3=>
     (F11.run qrz qym 4000000 (r0.fst.fst,(5:Int),())).bind fun r4=>
      (F11.run qrz qym 4000000 (r0.fst.fst,(6:Int),())).bind fun r5=>
       (F22.run Pk2b Rk30 4000000 (r2.fst.fst,(2:Int),(3:Int),{column:=(0:Int),op:=(1:Int),value:={kind:=(2:Int),int:=(7:Int),text:=[]:Val}:Pred},())).bind fun r6=>
        (F18.run Pk2 Rk1h 4000000 ([],(2:Int),(0:Int),())).bind fun r7=>
         bif decide ((↑(List.length r1.fst.fst):Int)=(6:Int))then
          if (0 : Int) < (↑(List.length r1.fst.fst):Int)then
           bif decide ((List.getD r1.fst.fst (Int.toNat (0:Int)) qdj).bytes=(25:Int))then
            if (1 : Int) < (↑(List.length r1.fst.fst):Int)then
             bif decide ((List.getD r1.fst.fst (Int.toNat (1:Int)) qdj).bytes=(4:Int))then
              if (4 : Int) < (↑(List.length r1.fst.fst):Int)then
               bif decide ((List.getD r1.fst.fst (Int.toNat (4:Int)) qdj).bytes=(-1:Int))then
                if (5 : Int) < (↑(List.length r1.fst.fst):Int)then
                 bif decide ((List.getD r1.fst.fst (Int.toNat (5:Int)) qdj).encoding=(5:Int))then
                  bif decide ((↑(List.length r2.fst.fst):Int)=(25:Int))then
                   if (1 : Int) < (↑(List.length r2.fst.fst):Int)then
                    bif decide (List.getD r2.fst.fst (Int.toNat (1:Int)) (0:Int)=(7:Int))then
                     bif decide (r2.fst.snd.fst=(0:Int))then
                      bif decide (r3.fst.snd.snd.fst=(0:Int))then
                       bif decide (r3.fst.snd.fst=(25:Int))then
                        (F20.run Pk2e Rkl 4000000 (r3.fst.fst,r0.fst.fst,())).bind fun r8=>
                         bif r8.fst.fst then
                          bif decide (r4.fst.snd.fst=(7:Int))then
                           bif decide (r5.fst.snd.fst=(1:Int))then
                            bif decide (r6.fst.snd.fst=(0:Int))then
                             bif decide (r6.fst.fst.n=(3:Int))then
                              (F27.run Pk32 Rkl 4000000 (Bits.mk r6.fst.fst.n r6.fst.fst.words,())).bind fun r9=>
                               bif r9.fst.fst then
                                (F32.run Pk32 Rk6 4000000 (Bits.mk r6.fst.fst.n r6.fst.fst.words,())).bind fun r10=>
                                 bif decide (r10.fst.fst=(3:Int))then
                                  bif decide (r7.fst.snd.snd.fst=(2:Int))then
                                   (F16.run qe5 Rk6 4000000 (r0.fst.fst,())).bind fun r11=>
                                    some ((!decide (r11.fst.fst=(0:Int)),()),())
                                  else
                                   some ((false,()),())
                                 else
                                  some ((false,()),())
                               else
                                some ((false,()),())
                             else
                              some ((false,()),())
                            else
                             some ((false,()),())
                           else
                            some ((false,()),())
                          else
                           some ((false,()),())
                         else
                          some ((false,()),())
                       else
                        some ((false,()),())
                      else
                       some ((false,()),())
                     else
                      some ((false,()),())
                    else
                     some ((false,()),())
                   else
                    none
                  else
                   some ((false,()),())
                 else
                  some ((false,()),())
                else
                 none
               else
                some ((false,()),())
              else
               none
             else
              some ((false,()),())
            else
             none
           else
            some ((false,()),())
          else
           none
         else
          some ((false,()),()):=F10g_run n (fun x=>F16.run Pkx Rkd 4000000 x) (fun x=>F32.run [.v (.nm 4)] Rkd 4000000 x) (fun x=>F27.run [.v (.nm 4)] Rkk 4000000 x) (fun x=>F20.run qs1 Rkk 4000000 x) (fun x=>F18.run Pk0 Rkh 4000000 x) (fun x=>F22.run Pk2m [.v (.nm 4),.v (.int .i64)] 4000000 x) (fun x=>F11.run qwd Rk23 4000000 x) (fun x=>F14.run Pkx Rk2q 4000000 x) (fun x=>F31.run [] [.v (.nm 0)] 4000000 x)
def v7:Vec:=⟨2,[7,7,7],[],[false,false,false]⟩
def b7:List Int:=[0,7,0,0,0,0,0,0,0,7,0,0,0,0,0,0,0,7,0,0,0,0,0,0,0]
set_option maxRecDepth 100000 in
theorem qro:F31.run [] [RK.v (Ty.nm 0)] 4000000 ()=some ((v7,()),()):=by kernel_rfl
set_option maxRecDepth 100000 in
theorem qx3:F18.run Pk2 Rk1h 4000000 (b7,(2:Int),(3:Int),())=some ((v7,((25:Int),((0:Int),()))),()):=by kernel_rfl
set_option maxRecDepth 100000 in
theorem qx2:F18.run Pk2 Rk1h 4000000 (([]:List Int),(2:Int),(0:Int),())=some (((⟨0,[],[],[]⟩:Vec),((0:Int),((2:Int),()))),()):=by kernel_rfl
set_option maxRecDepth 100000 in
theorem qxg:F22.run Pk2b Rk30 4000000 (b7,(2:Int),(3:Int),({column:=0,op:=1,value:={kind:=2,int:=7,text:=[]}}:Pred),())=some ((({n:=3,words:=[7]}:Bits),((0:Int),())),()):=by kernel_rfl
set_option maxRecDepth 100000 in
theorem z10z:F20.run Pk2e Rkl 4000000 (v7,v7,())=some ((true,()),()):=by kernel_rfl
set_option maxRecDepth 100000 in
theorem qyg:F27.run Pk32 Rkl 4000000 (({n:=3,words:=[7]}:Bits),())=some ((true,()),()):=by kernel_rfl
set_option maxRecDepth 100000 in
theorem qwy:F32.run Pk32 Rk6 4000000 (({n:=3,words:=[7]}:Bits),())=some (((3:Int),()),()):=by kernel_rfl
theorem z17e:okV v7=true:=by decide
theorem qw6:vsz v7<=10000:=by decide
theorem v7_L:okL v7.ints:=by
 intro x hx
 have:x=7:=by simpa[v7]using hx
 omega
theorem z17c:cst v7 0=25:=by decide
theorem z13b:cst v7 1=4:=by
 have h:q0h v7 1=q9b [⟨7,3⟩]:=rfl
 have h2:q9b [⟨7,3⟩]=[1,14,3]:=by
  unfold q9b q2j q2j
  rw[show zz (i64.wrap ((7:Int)-0))=14 by decide,show([(⟨7,3⟩:Run)]).length=1 from rfl,show Int.toNat 3=3 from rfl,q2f (by decide),q2f (by decide),q2f (by decide)]
  rfl
 rw[cst,if_pos (by rfl),h,h2]
 rfl
theorem z19v:cst v7 4=-1:=by decide
theorem z19w:qs3 v7 0=(b7,0):=by decide
theorem z19x:qs3 v7 5=([],7):=by decide
theorem z19y:qs3 v7 6=([],1):=by decide
theorem z17d:((cho v7 6:Nat):Int)≠0:=by
 obtain⟨_,_,h⟩:=qhq v7 6 (by omega)
 intro h0
 have h1:=h 1 (by omega) (by rw[show((1:Nat):Int)=1 from rfl,z13b];omega)
 rw[h0,z17c,show((1:Nat):Int)=1 from rfl,z13b]at h1
 omega
theorem que:F10.run [] Rkl 4000000 ()=some ((true,()),()):=by
 rw[show F10.run [] Rkl 4000000 ()=_ from F10_run _,qro,oB]
 dsimp only
 rw[qjz z17e qw6 v7_L,oB,q8w qw6 v7_L,oB]
 dsimp only
 rw[z19w,qx3,oB,q8w qw6 v7_L,oB,q8w qw6 v7_L,oB]
 dsimp only
 rw[z19x,z19y,qxg,oB,qx2,oB,qad]
 dsimp only
 rw[show Int.toNat (0:Int)=0 from rfl,show Int.toNat (1:Int)=1 from rfl,show Int.toNat (4:Int)=4 from rfl,show Int.toNat (5:Int)=5 from rfl,q8u (by omega),q8u (by omega),q8u (by omega),q8u (by omega)]
 dsimp only
 rw[show(((0:Nat):Int))=0 from rfl,show(((1:Nat):Int))=1 from rfl,show(((4:Nat):Int))=4 from rfl,show(((5:Nat):Int))=5 from rfl,z17c,z13b,z19v,z10z,oB,qyg,oB,qwy,oB,qqs z17e qw6 v7_L,oB]
 dsimp only
 rw[dF z17d]
 rfl
theorem z14m:Eng.Good prog 10 sp10:=Eng.qxm z119 (fun _=>que.symm)
end Go.Proofs.Tryz
