/- The functions of the program as the engine follows them (printed by a program of ours): their code, what is known of them, and the equations of their runs. -/
import Derived.Test.YtpnabclcnplchaaGreatL12Lives
import Derived.Test.YtpnabclcnplchaaGreatL12Ref
set_option linter.unusedVariables false
set_option maxRecDepth 20000
namespace Go.Proofs.Tryz
open Go.Eng
noncomputable def F3 : Eng.Fn NN := ⟨⟨(Eng.look tys), (lookS [(10, sp10), (17, sp17), (16, sp16), (15, sp15), (14, sp14), (13, sp13), (12, sp12), (11, sp11), (9, sp9)]), Eng.look [(7, [2]), (13, [2, 9, 10, 11])], Eng.pinIds 0 [.v (.nm 0), .v (.int .i64)], 0, noInl⟩, Eng.bodyOf Go.Proofs.Tryz.f3, [.tmp 4], 74⟩
noncomputable def sp3 : Eng.Spec NN := F3.spec [.v (.nm 0), .v (.int .i64)] [.v (.bool)] 4000000
theorem good3 : Eng.Good prog 3 sp3 := Eng.good_fn (fn := f3) fits (by kernel_rfl) mixed (by kernel_rfl) (.cons good10 (.cons good17 (.cons good16 (.cons good15 (.cons good14 (.cons good13 (.cons good12 (.cons good11 (.cons good9 .nil))))))))) (by kernel_rfl) (by kernel_rfl) (by kernel_rfl) (by kernel_rfl) (by kernel_rfl) (by kernel_rfl) (by kernel_rfl) (by kernel_rfl) (by kernel_rfl)
noncomputable def F3c7 (n : Nat) (x0 : Vec) := F3.at [.v (.nm 0), .v (.int .i64)] [.v (.bool)] n 7 ⟨[U, U, .one (.bptr 0 0), U, U, U, U, U, U, U, U, U, U, U, U, U, U, U, U, U, U, U, U, U, U, U, U, U, U, U, U, U, U, U, U, U, U, U, U, U, U, U, U, U, U, U, U, U, U, U, U, U, U, U, U, U, U, U, U, U, U, U, U, U, U, U, U, U, U, U, U, U, U, U], [(0, .whole (.nm 0) x0 [])]⟩
noncomputable def F3c13 (n : Nat) (x0 : Int) (x1 : Vec) (x2 : List (Cost)) (x3 : List (Cost)) := F3.at [.v (.nm 0), .v (.int .i64)] [.v (.bool)] n 13 ⟨[U, U, .one (.bptr 0 0), U, U, U, U, U, U, .one (.own 1), .one (.own 2), .one (.int .i64 x0), U, U, U, U, U, U, U, U, U, U, U, U, U, U, U, U, U, U, U, U, U, U, U, U, U, U, U, U, U, U, U, U, U, U, U, U, U, U, U, U, U, U, U, U, U, U, U, U, U, U, U, U, U, U, U, U, U, U, U, U, U, U], [(0, .whole (.nm 0) x1 []), (1, .row 38 (.nm 1) x2 [] false), (2, .row 38 (.nm 1) x3 [] false)]⟩
theorem F3_run (n : Nat) (a0 : Vec) (a1 : Int) : F3.run [.v (.nm 0), .v (.int .i64)] [.v (.bool)] n (a0, a1, ()) =
 (F9.run [PK.v (Ty.nm 0)] [RK.v Ty.bool] 4000000 (a0, ())).bind fun r0 =>
  bif !r0.fst.fst then
   some ((true, ()), ())
  else
   (F11.run [PK.v (Ty.nm 0), PK.v (Ty.int .i64)] [RK.own 5 (Ty.int IntKind.u8), RK.v (Ty.int .i64)] 4000000 (a0, a1, ())).bind fun r1 =>
    (F12.run [PK.v (Ty.nm 0), PK.v (Ty.int .i64)] [RK.own 5 (Ty.int IntKind.u8), RK.v (Ty.int .i64)] 4000000 (a0, a1, ())).bind fun r2 =>
     bif !decide (List.map Eng.byteOf r1.fst.fst = List.map Eng.byteOf r2.fst.fst) then
      some ((false, ()), ())
     else
      bif !decide (r1.fst.snd.fst = r2.fst.snd.fst) then
       some ((false, ()), ())
      else
       F3c7 n (a0) := by kernel_rfl
theorem F3c7_eq (n x0 : _) : F3c7 (n + 1) x0 =
 (F13.run [PK.v (Ty.nm 0)] [RK.v Ty.bool] 4000000 (x0, ())).bind fun r3 =>
  bif !r3.fst.fst then
   some ((true, ()), ())
  else
   (F14.run [PK.v (Ty.nm 0)] [RK.own 38 (Ty.nm 1)] 4000000 (x0, ())).bind fun r4 =>
    (F15.run [PK.v (Ty.nm 0)] [RK.own 38 (Ty.nm 1)] 4000000 (x0, ())).bind fun r5 =>
     bif !decide ((↑(List.length r4.fst.fst) : Int) = (↑(List.length r5.fst.fst) : Int)) then
      some ((false, ()), ())
     else
      F3c13 n ((0 : Int)) (x0) (r4.fst.fst) (r5.fst.fst) := by kernel_rfl
theorem F3c13_eq (n x0 x1 x2 x3 : _) : F3c13 (n + 1) x0 x1 x2 x3 =
 bif decide (x0 < (↑x2.length : Int)) then
  if (0 : Int) ≤ x0 then
   if x0 < (↑x2.length : Int) then
    if (0 : Int) ≤ x0 then
     if x0 < (↑x3.length : Int) then
      bif !(decide ((x2.getD x0.toNat zCost).encoding = (x3.getD x0.toNat zCost).encoding) && (decide ((x2.getD x0.toNat zCost).bytes = (x3.getD x0.toNat zCost).bytes) && true)) then
       some ((false, ()), ())
      else
       F3c13 n (IntKind.i64.wrap (x0 + (1 : Int))) (x1) (x2) (x3)
     else
      none
    else
     none
   else
    none
  else
   none
 else
  (F16.run [PK.v (Ty.nm 0)] [RK.v (Ty.int .i64)] 4000000 (x1, ())).bind fun r6 =>
   (F17.run [PK.v (Ty.nm 0)] [RK.v (Ty.int .i64)] 4000000 (x1, ())).bind fun r7 =>
    bif decide (r6.fst.fst = r7.fst.fst) then
     some ((true, ()), ())
    else
     some ((false, ()), ()) := by kernel_rfl
end Go.Proofs.Tryz
