/- The functions of the program as the engine follows them (printed by a program of ours): their code, what is known of them, and the equations of their runs. -/
import Derived.Test.YtpnabclcnplchaaGreatL12Lives
set_option linter.unusedVariables false
set_option maxRecDepth 20000
namespace Go.Proofs.Tryz
open Go.Eng
noncomputable def F8 : Eng.Fn NN := ⟨⟨(Eng.look tys), (lookS [(10, sp10), (11, sp11), (16, sp16), (14, sp14), (13, sp13), (9, sp9)]), Eng.look [(3, [1]), (7, [1, 3, 4]), (8, [1, 3, 4, 6]), (9, [1, 3, 4, 6])], Eng.pinIds 0 [.v (.nm 0)], 0, noInl⟩, Eng.bodyOf Go.Proofs.Tryz.f8, [.tmp 2], 84⟩
noncomputable def sp8 : Eng.Spec NN := F8.spec [.v (.nm 0)] [.v (.bool)] 4000000
theorem good8 : Eng.Good prog 8 sp8 := Eng.good_fn (fn := f8) fits (by kernel_rfl) mixed (by kernel_rfl) (.cons good10 (.cons good11 (.cons good16 (.cons good14 (.cons good13 (.cons good9 .nil)))))) (by kernel_rfl) (by kernel_rfl) (by kernel_rfl) (by kernel_rfl) (by kernel_rfl) (by kernel_rfl) (by kernel_rfl) (by kernel_rfl) (by kernel_rfl)
noncomputable def F8c3 (n : Nat) (x0 : Vec) := F8.at [.v (.nm 0)] [.v (.bool)] n 3 ⟨[U, .one (.bptr 0 0), U, U, U, U, U, U, U, U, U, U, U, U, U, U, U, U, U, U, U, U, U, U, U, U, U, U, U, U, U, U, U, U, U, U, U, U, U, U, U, U, U, U, U, U, U, U, U, U, U, U, U, U, U, U, U, U, U, U, U, U, U, U, U, U, U, U, U, U, U, U, U, U, U, U, U, U, U, U, U, U, U, U], [(0, .whole (.nm 0) x0 [])]⟩
noncomputable def F8c7 (n : Nat) (x0 : Vec) (x1 : List (Cost)) (x2 : List (Int)) := F8.at [.v (.nm 0)] [.v (.bool)] n 7 ⟨[U, .one (.bptr 0 0), U, .one (.own 1), .one (.own 2), U, U, U, U, U, U, U, U, U, U, U, U, U, U, U, U, U, U, U, U, U, U, U, U, U, U, U, U, U, U, U, U, U, U, U, U, U, U, U, U, U, U, U, U, U, U, U, U, U, U, U, U, U, U, U, U, U, U, U, U, U, U, U, U, U, U, U, U, U, U, U, U, U, U, U, U, U, U, U], [(0, .whole (.nm 0) x0 []), (1, .row 38 (.nm 1) x1 [] false), (2, .row 5 (.int .u8) x2 [] false)]⟩
noncomputable def F8c8 (n : Nat) (x0 : Int) (x1 : Vec) (x2 : List (Cost)) (x3 : List (Int)) := F8.at [.v (.nm 0)] [.v (.bool)] n 8 ⟨[U, .one (.bptr 0 0), U, .one (.own 1), .one (.own 2), U, .one (.int .i64 x0), U, U, U, U, U, U, U, U, U, U, U, U, U, U, U, U, U, U, U, U, U, U, U, U, U, U, U, U, U, U, U, U, U, U, U, U, U, U, U, U, U, U, U, U, U, U, U, U, U, U, U, U, U, U, U, U, U, U, U, U, U, U, U, U, U, U, U, U, U, U, U, U, U, U, U, U, U], [(0, .whole (.nm 0) x1 []), (1, .row 38 (.nm 1) x2 [] false), (2, .row 5 (.int .u8) x3 [] false)]⟩
noncomputable def F8c9 (n : Nat) (x0 : Int) (x1 : Vec) (x2 : List (Cost)) (x3 : List (Int)) := F8.at [.v (.nm 0)] [.v (.bool)] n 9 ⟨[U, .one (.bptr 0 0), U, .one (.own 1), .one (.own 2), U, .one (.int .i64 x0), U, U, U, U, U, U, U, U, U, U, U, U, U, U, U, U, U, U, U, U, U, U, U, U, U, U, U, U, U, U, U, U, U, U, U, U, U, U, U, U, U, U, U, U, U, U, U, U, U, U, U, U, U, U, U, U, U, U, U, U, U, U, U, U, U, U, U, U, U, U, U, U, U, U, U, U, U], [(0, .whole (.nm 0) x1 []), (1, .row 38 (.nm 1) x2 [] false), (2, .row 5 (.int .u8) x3 [] false)]⟩
theorem F8_run (n : Nat) (a0 : Vec) : F8.run [.v (.nm 0)] [.v (.bool)] n (a0, ()) =
 (F9.run [PK.v (Ty.nm 0)] [RK.v Ty.bool] 4000000 (a0, ())).bind fun r0 =>
  bif !r0.fst.fst then
   some ((true, ()), ())
  else
   (F13.run [PK.v (Ty.nm 0)] [RK.v Ty.bool] 4000000 (a0, ())).bind fun r1 =>
    bif !r1.fst.fst then
     some ((true, ()), ())
    else
     F8c3 n (a0) := by kernel_rfl
theorem F8c3_eq (n x0 : _) : F8c3 (n + 1) x0 =
 (F14.run [PK.v (Ty.nm 0)] [RK.own 38 (Ty.nm 1)] 4000000 (x0, ())).bind fun r2 =>
  (F16.run [PK.v (Ty.nm 0)] [RK.v (Ty.int .i64)] 4000000 (x0, ())).bind fun r3 =>
   (F11.run [PK.v (Ty.nm 0), PK.v (Ty.int .i64)] [RK.own 5 (Ty.int IntKind.u8), RK.v (Ty.int .i64)] 4000000 (x0, r3.fst.fst, ())).bind fun r4 =>
    bif !decide (r4.fst.snd.fst = (0 : Int)) then
     some ((false, ()), ())
    else
     bif !decide ((↑(List.length r2.fst.fst) : Int) = (6 : Int)) then
      some ((false, ()), ())
     else
      F8c7 n (x0) (r2.fst.fst) (r4.fst.fst) := by kernel_rfl
theorem F8c7_eq (n x0 x1 x2 : _) : F8c7 (n + 1) x0 x1 x2 =
 F8c8 n ((0 : Int)) (x0) (x1) (x2) := by kernel_rfl
theorem F8c8_eq (n x0 x1 x2 x3 : _) : F8c8 (n + 1) x0 x1 x2 x3 =
 bif decide (x0 < (6 : Int)) then
  (F11.run [PK.v (Ty.nm 0), PK.v (Ty.int .i64)] [RK.own 5 (Ty.int IntKind.u8), RK.v (Ty.int .i64)] 4000000 (x1, x0, ())).bind fun r5 =>
   if (0 : Int) ≤ x0 then
    if x0 < (↑x2.length : Int) then
     bif !decide ((x2.getD x0.toNat zCost).encoding = x0) then
      some ((false, ()), ())
     else
      if (0 : Int) ≤ x0 then
       if x0 < (↑x2.length : Int) then
        bif !decide (decide (r5.fst.snd.fst = (0 : Int)) = decide ((0 : Int) ≤ (x2.getD x0.toNat zCost).bytes)) then
         some ((false, ()), ())
        else
         bif decide (r5.fst.snd.fst = (0 : Int)) then
          if (0 : Int) ≤ x0 then
           if x0 < (↑x2.length : Int) then
            bif !decide ((↑(List.length r5.fst.fst) : Int) = (x2.getD x0.toNat zCost).bytes) then
             some ((false, ()), ())
            else
             bif decide ((↑(List.length r5.fst.fst) : Int) < (↑x3.length : Int)) then
              some ((false, ()), ())
             else
              F8c9 n (x0) (x1) (x2) (x3)
           else
            none
          else
           none
         else
          F8c9 n (x0) (x1) (x2) (x3)
       else
        none
      else
       none
    else
     none
   else
    none
 else
  some ((true, ()), ()) := by kernel_rfl
theorem F8c9_eq (n x0 x1 x2 x3 : _) : F8c9 (n + 1) x0 x1 x2 x3 =
 F8c8 n (IntKind.i64.wrap (x0 + (1 : Int))) (x1) (x2) (x3) := by kernel_rfl
end Go.Proofs.Tryz
