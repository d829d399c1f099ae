/- The functions of the program as the engine follows them (printed by a program of ours): their code, what is known of them, and the equations of their runs. -/
import Derived.Test.YtpnabclcnplchaaGreatL12FnA
set_option linter.unusedVariables false
set_option maxRecDepth 20000
namespace Go.Proofs.Tryz
open Go.Eng
noncomputable def F108 : Eng.Fn NN := ⟨⟨(Eng.look tys), (lookS []), Eng.look [(1, [0]), (2, [0, 3])], Eng.pinIds 0 [.v (.int .u64)], 0, noInl⟩, Eng.bodyOf Go.Proofs.Tryz.f108, [.tmp 2], 20⟩
noncomputable def sp108 : Eng.Spec NN := F108.spec [.v (.int .u64)] [.own 5 (.int .u8)] 4000000
noncomputable def F164 : Eng.Fn NN := ⟨⟨(Eng.look tys), (lookS []), Eng.look [(2, [0, 1, 5])], Eng.pinIds 0 [.v (.str), .v (.str)], 0, noInl⟩, Eng.bodyOf Go.Proofs.Tryz.f164, [.tmp 4], 28⟩
noncomputable def sp164 : Eng.Spec NN := F164.spec [.v (.str), .v (.str)] [.v (.int .i64)] 4000000
noncomputable def F117 : Eng.Fn NN := ⟨⟨(Eng.look tys), (lookS [(164, sp164)]), Eng.look [], Eng.pinIds 0 [.v (.sl (.str)), .v (.int .i64)], 0, noInl⟩, Eng.bodyOf Go.Proofs.Tryz.f117, [.tmp 4], 18⟩
noncomputable def sp117 : Eng.Spec NN := F117.spec [.v (.sl (.str)), .v (.int .i64)] [.v (.int .i64)] 4000000
noncomputable def F67 : Eng.Fn NN := ⟨⟨(Eng.look tys), (lookS [(108, sp108), (117, sp117)]), Eng.look [(1, [0]), (3, [0, 3, 4]), (9, [0, 3, 4, 6])], Eng.pinIds 0 [.v (.sl (.str))], 0, noInl⟩, Eng.bodyOf Go.Proofs.Tryz.f67, [.tmp 2], 52⟩
noncomputable def sp67 : Eng.Spec NN := F67.spec [.v (.sl (.str))] [.own 5 (.int .u8)] 400000000
noncomputable def F110 : Eng.Fn NN := ⟨⟨(Eng.look tys), (lookS []), Eng.look [(1, [0]), (3, [0, 3, 4]), (6, [0, 3, 4, 5])], Eng.pinIds 0 [.v (.sl (.sl (.int .u8)))], 0, noInl⟩, Eng.bodyOf Go.Proofs.Tryz.f110, [.tmp 2], 32⟩
noncomputable def sp110 : Eng.Spec NN := F110.spec [.v (.sl (.sl (.int .u8)))] [.own 5 (.int .u8)] 400000000
noncomputable def F109 : Eng.Fn NN := ⟨⟨(Eng.look tys), (lookS []), Eng.look [], Eng.pinIds 0 [.v (.int .i64)], 0, noInl⟩, Eng.bodyOf Go.Proofs.Tryz.f109, [.tmp 2], 14⟩
noncomputable def sp109 : Eng.Spec NN := F109.spec [.v (.int .i64)] [.v (.int .u64)] 4000000
noncomputable def F62 : Eng.Fn NN := ⟨⟨(Eng.look tys), (lookS [(110, sp110), (108, sp108), (109, sp109)]), Eng.look [(1, [0]), (4, [0, 3, 4, 5])], Eng.pinIds 0 [.v (.sl (.nm 5))], 0, noInl⟩, Eng.bodyOf Go.Proofs.Tryz.f62, [.tmp 2], 46⟩
noncomputable def sp62 : Eng.Spec NN := F62.spec [.v (.sl (.nm 5))] [.own 5 (.int .u8)] 4000000
noncomputable def F63 : Eng.Fn NN := ⟨⟨(Eng.look tys), (lookS []), Eng.look [(1, [0]), (3, [0, 3, 4]), (4, [0, 3, 4])], Eng.pinIds 0 [.v (.sl (.int .i64))], 0, noInl⟩, Eng.bodyOf Go.Proofs.Tryz.f63, [.tmp 2], 47⟩
noncomputable def sp63 : Eng.Spec NN := F63.spec [.v (.sl (.int .i64))] [.own 110 (.nm 5)] 4000000
noncomputable def F157 : Eng.Fn NN := ⟨⟨(Eng.look tys), (lookS []), Eng.look [], Eng.pinIds 0 [.v (.int .i64), .v (.int .i64)], 0, noInl⟩, Eng.bodyOf Go.Proofs.Tryz.f157, [.tmp 4], 19⟩
noncomputable def sp157 : Eng.Spec NN := F157.spec [.v (.int .i64), .v (.int .i64)] [.v (.bool)] 4000000
noncomputable def F136 : Eng.Fn NN := ⟨⟨(Eng.look tys), (lookS [(157, sp157)]), Eng.look [], Eng.pinIds 0 [.v (.int .i64), .v (.int .i64)], 0, noInl⟩, Eng.bodyOf Go.Proofs.Tryz.f136, [.tmp 4], 14⟩
noncomputable def sp136 : Eng.Spec NN := F136.spec [.v (.int .i64), .v (.int .i64)] [.v (.int .i64)] 4000000
noncomputable def F105 : Eng.Fn NN := ⟨⟨(Eng.look tys), (lookS [(136, sp136), (157, sp157)]), Eng.look [(1, [0, 1]), (5, [0, 1, 5, 6]), (8, [0, 1, 5, 6, 7])], Eng.pinIds 0 [.v (.sl (.int .u64)), .v (.int .i64)], 0, noInl⟩, Eng.bodyOf Go.Proofs.Tryz.f105, [.tmp 4], 58⟩
noncomputable def sp105 : Eng.Spec NN := F105.spec [.v (.sl (.int .u64)), .v (.int .i64)] [.own 5 (.int .u8)] 4000000
noncomputable def F163 : Eng.Fn NN := ⟨⟨(Eng.look tys), (lookS []), Eng.look [(2, [0, 3])], Eng.pinIds 0 [.v (.int .u64)], 0, noInl⟩, Eng.bodyOf Go.Proofs.Tryz.f163, [.tmp 2], 11⟩
noncomputable def sp163 : Eng.Spec NN := F163.spec [.v (.int .u64)] [.v (.int .i64)] 4000000
noncomputable def F116 : Eng.Fn NN := ⟨⟨(Eng.look tys), (lookS [(163, sp163)]), Eng.look [], Eng.pinIds 0 [.v (.int .i64)], 0, noInl⟩, Eng.bodyOf Go.Proofs.Tryz.f116, [.tmp 2], 9⟩
noncomputable def sp116 : Eng.Spec NN := F116.spec [.v (.int .i64)] [.v (.int .i64)] 4000000
noncomputable def F115 : Eng.Fn NN := ⟨⟨(Eng.look tys), (lookS [(110, sp110), (108, sp108)]), Eng.look [(1, [0])], Eng.pinIds 0 [.v (.str)], 0, noInl⟩, Eng.bodyOf Go.Proofs.Tryz.f115, [.tmp 2], 11⟩
noncomputable def sp115 : Eng.Spec NN := F115.spec [.v (.str)] [.own 5 (.int .u8)] 4000000
noncomputable def F162 : Eng.Fn NN := ⟨⟨(Eng.look tys), (lookS []), Eng.look [(2, [0, 1, 6])], Eng.pinIds 0 [.v (.sl (.str)), .v (.str)], 0, noInl⟩, Eng.bodyOf Go.Proofs.Tryz.f162, [.tmp 4, .tmp 5], 20⟩
noncomputable def sp162 : Eng.Spec NN := F162.spec [.v (.sl (.str)), .v (.str)] [.v (.int .i64), .v (.bool)] 4000000
noncomputable def F114 : Eng.Fn NN := ⟨⟨(Eng.look tys), (lookS [(162, sp162)]), Eng.look [(1, [0]), (3, [0, 4, 5]), (6, [0, 4, 5, 6]), (8, [0, 4, 5, 6]), (9, [0, 4, 5, 6]), (11, [0, 4, 5, 6, 7]), (17, [0, 4, 8, 9])], Eng.pinIds 0 [.v (.sl (.str))], 0, noInl⟩, Eng.bodyOf Go.Proofs.Tryz.f114, [.tmp 2, .tmp 3], 97⟩
noncomputable def sp114 : Eng.Spec NN := F114.spec [.v (.sl (.str))] [.own 9 (.str), .own 3 (.int .i64)] 1000000000
noncomputable def F66 : Eng.Fn NN := ⟨⟨(Eng.look tys), (lookS [(110, sp110), (62, sp62), (63, sp63), (105, sp105), (116, sp116), (115, sp115), (108, sp108), (114, sp114)]), Eng.look [(1, [0]), (4, [3, 4, 5, 6]), (10, [3, 4, 5, 7, 8, 9])], Eng.pinIds 0 [.v (.sl (.str))], 0, noInl⟩, Eng.bodyOf Go.Proofs.Tryz.f66, [.tmp 2], 88⟩
noncomputable def sp66 : Eng.Spec NN := F66.spec [.v (.sl (.str))] [.own 5 (.int .u8)] 4000000
noncomputable def F160 : Eng.Fn NN := ⟨⟨(Eng.look tys), (lookS []), Eng.look [], Eng.pinIds 0 [.v (.int .u64), .v (.int .i64)], 0, noInl⟩, Eng.bodyOf Go.Proofs.Tryz.f160, [.tmp 4], 11⟩
noncomputable def sp160 : Eng.Spec NN := F160.spec [.v (.int .u64), .v (.int .i64)] [.v (.int .u64)] 4000000
noncomputable def F159 : Eng.Fn NN := ⟨⟨(Eng.look tys), (lookS []), Eng.look [], Eng.pinIds 0 [.v (.int .u64), .v (.int .i64)], 0, noInl⟩, Eng.bodyOf Go.Proofs.Tryz.f159, [.tmp 4], 14⟩
noncomputable def sp159 : Eng.Spec NN := F159.spec [.v (.int .u64), .v (.int .i64)] [.v (.int .u64)] 4000000
noncomputable def F158 : Eng.Fn NN := ⟨⟨(Eng.look tys), (lookS []), Eng.look [(3, [0, 3, 4]), (4, [0, 3, 4])], Eng.pinIds 0 [.v (.sl (.int .i64))], 0, noInl⟩, Eng.bodyOf Go.Proofs.Tryz.f158, [.tmp 2], 26⟩
noncomputable def sp158 : Eng.Spec NN := F158.spec [.v (.sl (.int .i64))] [.v (.int .i64)] 4000000
noncomputable def F112 : Eng.Fn NN := ⟨⟨(Eng.look tys), (lookS [(105, sp105), (108, sp108), (109, sp109), (160, sp160), (159, sp159), (158, sp158)]), Eng.look [(1, [0, 1]), (6, [0, 1, 5, 6, 7, 8, 9])], Eng.pinIds 0 [.v (.sl (.int .i64)), .v (.int .i64)], 0, noInl⟩, Eng.bodyOf Go.Proofs.Tryz.f112, [.tmp 4], 73⟩
noncomputable def sp112 : Eng.Spec NN := F112.spec [.v (.sl (.int .i64)), .v (.int .i64)] [.own 5 (.int .u8)] 4000000
noncomputable def F111 : Eng.Fn NN := ⟨⟨(Eng.look tys), (lookS [(158, sp158), (112, sp112)]), Eng.look [(3, [0, 4, 5, 6])], Eng.pinIds 0 [.v (.sl (.int .i64))], 0, noInl⟩, Eng.bodyOf Go.Proofs.Tryz.f111, [.tmp 2, .tmp 3], 27⟩
noncomputable def sp111 : Eng.Spec NN := F111.spec [.v (.sl (.int .i64))] [.v (.int .i64), .v (.int .i64)] 4000000
noncomputable def F64 : Eng.Fn NN := ⟨⟨(Eng.look tys), (lookS [(112, sp112), (111, sp111)]), Eng.look [(1, [0])], Eng.pinIds 0 [.v (.sl (.int .i64))], 0, noInl⟩, Eng.bodyOf Go.Proofs.Tryz.f64, [.tmp 2], 13⟩
noncomputable def sp64 : Eng.Spec NN := F64.spec [.v (.sl (.int .i64))] [.own 5 (.int .u8)] 4000000
noncomputable def F161 : Eng.Fn NN := ⟨⟨(Eng.look tys), (lookS []), Eng.look [(1, [0]), (3, [0, 3, 4])], Eng.pinIds 0 [.v (.sl (.int .i64))], 0, noInl⟩, Eng.bodyOf Go.Proofs.Tryz.f161, [.tmp 2], 25⟩
noncomputable def sp161 : Eng.Spec NN := F161.spec [.v (.sl (.int .i64))] [.own 2 (.int .i64)] 4000000
noncomputable def F113 : Eng.Fn NN := ⟨⟨(Eng.look tys), (lookS [(64, sp64), (161, sp161), (108, sp108), (109, sp109)]), Eng.look [(1, [0, 1]), (4, [1, 5, 6, 7]), (6, [1, 5, 6, 7])], Eng.pinIds 0 [.v (.sl (.int .i64)), .v (.int .i64)], 0, noInl⟩, Eng.bodyOf Go.Proofs.Tryz.f113, [.tmp 4], 35⟩
noncomputable def sp113 : Eng.Spec NN := F113.spec [.v (.sl (.int .i64)), .v (.int .i64)] [.own 5 (.int .u8)] 4000000
noncomputable def F65 : Eng.Fn NN := ⟨⟨(Eng.look tys), (lookS [(113, sp113)]), Eng.look [(1, [0])], Eng.pinIds 0 [.v (.sl (.int .i64))], 0, noInl⟩, Eng.bodyOf Go.Proofs.Tryz.f65, [.tmp 2], 23⟩
noncomputable def sp65 : Eng.Spec NN := F65.spec [.v (.sl (.int .i64))] [.own 5 (.int .u8)] 4000000
noncomputable def F107 : Eng.Fn NN := ⟨⟨(Eng.look tys), (lookS []), Eng.look [(1, [0, 1]), (3, [0, 1]), (5, [0, 1, 5, 6])], Eng.pinIds 0 [.v (.int .u64), .v (.int .i64)], 0, noInl⟩, Eng.bodyOf Go.Proofs.Tryz.f107, [.tmp 4], 27⟩
noncomputable def sp107 : Eng.Spec NN := F107.spec [.v (.int .u64), .v (.int .i64)] [.own 5 (.int .u8)] 4000000
noncomputable def F106 : Eng.Fn NN := ⟨⟨(Eng.look tys), (lookS []), Eng.look [(1, [0]), (3, [0, 3, 4])], Eng.pinIds 0 [.v (.sl (.int .i64))], 0, noInl⟩, Eng.bodyOf Go.Proofs.Tryz.f106, [.tmp 2], 20⟩
noncomputable def sp106 : Eng.Spec NN := F106.spec [.v (.sl (.int .i64))] [.own 83 (.int .u64)] 4000000
noncomputable def F61 : Eng.Fn NN := ⟨⟨(Eng.look tys), (lookS [(108, sp108), (107, sp107), (105, sp105), (106, sp106)]), Eng.look [(1, [1]), (5, [1, 3, 4]), (9, [1, 3, 5])], Eng.pinIds 0 [.v (.nm 0)], 0, noInl⟩, Eng.bodyOf Go.Proofs.Tryz.f61, [.tmp 2], 54⟩
noncomputable def sp61 : Eng.Spec NN := F61.spec [.v (.nm 0)] [.own 5 (.int .u8)] 4000000
noncomputable def F35 : Eng.Fn NN := ⟨⟨(Eng.look tys), (lookS [(67, sp67), (66, sp66), (65, sp65), (64, sp64), (62, sp62), (63, sp63), (61, sp61)]), Eng.look [(1, [1, 2])], Eng.pinIds 0 [.v (.nm 0), .v (.int .i64)], 0, noInl⟩, Eng.bodyOf Go.Proofs.Tryz.f35, [.tmp 4], 50⟩
noncomputable def sp35 : Eng.Spec NN := F35.spec [.v (.nm 0), .v (.int .i64)] [.own 5 (.int .u8)] 4000000
noncomputable def F25 : Eng.Fn NN := ⟨⟨(Eng.look tys), (lookS []), Eng.look [(11, [])], Eng.pinIds 0 [.v (.int .i64), .v (.int .i64)], 0, noInl⟩, Eng.bodyOf Go.Proofs.Tryz.f25, [.tmp 4], 23⟩
noncomputable def sp25 : Eng.Spec NN := F25.spec [.v (.int .i64), .v (.int .i64)] [.v (.bool)] 4000000
noncomputable def F15 : Eng.Fn NN := ⟨⟨(Eng.look tys), (lookS [(35, sp35), (25, sp25)]), Eng.look [(1, [1]), (3, [1, 3, 4]), (8, [1, 3, 4, 5])], Eng.pinIds 0 [.v (.nm 0)], 0, noInl⟩, Eng.bodyOf Go.Proofs.Tryz.f15, [.tmp 2], 25⟩
noncomputable def sp15 : Eng.Spec NN := F15.spec [.v (.nm 0)] [.own 38 (.nm 1)] 4000000
noncomputable def F17 : Eng.Fn NN := ⟨⟨(Eng.look tys), (lookS [(15, sp15)]), Eng.look [(4, [3, 4, 5]), (5, [3, 4, 5])], Eng.pinIds 0 [.v (.nm 0)], 0, noInl⟩, Eng.bodyOf Go.Proofs.Tryz.f17, [.tmp 2], 35⟩
noncomputable def sp17 : Eng.Spec NN := F17.spec [.v (.nm 0)] [.v (.int .i64)] 4000000
noncomputable def F12 : Eng.Fn NN := ⟨⟨(Eng.look tys), (lookS [(35, sp35), (25, sp25), (13, sp13)]), Eng.look [(1, [1, 2]), (3, [1, 2])], Eng.pinIds 0 [.v (.nm 0), .v (.int .i64)], 0, noInl⟩, Eng.bodyOf Go.Proofs.Tryz.f12, [.tmp 4, .tmp 5], 25⟩
noncomputable def sp12 : Eng.Spec NN := F12.spec [.v (.nm 0), .v (.int .i64)] [.own 5 (.int .u8), .v (.int .i64)] 4000000
end Go.Proofs.Tryz
