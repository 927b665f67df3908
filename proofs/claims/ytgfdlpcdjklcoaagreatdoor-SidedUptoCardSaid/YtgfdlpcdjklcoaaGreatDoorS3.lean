/- A part of this proof: steps of the program, plain facts; no condition. -/
import Derived.Test.YtgfdlpcdjklcoaaGreatDoorS2
import Derived.Test.YtgfdlpcdjklcoaaGreatDoorProg
import Derived.KernelRfl
import Derived.Laws.Externs
import Derived.RecoverIn
namespace Go.Proofs.YtgfdlpcdjklcoaaGreatDoor
open Go Go.RowKit
set_option linter.unusedVariables false
theorem Af{P :Program}{f :FuncId}{fn :Func}{c :Code}(hf :P.funcs[f]? =some fn)(hn :(fn.name == "runtime.NumGoroutine") =false)(hb :fn.body =some c) :AX P f :=
 ⟨fun args w=>by simp only [callFunc,Sem.run_bind,run_program,Result.andThen_ok,hf,hn,hb];rfl⟩
instance:Ar Tryz.prog 3 (.int .i64):=⟨Tryz.underlying3⟩
instance:BZ Tryz.prog 3 (.int .i64 0):=⟨Tryz.zeroValue3⟩
instance:CQ Tryz.prog 3:=⟨fun _=>by kernel_rfl,fun _=>by kernel_rfl⟩
instance:Ar Tryz.prog 4 (.bool):=⟨Tryz.underlying4⟩
instance:BZ Tryz.prog 4 (.bool false):=⟨Tryz.zeroValue4⟩
instance:Bw Tryz.prog 4 1:=⟨fun _=>by kernel_rfl⟩
instance:FH Tryz.prog 4 1:=⟨Tryz.t4,Tryz.typeInfo4,by kernel_rfl⟩
instance:CQ Tryz.prog 4:=⟨fun _=>by kernel_rfl,fun _=>by kernel_rfl⟩
instance:Ar Tryz.prog 5 (.int .u8):=⟨Tryz.underlying5⟩
instance:BZ Tryz.prog 5 (.int .u8 0):=⟨Tryz.zeroValue5⟩
instance:Bw Tryz.prog 5 1:=⟨fun _=>by kernel_rfl⟩
instance:FH Tryz.prog 5 1:=⟨Tryz.t5,Tryz.typeInfo5,by kernel_rfl⟩
instance:CQ Tryz.prog 5:=⟨fun _=>by kernel_rfl,fun _=>by kernel_rfl⟩
instance:Ar Tryz.prog 9 (.string):=⟨Tryz.underlying9⟩
instance:BZ Tryz.prog 9 (.string {data:= #[]}):=⟨Tryz.zeroValue9⟩
instance:Bw Tryz.prog 9 1:=⟨fun _=>by kernel_rfl⟩
instance:FH Tryz.prog 9 16:=⟨Tryz.t9,Tryz.typeInfo9,by kernel_rfl⟩
instance:CQ Tryz.prog 9:=⟨fun _=>by kernel_rfl,fun _=>by kernel_rfl⟩
instance:Ar Tryz.prog 22 (.slice 94):=⟨Tryz.underlying22⟩
instance:Ar Tryz.prog 24 (.array 16 5):=⟨Tryz.underlying24⟩
instance:E6 Tryz.prog 24 16:=⟨fun _=>by kernel_rfl,fun _=>by kernel_rfl⟩
instance:BZ Tryz.prog 35 (.agg #[.int .i64 0,.int .i64 0]):=⟨Tryz.zeroValue35⟩
instance:E6 Tryz.prog 35 2:=⟨fun _=>by kernel_rfl,fun _=>by kernel_rfl⟩
instance:EW Tryz.prog 35 #[(0,1),(1,1)]:=⟨_,Tryz.underlying35,fun _=>by kernel_rfl⟩
instance:An Tryz.prog 35 0 0:=⟨_,Tryz.underlying35,_,rfl,rfl,1,fun _=>by kernel_rfl,by decide⟩
instance:An Tryz.prog 35 1 1:=⟨_,Tryz.underlying35,_,rfl,rfl,1,fun _=>by kernel_rfl,by decide⟩
instance:Ar Tryz.prog 37 (.int .u64):=⟨Tryz.underlying37⟩
instance:BZ Tryz.prog 37 (.int .u64 0):=⟨Tryz.zeroValue37⟩
instance:Bw Tryz.prog 37 1:=⟨fun _=>by kernel_rfl⟩
instance:FH Tryz.prog 37 8:=⟨Tryz.t37,Tryz.typeInfo37,by kernel_rfl⟩
instance:CQ Tryz.prog 37:=⟨fun _=>by kernel_rfl,fun _=>by kernel_rfl⟩
instance:BZ Tryz.prog 39 (.agg #[.int .i64 0,.int .i64 0,.int .i64 0,.int .u64 0,.string {data:= #[]}]):=⟨Tryz.zeroValue39⟩
instance:E6 Tryz.prog 39 5:=⟨fun _=>by kernel_rfl,fun _=>by kernel_rfl⟩
instance:EW Tryz.prog 39 #[(0,1),(1,1),(2,1),(3,1),(4,1)]:=⟨_,Tryz.underlying39,fun _=>by kernel_rfl⟩
instance:An Tryz.prog 39 0 0:=⟨_,Tryz.underlying39,_,rfl,rfl,1,fun _=>by kernel_rfl,by decide⟩
instance:An Tryz.prog 39 1 1:=⟨_,Tryz.underlying39,_,rfl,rfl,1,fun _=>by kernel_rfl,by decide⟩
instance:An Tryz.prog 39 2 2:=⟨_,Tryz.underlying39,_,rfl,rfl,1,fun _=>by kernel_rfl,by decide⟩
instance:An Tryz.prog 39 3 3:=⟨_,Tryz.underlying39,_,rfl,rfl,1,fun _=>by kernel_rfl,by decide⟩
instance:An Tryz.prog 39 4 4:=⟨_,Tryz.underlying39,_,rfl,rfl,1,fun _=>by kernel_rfl,by decide⟩
instance:Ar Tryz.prog 40 (.pointer 184):=⟨Tryz.underlying40⟩
instance:BZ Tryz.prog 40 (.pointer none):=⟨Tryz.zeroValue40⟩
instance:Bw Tryz.prog 40 1:=⟨fun _=>by kernel_rfl⟩
instance:FH Tryz.prog 40 8:=⟨Tryz.t40,Tryz.typeInfo40,by kernel_rfl⟩
instance:CQ Tryz.prog 40:=⟨fun _=>by kernel_rfl,fun _=>by kernel_rfl⟩
instance:Ar Tryz.prog 41 (.int .i64):=⟨Tryz.underlying41⟩
instance:BZ Tryz.prog 41 (.int .i64 0):=⟨Tryz.zeroValue41⟩
instance:CQ Tryz.prog 41:=⟨fun _=>by kernel_rfl,fun _=>by kernel_rfl⟩
instance:Ar Tryz.prog 44 (.pointer 116):=⟨Tryz.underlying44⟩
instance:BZ Tryz.prog 44 (.pointer none):=⟨Tryz.zeroValue44⟩
instance:Bw Tryz.prog 44 1:=⟨fun _=>by kernel_rfl⟩
instance:FH Tryz.prog 44 8:=⟨Tryz.t44,Tryz.typeInfo44,by kernel_rfl⟩
instance:CQ Tryz.prog 44:=⟨fun _=>by kernel_rfl,fun _=>by kernel_rfl⟩
instance:Ar Tryz.prog 51 (.slice 9):=⟨Tryz.underlying51⟩
instance:CQ Tryz.prog 51:=⟨fun _=>by kernel_rfl,fun _=>by kernel_rfl⟩
instance:BZ Tryz.prog 53 (.agg #[.int .i64 0,.int .i64 0,.int .i64 0,.int .u64 0,.string {data:= #[]},.slice none 0 0]):=⟨Tryz.zeroValue53⟩
instance:E6 Tryz.prog 53 6:=⟨fun _=>by kernel_rfl,fun _=>by kernel_rfl⟩
instance:EW Tryz.prog 53 #[(0,1),(1,1),(2,1),(3,1),(4,1),(5,1)]:=⟨_,Tryz.underlying53,fun _=>by kernel_rfl⟩
instance:An Tryz.prog 53 0 0:=⟨_,Tryz.underlying53,_,rfl,rfl,1,fun _=>by kernel_rfl,by decide⟩
instance:An Tryz.prog 53 1 1:=⟨_,Tryz.underlying53,_,rfl,rfl,1,fun _=>by kernel_rfl,by decide⟩
instance:An Tryz.prog 53 2 2:=⟨_,Tryz.underlying53,_,rfl,rfl,1,fun _=>by kernel_rfl,by decide⟩
instance:An Tryz.prog 53 3 3:=⟨_,Tryz.underlying53,_,rfl,rfl,1,fun _=>by kernel_rfl,by decide⟩
instance:An Tryz.prog 53 4 4:=⟨_,Tryz.underlying53,_,rfl,rfl,1,fun _=>by kernel_rfl,by decide⟩
instance:Ar Tryz.prog 59 (.slice 40):=⟨Tryz.underlying59⟩
instance:CQ Tryz.prog 59:=⟨fun _=>by kernel_rfl,fun _=>by kernel_rfl⟩
instance:Ar Tryz.prog 62 (.slice 37):=⟨Tryz.underlying62⟩
instance:CQ Tryz.prog 62:=⟨fun _=>by kernel_rfl,fun _=>by kernel_rfl⟩
instance:Ar Tryz.prog 77 (.slice 4):=⟨Tryz.underlying77⟩
instance:CQ Tryz.prog 77:=⟨fun _=>by kernel_rfl,fun _=>by kernel_rfl⟩
instance:Ar Tryz.prog 88 (.slice 44):=⟨Tryz.underlying88⟩
instance:CQ Tryz.prog 88:=⟨fun _=>by kernel_rfl,fun _=>by kernel_rfl⟩
instance:BZ Tryz.prog 90 (.agg #[.int .u8 0,.int .u8 0,.int .u8 0,.int .u8 0,.int .u8 0,.int .u8 0,.int .u8 0,.int .u8 0,.int .u8 0,.int .u8 0,.int .u8 0,.int .u8 0,.int .u8 0,.int .u8 0,.int .u8 0,.int .u8 0,.slice none 0 0,.slice none 0 0,.slice none 0 0,.slice none 0 0,.bool false]):=⟨Tryz.zeroValue90⟩
instance:EW Tryz.prog 90 #[(0,16),(16,1),(17,1),(18,1),(19,1),(20,1)]:=⟨_,Tryz.underlying90,fun _=>by kernel_rfl⟩
instance:An Tryz.prog 90 0 0:=⟨_,Tryz.underlying90,_,rfl,rfl,16,fun _=>by kernel_rfl,by decide⟩
instance:An Tryz.prog 90 1 16:=⟨_,Tryz.underlying90,_,rfl,rfl,1,fun _=>by kernel_rfl,by decide⟩
instance:An Tryz.prog 90 2 17:=⟨_,Tryz.underlying90,_,rfl,rfl,1,fun _=>by kernel_rfl,by decide⟩
instance:An Tryz.prog 90 3 18:=⟨_,Tryz.underlying90,_,rfl,rfl,1,fun _=>by kernel_rfl,by decide⟩
instance:An Tryz.prog 90 4 19:=⟨_,Tryz.underlying90,_,rfl,rfl,1,fun _=>by kernel_rfl,by decide⟩
instance:An Tryz.prog 90 5 20:=⟨_,Tryz.underlying90,_,rfl,rfl,1,fun _=>by kernel_rfl,by decide⟩
instance:Ar Tryz.prog 92 (.slice 158):=⟨Tryz.underlying92⟩
instance:BZ Tryz.prog 92 (.slice none 0 0):=⟨Tryz.zeroValue92⟩
instance:CQ Tryz.prog 92:=⟨fun _=>by kernel_rfl,fun _=>by kernel_rfl⟩
instance:Bw Tryz.prog 94 10:=⟨fun _=>by kernel_rfl⟩
instance:E6 Tryz.prog 94 10:=⟨fun _=>by kernel_rfl,fun _=>by kernel_rfl⟩
instance:An Tryz.prog 94 0 0:=⟨_,Tryz.underlying94,_,rfl,rfl,1,fun _=>by kernel_rfl,by decide⟩
instance:An Tryz.prog 94 1 1:=⟨_,Tryz.underlying94,_,rfl,rfl,1,fun _=>by kernel_rfl,by decide⟩
instance:An Tryz.prog 94 2 2:=⟨_,Tryz.underlying94,_,rfl,rfl,1,fun _=>by kernel_rfl,by decide⟩
instance:An Tryz.prog 94 3 3:=⟨_,Tryz.underlying94,_,rfl,rfl,5,fun _=>by kernel_rfl,by decide⟩
instance:An Tryz.prog 94 4 8:=⟨_,Tryz.underlying94,_,rfl,rfl,1,fun _=>by kernel_rfl,by decide⟩
instance:An Tryz.prog 94 5 9:=⟨_,Tryz.underlying94,_,rfl,rfl,1,fun _=>by kernel_rfl,by decide⟩
instance:BZ Tryz.prog 106 (.nilIface):=⟨Tryz.zeroValue106⟩
instance:CQ Tryz.prog 106:=⟨fun _=>by kernel_rfl,fun _=>by kernel_rfl⟩
instance:CQ Tryz.prog 110:=⟨fun _=>by kernel_rfl,fun _=>by kernel_rfl⟩
instance:Ar Tryz.prog 112 (.slice 117):=⟨Tryz.underlying112⟩
instance:CQ Tryz.prog 112:=⟨fun _=>by kernel_rfl,fun _=>by kernel_rfl⟩
instance:Ar Tryz.prog 113 (.slice 120):=⟨Tryz.underlying113⟩
instance:CQ Tryz.prog 113:=⟨fun _=>by kernel_rfl,fun _=>by kernel_rfl⟩
instance:Ar Tryz.prog 114 (.slice 206):=⟨Tryz.underlying114⟩
instance:CQ Tryz.prog 114:=⟨fun _=>by kernel_rfl,fun _=>by kernel_rfl⟩
instance:BZ Tryz.prog 116 (.agg #[.int .i64 0,.int .i64 0,.int .u8 0,.int .u8 0,.int .u8 0,.int .u8 0,.int .u8 0,.int .u8 0,.int .u8 0,.int .u8 0,.int .u8 0,.int .u8 0,.int .u8 0,.int .u8 0,.int .u8 0,.int .u8 0,.int .u8 0,.int .u8 0,.int .i64 0,.int .i64 0,.int .u64 0,.bool false,.int .u64 0,.pointer none,.pointer none,.slice none 0 0,.slice none 0 0,.slice none 0 0,.slice none 0 0]):=⟨Tryz.zeroValue116⟩
instance:EW Tryz.prog 116 #[(0,2),(2,16),(18,1),(19,1),(20,1),(21,1),(22,1),(23,1),(24,1),(25,1),(26,1),(27,1),(28,1)]:=⟨_,Tryz.underlying116,fun _=>by kernel_rfl⟩
instance:An Tryz.prog 116 0 0:=⟨_,Tryz.underlying116,_,rfl,rfl,2,fun _=>by kernel_rfl,by decide⟩
instance:An Tryz.prog 116 1 2:=⟨_,Tryz.underlying116,_,rfl,rfl,16,fun _=>by kernel_rfl,by decide⟩
instance:An Tryz.prog 116 2 18:=⟨_,Tryz.underlying116,_,rfl,rfl,1,fun _=>by kernel_rfl,by decide⟩
instance:An Tryz.prog 116 3 19:=⟨_,Tryz.underlying116,_,rfl,rfl,1,fun _=>by kernel_rfl,by decide⟩
instance:An Tryz.prog 116 4 20:=⟨_,Tryz.underlying116,_,rfl,rfl,1,fun _=>by kernel_rfl,by decide⟩
instance:An Tryz.prog 116 5 21:=⟨_,Tryz.underlying116,_,rfl,rfl,1,fun _=>by kernel_rfl,by decide⟩
instance:An Tryz.prog 116 6 22:=⟨_,Tryz.underlying116,_,rfl,rfl,1,fun _=>by kernel_rfl,by decide⟩
instance:An Tryz.prog 116 7 23:=⟨_,Tryz.underlying116,_,rfl,rfl,1,fun _=>by kernel_rfl,by decide⟩
instance:An Tryz.prog 116 8 24:=⟨_,Tryz.underlying116,_,rfl,rfl,1,fun _=>by kernel_rfl,by decide⟩
instance:An Tryz.prog 116 9 25:=⟨_,Tryz.underlying116,_,rfl,rfl,1,fun _=>by kernel_rfl,by decide⟩
instance:An Tryz.prog 116 10 26:=⟨_,Tryz.underlying116,_,rfl,rfl,1,fun _=>by kernel_rfl,by decide⟩
instance:An Tryz.prog 116 11 27:=⟨_,Tryz.underlying116,_,rfl,rfl,1,fun _=>by kernel_rfl,by decide⟩
instance:An Tryz.prog 116 12 28:=⟨_,Tryz.underlying116,_,rfl,rfl,1,fun _=>by kernel_rfl,by decide⟩
instance:BZ Tryz.prog 117 (.pointer none):=⟨Tryz.zeroValue117⟩
instance:Bw Tryz.prog 117 1:=⟨fun _=>by kernel_rfl⟩
instance:FH Tryz.prog 117 8:=⟨Tryz.t117,Tryz.typeInfo117,by kernel_rfl⟩
instance:CQ Tryz.prog 117:=⟨fun _=>by kernel_rfl,fun _=>by kernel_rfl⟩
instance:BZ Tryz.prog 119 (.agg #[.string {data:= #[]},.pointer none,.bool false,.bool false,.int .u64 0,.int .u64 0,.int .u64 0]):=⟨Tryz.zeroValue119⟩
instance:EW Tryz.prog 119 #[(0,1),(1,1),(2,1),(3,1),(4,1),(5,1),(6,1)]:=⟨_,Tryz.underlying119,fun _=>by kernel_rfl⟩
instance:An Tryz.prog 119 0 0:=⟨_,Tryz.underlying119,_,rfl,rfl,1,fun _=>by kernel_rfl,by decide⟩
instance:An Tryz.prog 119 1 1:=⟨_,Tryz.underlying119,_,rfl,rfl,1,fun _=>by kernel_rfl,by decide⟩
instance:An Tryz.prog 119 2 2:=⟨_,Tryz.underlying119,_,rfl,rfl,1,fun _=>by kernel_rfl,by decide⟩
instance:An Tryz.prog 119 3 3:=⟨_,Tryz.underlying119,_,rfl,rfl,1,fun _=>by kernel_rfl,by decide⟩
instance:An Tryz.prog 119 4 4:=⟨_,Tryz.underlying119,_,rfl,rfl,1,fun _=>by kernel_rfl,by decide⟩
instance:An Tryz.prog 119 5 5:=⟨_,Tryz.underlying119,_,rfl,rfl,1,fun _=>by kernel_rfl,by decide⟩
instance:An Tryz.prog 119 6 6:=⟨_,Tryz.underlying119,_,rfl,rfl,1,fun _=>by kernel_rfl,by decide⟩
instance:BZ Tryz.prog 120 (.pointer none):=⟨Tryz.zeroValue120⟩
instance:Bw Tryz.prog 120 1:=⟨fun _=>by kernel_rfl⟩
instance:FH Tryz.prog 120 8:=⟨Tryz.t120,Tryz.typeInfo120,by kernel_rfl⟩
instance:CQ Tryz.prog 120:=⟨fun _=>by kernel_rfl,fun _=>by kernel_rfl⟩
instance:Ar Tryz.prog 121 (.slice 5):=⟨Tryz.underlying121⟩
instance:BZ Tryz.prog 121 (.slice none 0 0):=⟨Tryz.zeroValue121⟩
instance:Bw Tryz.prog 121 1:=⟨fun _=>by kernel_rfl⟩
instance:FH Tryz.prog 121 24:=⟨Tryz.t121,Tryz.typeInfo121,by kernel_rfl⟩
instance:CQ Tryz.prog 121:=⟨fun _=>by kernel_rfl,fun _=>by kernel_rfl⟩
instance:BZ Tryz.prog 123 (.agg #[.slice none 0 0,.slice none 0 0,.int .u64 0,.int .u64 0,.bool false,.bool false,.int .u64 0,.int .u64 0,.int .i64 0]):=⟨Tryz.zeroValue123⟩
instance:EW Tryz.prog 123 #[(0,1),(1,1),(2,1),(3,1),(4,1),(5,1),(6,1),(7,1),(8,1)]:=⟨_,Tryz.underlying123,fun _=>by kernel_rfl⟩
instance:An Tryz.prog 123 0 0:=⟨_,Tryz.underlying123,_,rfl,rfl,1,fun _=>by kernel_rfl,by decide⟩
instance:An Tryz.prog 123 1 1:=⟨_,Tryz.underlying123,_,rfl,rfl,1,fun _=>by kernel_rfl,by decide⟩
instance:An Tryz.prog 123 2 2:=⟨_,Tryz.underlying123,_,rfl,rfl,1,fun _=>by kernel_rfl,by decide⟩
instance:An Tryz.prog 123 3 3:=⟨_,Tryz.underlying123,_,rfl,rfl,1,fun _=>by kernel_rfl,by decide⟩
instance:An Tryz.prog 123 4 4:=⟨_,Tryz.underlying123,_,rfl,rfl,1,fun _=>by kernel_rfl,by decide⟩
instance:An Tryz.prog 123 5 5:=⟨_,Tryz.underlying123,_,rfl,rfl,1,fun _=>by kernel_rfl,by decide⟩
instance:An Tryz.prog 123 6 6:=⟨_,Tryz.underlying123,_,rfl,rfl,1,fun _=>by kernel_rfl,by decide⟩
instance:An Tryz.prog 123 7 7:=⟨_,Tryz.underlying123,_,rfl,rfl,1,fun _=>by kernel_rfl,by decide⟩
instance:An Tryz.prog 123 8 8:=⟨_,Tryz.underlying123,_,rfl,rfl,1,fun _=>by kernel_rfl,by decide⟩
instance:Ar Tryz.prog 142 (.slice 227):=⟨Tryz.underlying142⟩
instance:CQ Tryz.prog 142:=⟨fun _=>by kernel_rfl,fun _=>by kernel_rfl⟩
instance:BZ Tryz.prog 144 (.agg #[.slice none 0 0,.int .u64 0,.int .i64 0]):=⟨Tryz.zeroValue144⟩
instance:EW Tryz.prog 144 #[(0,1),(1,1),(2,1)]:=⟨_,Tryz.underlying144,fun _=>by kernel_rfl⟩
instance:An Tryz.prog 144 0 0:=⟨_,Tryz.underlying144,_,rfl,rfl,1,fun _=>by kernel_rfl,by decide⟩
instance:An Tryz.prog 144 1 1:=⟨_,Tryz.underlying144,_,rfl,rfl,1,fun _=>by kernel_rfl,by decide⟩
instance:An Tryz.prog 144 2 2:=⟨_,Tryz.underlying144,_,rfl,rfl,1,fun _=>by kernel_rfl,by decide⟩
instance:BZ Tryz.prog 158 (.agg #[.int .i64 0,.int .i64 0,.int .u64 0,.int .u64 0,.bool false,.string {data:= #[]},.slice none 0 0]):=⟨Tryz.zeroValue158⟩
instance:Bw Tryz.prog 158 7:=⟨fun _=>by kernel_rfl⟩
instance:FH Tryz.prog 158 80:=⟨Tryz.t158,Tryz.typeInfo158,by kernel_rfl⟩
instance:E6 Tryz.prog 158 7:=⟨fun _=>by kernel_rfl,fun _=>by kernel_rfl⟩
instance:EW Tryz.prog 158 #[(0,1),(1,1),(2,1),(3,1),(4,1),(5,1),(6,1)]:=⟨_,Tryz.underlying158,fun _=>by kernel_rfl⟩
instance:An Tryz.prog 158 0 0:=⟨_,Tryz.underlying158,_,rfl,rfl,1,fun _=>by kernel_rfl,by decide⟩
instance:An Tryz.prog 158 1 1:=⟨_,Tryz.underlying158,_,rfl,rfl,1,fun _=>by kernel_rfl,by decide⟩
instance:An Tryz.prog 158 2 2:=⟨_,Tryz.underlying158,_,rfl,rfl,1,fun _=>by kernel_rfl,by decide⟩
instance:An Tryz.prog 158 3 3:=⟨_,Tryz.underlying158,_,rfl,rfl,1,fun _=>by kernel_rfl,by decide⟩
instance:An Tryz.prog 158 4 4:=⟨_,Tryz.underlying158,_,rfl,rfl,1,fun _=>by kernel_rfl,by decide⟩
instance:An Tryz.prog 158 5 5:=⟨_,Tryz.underlying158,_,rfl,rfl,1,fun _=>by kernel_rfl,by decide⟩
instance:An Tryz.prog 158 6 6:=⟨_,Tryz.underlying158,_,rfl,rfl,1,fun _=>by kernel_rfl,by decide⟩
instance:BZ Tryz.prog 171 (.agg #[.int .u8 0,.int .u8 0,.int .u8 0,.int .u8 0,.int .u8 0,.int .u8 0,.int .u8 0,.int .u8 0,.int .u8 0,.int .u8 0,.int .u8 0,.int .u8 0,.int .u8 0,.int .u8 0,.int .u8 0,.int .u8 0,.int .u8 0]):=⟨Tryz.zeroValue171⟩
instance:E6 Tryz.prog 171 17:=⟨fun _=>by kernel_rfl,fun _=>by kernel_rfl⟩
instance:EW Tryz.prog 171 #[(0,16),(16,1)]:=⟨_,Tryz.underlying171,fun _=>by kernel_rfl⟩
instance:An Tryz.prog 171 0 0:=⟨_,Tryz.underlying171,_,rfl,rfl,16,fun _=>by kernel_rfl,by decide⟩
instance:An Tryz.prog 171 1 16:=⟨_,Tryz.underlying171,_,rfl,rfl,1,fun _=>by kernel_rfl,by decide⟩
instance:CQ Tryz.prog 173:=⟨fun _=>by kernel_rfl,fun _=>by kernel_rfl⟩
instance:Bw Tryz.prog 176 10:=⟨fun _=>by kernel_rfl⟩
instance:An Tryz.prog 176 0 0:=⟨_,Tryz.underlying176,_,rfl,rfl,1,fun _=>by kernel_rfl,by decide⟩
instance:An Tryz.prog 176 1 1:=⟨_,Tryz.underlying176,_,rfl,rfl,1,fun _=>by kernel_rfl,by decide⟩
instance:An Tryz.prog 176 2 2:=⟨_,Tryz.underlying176,_,rfl,rfl,1,fun _=>by kernel_rfl,by decide⟩
instance:An Tryz.prog 176 3 3:=⟨_,Tryz.underlying176,_,rfl,rfl,1,fun _=>by kernel_rfl,by decide⟩
instance:An Tryz.prog 176 4 4:=⟨_,Tryz.underlying176,_,rfl,rfl,1,fun _=>by kernel_rfl,by decide⟩
instance:An Tryz.prog 176 5 5:=⟨_,Tryz.underlying176,_,rfl,rfl,1,fun _=>by kernel_rfl,by decide⟩
instance:An Tryz.prog 176 6 6:=⟨_,Tryz.underlying176,_,rfl,rfl,1,fun _=>by kernel_rfl,by decide⟩
instance:An Tryz.prog 176 7 7:=⟨_,Tryz.underlying176,_,rfl,rfl,1,fun _=>by kernel_rfl,by decide⟩
instance:An Tryz.prog 176 8 8:=⟨_,Tryz.underlying176,_,rfl,rfl,1,fun _=>by kernel_rfl,by decide⟩
instance:An Tryz.prog 176 9 9:=⟨_,Tryz.underlying176,_,rfl,rfl,1,fun _=>by kernel_rfl,by decide⟩
instance:Ar Tryz.prog 177 (.array 4 176):=⟨Tryz.underlying177⟩
instance:Bw Tryz.prog 179 9:=⟨fun _=>by kernel_rfl⟩
instance:An Tryz.prog 179 0 0:=⟨_,Tryz.underlying179,_,rfl,rfl,1,fun _=>by kernel_rfl,by decide⟩
instance:An Tryz.prog 179 1 1:=⟨_,Tryz.underlying179,_,rfl,rfl,1,fun _=>by kernel_rfl,by decide⟩
instance:An Tryz.prog 179 2 2:=⟨_,Tryz.underlying179,_,rfl,rfl,1,fun _=>by kernel_rfl,by decide⟩
instance:An Tryz.prog 179 3 3:=⟨_,Tryz.underlying179,_,rfl,rfl,1,fun _=>by kernel_rfl,by decide⟩
instance:An Tryz.prog 179 4 4:=⟨_,Tryz.underlying179,_,rfl,rfl,1,fun _=>by kernel_rfl,by decide⟩
instance:An Tryz.prog 179 5 5:=⟨_,Tryz.underlying179,_,rfl,rfl,1,fun _=>by kernel_rfl,by decide⟩
instance:An Tryz.prog 179 6 6:=⟨_,Tryz.underlying179,_,rfl,rfl,1,fun _=>by kernel_rfl,by decide⟩
instance:An Tryz.prog 179 7 7:=⟨_,Tryz.underlying179,_,rfl,rfl,1,fun _=>by kernel_rfl,by decide⟩
instance:An Tryz.prog 179 8 8:=⟨_,Tryz.underlying179,_,rfl,rfl,1,fun _=>by kernel_rfl,by decide⟩
instance:Ar Tryz.prog 180 (.array 4 179):=⟨Tryz.underlying180⟩
instance:Ar Tryz.prog 181 (.slice 257):=⟨Tryz.underlying181⟩
instance:CQ Tryz.prog 181:=⟨fun _=>by kernel_rfl,fun _=>by kernel_rfl⟩
instance:Ar Tryz.prog 182 (.int .u64):=⟨Tryz.underlying182⟩
instance:CQ Tryz.prog 182:=⟨fun _=>by kernel_rfl,fun _=>by kernel_rfl⟩
instance:BZ Tryz.prog 184 (.agg #[.int .i64 0,.int .i64 0,.int .u8 0,.int .u8 0,.int .u8 0,.int .u8 0,.int .u8 0,.int .u8 0,.int .u8 0,.int .u8 0,.int .u8 0,.int .u8 0,.int .u8 0,.int .u8 0,.int .u8 0,.int .u8 0,.int .u8 0,.int .u8 0,.int .u8 0,.int .u8 0,.int .u8 0,.int .u8 0,.int .u8 0,.int .u8 0,.int .u8 0,.int .u8 0,.int .u8 0,.int .u8 0,.int .u8 0,.int .u8 0,.int .u8 0,.int .u8 0,.int .u8 0,.int .u8 0,.int .u8 0,.int .u8 0,.int .u64 0,.int .i64 0,.int .u64 0,.bool false,.int .u64 0,.pointer none,.bool false,.slice none 0 0,.pointer none,.pointer none,.int .u64 0,.bool false,.bool false,.bool false,.bool false,.int .u64 0,.bool false,.slice none 0 0,.pointer none,.pointer none,.int .u64 0,.bool false,.bool false,.bool false,.bool false,.int .u64 0,.bool false,.slice none 0 0,.pointer none,.pointer none,.int .u64 0,.bool false,.bool false,.bool false,.bool false,.int .u64 0,.bool false,.slice none 0 0,.pointer none,.pointer none,.int .u64 0,.bool false,.bool false,.bool false,.bool false,.int .u64 0,.bool false,.slice none 0 0,.pointer none,.int .u64 0,.int .u64 0,.bool false,.bool false,.int .u64 0,.int .u64 0,.int .i64 0,.slice none 0 0,.pointer none,.int .u64 0,.int .u64 0,.bool false,.bool false,.int .u64 0,.int .u64 0,.int .i64 0,.slice none 0 0,.pointer none,.int .u64 0,.int .u64 0,.bool false,.bool false,.int .u64 0,.int .u64 0,.int .i64 0,.slice none 0 0,.pointer none,.int .u64 0,.int .u64 0,.bool false,.bool false,.int .u64 0,.int .u64 0,.int .i64 0,.slice none 0 0,.slice none 0 0,.int .u64 0,.int .u64 0]):=⟨Tryz.zeroValue184⟩
instance:EW Tryz.prog 184 #[(0,2),(2,17),(19,17),(36,1),(37,1),(38,1),(39,1),(40,1),(41,1),(42,1),(43,40),(83,36),(119,1),(120,1),(121,1),(122,1)]:=⟨_,Tryz.underlying184,fun _=>by kernel_rfl⟩
instance:An Tryz.prog 184 0 0:=⟨_,Tryz.underlying184,_,rfl,rfl,2,fun _=>by kernel_rfl,by decide⟩
instance:An Tryz.prog 184 1 2:=⟨_,Tryz.underlying184,_,rfl,rfl,17,fun _=>by kernel_rfl,by decide⟩
instance:An Tryz.prog 184 2 19:=⟨_,Tryz.underlying184,_,rfl,rfl,17,fun _=>by kernel_rfl,by decide⟩
instance:An Tryz.prog 184 3 36:=⟨_,Tryz.underlying184,_,rfl,rfl,1,fun _=>by kernel_rfl,by decide⟩
instance:An Tryz.prog 184 4 37:=⟨_,Tryz.underlying184,_,rfl,rfl,1,fun _=>by kernel_rfl,by decide⟩
instance:An Tryz.prog 184 5 38:=⟨_,Tryz.underlying184,_,rfl,rfl,1,fun _=>by kernel_rfl,by decide⟩
instance:An Tryz.prog 184 6 39:=⟨_,Tryz.underlying184,_,rfl,rfl,1,fun _=>by kernel_rfl,by decide⟩
instance:An Tryz.prog 184 7 40:=⟨_,Tryz.underlying184,_,rfl,rfl,1,fun _=>by kernel_rfl,by decide⟩
instance:An Tryz.prog 184 8 41:=⟨_,Tryz.underlying184,_,rfl,rfl,1,fun _=>by kernel_rfl,by decide⟩
instance:An Tryz.prog 184 9 42:=⟨_,Tryz.underlying184,_,rfl,rfl,1,fun _=>by kernel_rfl,by decide⟩
instance:An Tryz.prog 184 10 43:=⟨_,Tryz.underlying184,_,rfl,rfl,40,fun _=>by kernel_rfl,by decide⟩
instance:An Tryz.prog 184 11 83:=⟨_,Tryz.underlying184,_,rfl,rfl,36,fun _=>by kernel_rfl,by decide⟩
instance:An Tryz.prog 184 12 119:=⟨_,Tryz.underlying184,_,rfl,rfl,1,fun _=>by kernel_rfl,by decide⟩
instance:An Tryz.prog 184 13 120:=⟨_,Tryz.underlying184,_,rfl,rfl,1,fun _=>by kernel_rfl,by decide⟩
instance:An Tryz.prog 184 14 121:=⟨_,Tryz.underlying184,_,rfl,rfl,1,fun _=>by kernel_rfl,by decide⟩
instance:An Tryz.prog 184 15 122:=⟨_,Tryz.underlying184,_,rfl,rfl,1,fun _=>by kernel_rfl,by decide⟩
instance:BZ Tryz.prog 191 (.pointer none):=⟨Tryz.zeroValue191⟩
instance:CQ Tryz.prog 191:=⟨fun _=>by kernel_rfl,fun _=>by kernel_rfl⟩
instance:BZ Tryz.prog 196 (.agg #[.int .i64 0,.int .i64 0]):=⟨Tryz.zeroValue196⟩
instance:EW Tryz.prog 196 #[(0,1),(1,1)]:=⟨_,Tryz.underlying196,fun _=>by kernel_rfl⟩
instance:An Tryz.prog 196 0 0:=⟨_,Tryz.underlying196,_,rfl,rfl,1,fun _=>by kernel_rfl,by decide⟩
instance:An Tryz.prog 196 1 1:=⟨_,Tryz.underlying196,_,rfl,rfl,1,fun _=>by kernel_rfl,by decide⟩
instance:BZ Tryz.prog 206 (.agg #[.int .u64 0,.slice none 0 0]):=⟨Tryz.zeroValue206⟩
instance:Bw Tryz.prog 206 2:=⟨fun _=>by kernel_rfl⟩
instance:FH Tryz.prog 206 32:=⟨Tryz.t206,Tryz.typeInfo206,by kernel_rfl⟩
instance:EW Tryz.prog 206 #[(0,1),(1,1)]:=⟨_,Tryz.underlying206,fun _=>by kernel_rfl⟩
instance:An Tryz.prog 206 0 0:=⟨_,Tryz.underlying206,_,rfl,rfl,1,fun _=>by kernel_rfl,by decide⟩
instance:An Tryz.prog 206 1 1:=⟨_,Tryz.underlying206,_,rfl,rfl,1,fun _=>by kernel_rfl,by decide⟩
instance:Ar Tryz.prog 211 (.slice 121):=⟨Tryz.underlying211⟩
instance:BZ Tryz.prog 227 (.agg #[.int .u64 0,.int .u64 0]):=⟨Tryz.zeroValue227⟩
instance:Bw Tryz.prog 227 2:=⟨fun _=>by kernel_rfl⟩
instance:FH Tryz.prog 227 16:=⟨Tryz.t227,Tryz.typeInfo227,by kernel_rfl⟩
instance:E6 Tryz.prog 227 2:=⟨fun _=>by kernel_rfl,fun _=>by kernel_rfl⟩
instance:EW Tryz.prog 227 #[(0,1),(1,1)]:=⟨_,Tryz.underlying227,fun _=>by kernel_rfl⟩
instance:An Tryz.prog 227 0 0:=⟨_,Tryz.underlying227,_,rfl,rfl,1,fun _=>by kernel_rfl,by decide⟩
instance:An Tryz.prog 227 1 1:=⟨_,Tryz.underlying227,_,rfl,rfl,1,fun _=>by kernel_rfl,by decide⟩
instance:BZ Tryz.prog 231 (.agg #[.slice none 0 0,.int .i64 0,.bool false]):=⟨Tryz.zeroValue231⟩
instance:EW Tryz.prog 231 #[(0,1),(1,1),(2,1)]:=⟨_,Tryz.underlying231,fun _=>by kernel_rfl⟩
instance:An Tryz.prog 231 0 0:=⟨_,Tryz.underlying231,_,rfl,rfl,1,fun _=>by kernel_rfl,by decide⟩
instance:An Tryz.prog 231 1 1:=⟨_,Tryz.underlying231,_,rfl,rfl,1,fun _=>by kernel_rfl,by decide⟩
instance:An Tryz.prog 231 2 2:=⟨_,Tryz.underlying231,_,rfl,rfl,1,fun _=>by kernel_rfl,by decide⟩
instance:BZ Tryz.prog 236 (.agg #[.slice none 0 0,.int .u64 0,.int .i64 0]):=⟨Tryz.zeroValue236⟩
instance:EW Tryz.prog 236 #[(0,1),(1,1),(2,1)]:=⟨_,Tryz.underlying236,fun _=>by kernel_rfl⟩
instance:An Tryz.prog 236 0 0:=⟨_,Tryz.underlying236,_,rfl,rfl,1,fun _=>by kernel_rfl,by decide⟩
instance:An Tryz.prog 236 1 1:=⟨_,Tryz.underlying236,_,rfl,rfl,1,fun _=>by kernel_rfl,by decide⟩
instance:An Tryz.prog 236 2 2:=⟨_,Tryz.underlying236,_,rfl,rfl,1,fun _=>by kernel_rfl,by decide⟩
instance:BZ Tryz.prog 241 (.agg #[.pointer none,.pointer none,.int .u64 0]):=⟨Tryz.zeroValue241⟩
instance:E6 Tryz.prog 241 3:=⟨fun _=>by kernel_rfl,fun _=>by kernel_rfl⟩
instance:CQ Tryz.prog 244:=⟨fun _=>by kernel_rfl,fun _=>by kernel_rfl⟩
instance:BZ Tryz.prog 253 (.pointer none):=⟨Tryz.zeroValue253⟩
instance:CQ Tryz.prog 253:=⟨fun _=>by kernel_rfl,fun _=>by kernel_rfl⟩
instance:BZ Tryz.prog 257 (.agg #[.int .u64 0,.int .u64 0,.slice none 0 0]):=⟨Tryz.zeroValue257⟩
instance:Bw Tryz.prog 257 3:=⟨fun _=>by kernel_rfl⟩
instance:FH Tryz.prog 257 40:=⟨Tryz.t257,Tryz.typeInfo257,by kernel_rfl⟩
instance:E6 Tryz.prog 257 3:=⟨fun _=>by kernel_rfl,fun _=>by kernel_rfl⟩
instance:EW Tryz.prog 257 #[(0,1),(1,1),(2,1)]:=⟨_,Tryz.underlying257,fun _=>by kernel_rfl⟩
instance:An Tryz.prog 257 0 0:=⟨_,Tryz.underlying257,_,rfl,rfl,1,fun _=>by kernel_rfl,by decide⟩
instance:An Tryz.prog 257 1 1:=⟨_,Tryz.underlying257,_,rfl,rfl,1,fun _=>by kernel_rfl,by decide⟩
instance:An Tryz.prog 257 2 2:=⟨_,Tryz.underlying257,_,rfl,rfl,1,fun _=>by kernel_rfl,by decide⟩
instance:CQ Tryz.prog 259:=⟨fun _=>by kernel_rfl,fun _=>by kernel_rfl⟩
instance:BZ Tryz.prog 265 (.agg #[.slice none 0 0,.slice none 0 0,.int .i64 0,.bool false]):=⟨Tryz.zeroValue265⟩
instance:EW Tryz.prog 265 #[(0,1),(1,1),(2,1),(3,1)]:=⟨_,Tryz.underlying265,fun _=>by kernel_rfl⟩
instance:An Tryz.prog 265 0 0:=⟨_,Tryz.underlying265,_,rfl,rfl,1,fun _=>by kernel_rfl,by decide⟩
instance:An Tryz.prog 265 1 1:=⟨_,Tryz.underlying265,_,rfl,rfl,1,fun _=>by kernel_rfl,by decide⟩
instance:An Tryz.prog 265 2 2:=⟨_,Tryz.underlying265,_,rfl,rfl,1,fun _=>by kernel_rfl,by decide⟩
instance:An Tryz.prog 265 3 3:=⟨_,Tryz.underlying265,_,rfl,rfl,1,fun _=>by kernel_rfl,by decide⟩
instance :Ar Tryz.prog 286 (.interface #[("As",288)]) :=⟨Tryz.underlying286⟩
instance :Ar Tryz.prog 289 (.interface #[("Unwrap",149)]) :=⟨Tryz.underlying289⟩
instance :Ar Tryz.prog 290 (.interface #[("Unwrap",292)]) :=⟨Tryz.underlying290⟩
instance :Ar Tryz.prog 293 (.interface #[("Is",295)]) :=⟨Tryz.underlying293⟩
instance:CQ Tryz.prog 300:=⟨fun _=>by kernel_rfl,fun _=>by kernel_rfl⟩
instance:CQ Tryz.prog 308:=⟨fun _=>by kernel_rfl,fun _=>by kernel_rfl⟩
instance:CQ Tryz.prog 309:=⟨fun _=>by kernel_rfl,fun _=>by kernel_rfl⟩
instance:CQ Tryz.prog 310:=⟨fun _=>by kernel_rfl,fun _=>by kernel_rfl⟩
instance:BZ Tryz.prog 312 (.agg #[.nilFunc,.nilFunc,.nilFunc]):=⟨Tryz.zeroValue312⟩
instance:E6 Tryz.prog 312 3:=⟨fun _=>by kernel_rfl,fun _=>by kernel_rfl⟩
instance:EW Tryz.prog 312 #[(0,1),(1,1),(2,1)]:=⟨_,Tryz.underlying312,fun _=>by kernel_rfl⟩
instance:An Tryz.prog 312 0 0:=⟨_,Tryz.underlying312,_,rfl,rfl,1,fun _=>by kernel_rfl,by decide⟩
instance:An Tryz.prog 312 1 1:=⟨_,Tryz.underlying312,_,rfl,rfl,1,fun _=>by kernel_rfl,by decide⟩
instance:An Tryz.prog 312 2 2:=⟨_,Tryz.underlying312,_,rfl,rfl,1,fun _=>by kernel_rfl,by decide⟩
instance:Ar Tryz.prog 313 (.array 8 5):=⟨Tryz.underlying313⟩
instance:BZ Tryz.prog 313 (.agg #[.int .u8 0,.int .u8 0,.int .u8 0,.int .u8 0,.int .u8 0,.int .u8 0,.int .u8 0,.int .u8 0]):=⟨Tryz.zeroValue313⟩
instance:E6 Tryz.prog 313 8:=⟨fun _=>by kernel_rfl,fun _=>by kernel_rfl⟩
instance:BZ Tryz.prog 318 (.agg #[.slice none 0 0,.int .i64 0]):=⟨Tryz.zeroValue318⟩
instance:EW Tryz.prog 318 #[(0,1),(1,1)]:=⟨_,Tryz.underlying318,fun _=>by kernel_rfl⟩
instance:An Tryz.prog 318 0 0:=⟨_,Tryz.underlying318,_,rfl,rfl,1,fun _=>by kernel_rfl,by decide⟩
instance:An Tryz.prog 318 1 1:=⟨_,Tryz.underlying318,_,rfl,rfl,1,fun _=>by kernel_rfl,by decide⟩
instance:BZ Tryz.prog 320 (.agg #[]):=⟨Tryz.zeroValue320⟩
instance:E6 Tryz.prog 320 0:=⟨fun _=>by kernel_rfl,fun _=>by kernel_rfl⟩
instance:EW Tryz.prog 320 #[]:=⟨_,Tryz.underlying320,fun _=>by kernel_rfl⟩
instance:Ar Tryz.prog 329 (.array 4 37):=⟨Tryz.underlying329⟩
instance:BZ Tryz.prog 329 (.agg #[.int .u64 0,.int .u64 0,.int .u64 0,.int .u64 0]):=⟨Tryz.zeroValue329⟩
instance:E6 Tryz.prog 329 4:=⟨fun _=>by kernel_rfl,fun _=>by kernel_rfl⟩
instance:CQ Tryz.prog 336:=⟨fun _=>by kernel_rfl,fun _=>by kernel_rfl⟩
instance:Ar Tryz.prog 347 (.array 4 37):=⟨Tryz.underlying347⟩
instance:BZ Tryz.prog 347 (.agg #[.int .u64 0,.int .u64 0,.int .u64 0,.int .u64 0]):=⟨Tryz.zeroValue347⟩
instance:E6 Tryz.prog 347 4:=⟨fun _=>by kernel_rfl,fun _=>by kernel_rfl⟩
instance:AX Tryz.prog 11:=Af Tryz.func11 (by kernel_rfl) rfl
instance:AX Tryz.prog 16:=Af Tryz.func16 (by kernel_rfl) rfl
instance:AX Tryz.prog 17:=Af Tryz.func17 (by kernel_rfl) rfl
instance:AX Tryz.prog 19:=Af Tryz.func19 (by kernel_rfl) rfl
instance:AX Tryz.prog 20:=Af Tryz.func20 (by kernel_rfl) rfl
instance:AX Tryz.prog 21:=Af Tryz.func21 (by kernel_rfl) rfl
instance:AX Tryz.prog 22:=Af Tryz.func22 (by kernel_rfl) rfl
instance:AX Tryz.prog 26:=Af Tryz.func26 (by kernel_rfl) rfl
instance:AX Tryz.prog 31:=Af Tryz.func31 (by kernel_rfl) rfl
instance:AX Tryz.prog 32:=Af Tryz.func32 (by kernel_rfl) rfl
instance:AX Tryz.prog 33:=Af Tryz.func33 (by kernel_rfl) rfl
instance:AX Tryz.prog 39:=Af Tryz.func39 (by kernel_rfl) rfl
instance:AX Tryz.prog 40:=Af Tryz.func40 (by kernel_rfl) rfl
instance:AX Tryz.prog 41:=Af Tryz.func41 (by kernel_rfl) rfl
instance:AX Tryz.prog 44:=Af Tryz.func44 (by kernel_rfl) rfl
instance:AX Tryz.prog 45:=Af Tryz.func45 (by kernel_rfl) rfl
instance:AX Tryz.prog 46:=Af Tryz.func46 (by kernel_rfl) rfl
instance:AX Tryz.prog 47:=Af Tryz.func47 (by kernel_rfl) rfl
instance:AX Tryz.prog 48:=Af Tryz.func48 (by kernel_rfl) rfl
instance:AX Tryz.prog 49:=Af Tryz.func49 (by kernel_rfl) rfl
instance:AX Tryz.prog 50:=Af Tryz.func50 (by kernel_rfl) rfl
instance:AX Tryz.prog 51:=Af Tryz.func51 (by kernel_rfl) rfl
instance:AX Tryz.prog 52:=Af Tryz.func52 (by kernel_rfl) rfl
instance:AX Tryz.prog 53:=Af Tryz.func53 (by kernel_rfl) rfl
instance:AX Tryz.prog 54:=Af Tryz.func54 (by kernel_rfl) rfl
instance:AX Tryz.prog 56:=Af Tryz.func56 (by kernel_rfl) rfl
instance:AX Tryz.prog 63:=Af Tryz.func63 (by kernel_rfl) rfl
instance:AX Tryz.prog 64:=Af Tryz.func64 (by kernel_rfl) rfl
instance:AX Tryz.prog 65:=Af Tryz.func65 (by kernel_rfl) rfl
instance:AX Tryz.prog 66:=Af Tryz.func66 (by kernel_rfl) rfl
instance:AX Tryz.prog 67:=Af Tryz.func67 (by kernel_rfl) rfl
instance:AX Tryz.prog 68:=Af Tryz.func68 (by kernel_rfl) rfl
instance:AX Tryz.prog 69:=Af Tryz.func69 (by kernel_rfl) rfl
instance:AX Tryz.prog 75:=Af Tryz.func75 (by kernel_rfl) rfl
instance:AX Tryz.prog 76:=Af Tryz.func76 (by kernel_rfl) rfl
instance:AX Tryz.prog 79:=Af Tryz.func79 (by kernel_rfl) rfl
instance:AX Tryz.prog 80:=Af Tryz.func80 (by kernel_rfl) rfl
instance:AX Tryz.prog 81:=Af Tryz.func81 (by kernel_rfl) rfl
instance:AX Tryz.prog 82:=Af Tryz.func82 (by kernel_rfl) rfl
instance:AX Tryz.prog 83:=Af Tryz.func83 (by kernel_rfl) rfl
instance:AX Tryz.prog 84:=Af Tryz.func84 (by kernel_rfl) rfl
instance:AX Tryz.prog 85:=Af Tryz.func85 (by kernel_rfl) rfl
instance:AX Tryz.prog 86:=Af Tryz.func86 (by kernel_rfl) rfl
instance:AX Tryz.prog 87:=Af Tryz.func87 (by kernel_rfl) rfl
instance:AX Tryz.prog 88:=Af Tryz.func88 (by kernel_rfl) rfl
instance:AX Tryz.prog 89:=Af Tryz.func89 (by kernel_rfl) rfl
instance:AX Tryz.prog 90:=Af Tryz.func90 (by kernel_rfl) rfl
instance:AX Tryz.prog 91:=Af Tryz.func91 (by kernel_rfl) rfl
instance:AX Tryz.prog 92:=Af Tryz.func92 (by kernel_rfl) rfl
instance:AX Tryz.prog 93:=Af Tryz.func93 (by kernel_rfl) rfl
instance:AX Tryz.prog 94:=Af Tryz.func94 (by kernel_rfl) rfl
instance:AX Tryz.prog 95:=Af Tryz.func95 (by kernel_rfl) rfl
instance:AX Tryz.prog 96:=Af Tryz.func96 (by kernel_rfl) rfl
instance:AX Tryz.prog 97:=Af Tryz.func97 (by kernel_rfl) rfl
instance:AX Tryz.prog 104:=Af Tryz.func104 (by kernel_rfl) rfl
instance:AX Tryz.prog 105:=Af Tryz.func105 (by kernel_rfl) rfl
instance:AX Tryz.prog 106:=Af Tryz.func106 (by kernel_rfl) rfl
instance:AX Tryz.prog 107:=Af Tryz.func107 (by kernel_rfl) rfl
instance:AX Tryz.prog 108:=Af Tryz.func108 (by kernel_rfl) rfl
instance:AX Tryz.prog 109:=Af Tryz.func109 (by kernel_rfl) rfl
instance:AX Tryz.prog 123:=Af Tryz.func123 (by kernel_rfl) rfl
instance:AX Tryz.prog 125:=Af Tryz.func125 (by kernel_rfl) rfl
instance:AX Tryz.prog 126:=Af Tryz.func126 (by kernel_rfl) rfl
instance:AX Tryz.prog 127:=Af Tryz.func127 (by kernel_rfl) rfl
instance:AX Tryz.prog 128:=Af Tryz.func128 (by kernel_rfl) rfl
instance:AX Tryz.prog 129:=Af Tryz.func129 (by kernel_rfl) rfl
instance:AX Tryz.prog 130:=Af Tryz.func130 (by kernel_rfl) rfl
instance:AX Tryz.prog 131:=Af Tryz.func131 (by kernel_rfl) rfl
instance:AX Tryz.prog 132:=Af Tryz.func132 (by kernel_rfl) rfl
instance:AX Tryz.prog 133:=Af Tryz.func133 (by kernel_rfl) rfl
instance:AX Tryz.prog 134:=Af Tryz.func134 (by kernel_rfl) rfl
instance:AX Tryz.prog 135:=Af Tryz.func135 (by kernel_rfl) rfl
instance:AX Tryz.prog 136:=Af Tryz.func136 (by kernel_rfl) rfl
instance:AX Tryz.prog 137:=Af Tryz.func137 (by kernel_rfl) rfl
instance:AX Tryz.prog 138:=Af Tryz.func138 (by kernel_rfl) rfl
instance:AX Tryz.prog 139:=Af Tryz.func139 (by kernel_rfl) rfl
instance:AX Tryz.prog 140:=Af Tryz.func140 (by kernel_rfl) rfl
instance:AX Tryz.prog 141:=Af Tryz.func141 (by kernel_rfl) rfl
instance:AX Tryz.prog 142:=Af Tryz.func142 (by kernel_rfl) rfl
instance:AX Tryz.prog 143:=Af Tryz.func143 (by kernel_rfl) rfl
instance:AX Tryz.prog 144:=Af Tryz.func144 (by kernel_rfl) rfl
instance:AX Tryz.prog 145:=Af Tryz.func145 (by kernel_rfl) rfl
instance:AX Tryz.prog 146:=Af Tryz.func146 (by kernel_rfl) rfl
instance:AX Tryz.prog 147:=Af Tryz.func147 (by kernel_rfl) rfl
instance:AX Tryz.prog 148:=Af Tryz.func148 (by kernel_rfl) rfl
instance:AX Tryz.prog 149:=Af Tryz.func149 (by kernel_rfl) rfl
instance:AX Tryz.prog 153:=Af Tryz.func153 (by kernel_rfl) rfl
instance:AX Tryz.prog 154:=Af Tryz.func154 (by kernel_rfl) rfl
instance:AX Tryz.prog 155:=Af Tryz.func155 (by kernel_rfl) rfl
instance:AX Tryz.prog 156:=Af Tryz.func156 (by kernel_rfl) rfl
instance:AX Tryz.prog 157:=Af Tryz.func157 (by kernel_rfl) rfl
instance:AX Tryz.prog 158:=Af Tryz.func158 (by kernel_rfl) rfl
instance:AX Tryz.prog 161:=Af Tryz.func161 (by kernel_rfl) rfl
instance:AX Tryz.prog 162:=Af Tryz.func162 (by kernel_rfl) rfl
instance:AX Tryz.prog 163:=Af Tryz.func163 (by kernel_rfl) rfl
instance:AX Tryz.prog 164:=Af Tryz.func164 (by kernel_rfl) rfl
instance:AX Tryz.prog 165:=Af Tryz.func165 (by kernel_rfl) rfl
instance:AX Tryz.prog 166:=Af Tryz.func166 (by kernel_rfl) rfl
instance:AX Tryz.prog 167:=Af Tryz.func167 (by kernel_rfl) rfl
instance:AX Tryz.prog 168:=Af Tryz.func168 (by kernel_rfl) rfl
instance:AX Tryz.prog 169:=Af Tryz.func169 (by kernel_rfl) rfl
instance:AX Tryz.prog 170:=Af Tryz.func170 (by kernel_rfl) rfl
instance:AX Tryz.prog 171:=Af Tryz.func171 (by kernel_rfl) rfl
instance:AX Tryz.prog 172:=Af Tryz.func172 (by kernel_rfl) rfl
instance:AX Tryz.prog 173:=Af Tryz.func173 (by kernel_rfl) rfl
instance:AX Tryz.prog 174:=Af Tryz.func174 (by kernel_rfl) rfl
instance:AX Tryz.prog 175:=Af Tryz.func175 (by kernel_rfl) rfl
instance:AX Tryz.prog 176:=Af Tryz.func176 (by kernel_rfl) rfl
instance:AX Tryz.prog 177:=Af Tryz.func177 (by kernel_rfl) rfl
instance:AX Tryz.prog 178:=Af Tryz.func178 (by kernel_rfl) rfl
instance:AX Tryz.prog 179:=Af Tryz.func179 (by kernel_rfl) rfl
instance:AX Tryz.prog 180:=Af Tryz.func180 (by kernel_rfl) rfl
instance:AX Tryz.prog 181:=Af Tryz.func181 (by kernel_rfl) rfl
instance:AX Tryz.prog 182:=Af Tryz.func182 (by kernel_rfl) rfl
instance:AX Tryz.prog 183:=Af Tryz.func183 (by kernel_rfl) rfl
instance:AX Tryz.prog 184:=Af Tryz.func184 (by kernel_rfl) rfl
instance:AX Tryz.prog 185:=Af Tryz.func185 (by kernel_rfl) rfl
instance:AX Tryz.prog 186:=Af Tryz.func186 (by kernel_rfl) rfl
instance:AX Tryz.prog 187:=Af Tryz.func187 (by kernel_rfl) rfl
instance:AX Tryz.prog 188:=Af Tryz.func188 (by kernel_rfl) rfl
instance:AX Tryz.prog 189:=Af Tryz.func189 (by kernel_rfl) rfl
instance:AX Tryz.prog 190:=Af Tryz.func190 (by kernel_rfl) rfl
instance:AX Tryz.prog 191:=Af Tryz.func191 (by kernel_rfl) rfl
instance:AX Tryz.prog 192:=Af Tryz.func192 (by kernel_rfl) rfl
instance:AX Tryz.prog 193:=Af Tryz.func193 (by kernel_rfl) rfl
instance:AX Tryz.prog 194:=Af Tryz.func194 (by kernel_rfl) rfl
instance:AX Tryz.prog 195:=Af Tryz.func195 (by kernel_rfl) rfl
instance:AX Tryz.prog 196:=Af Tryz.func196 (by kernel_rfl) rfl
instance:AX Tryz.prog 197:=Af Tryz.func197 (by kernel_rfl) rfl
instance:AX Tryz.prog 198:=Af Tryz.func198 (by kernel_rfl) rfl
instance:AX Tryz.prog 199:=Af Tryz.func199 (by kernel_rfl) rfl
instance:AX Tryz.prog 200:=Af Tryz.func200 (by kernel_rfl) rfl
instance:AX Tryz.prog 201:=Af Tryz.func201 (by kernel_rfl) rfl
instance:AX Tryz.prog 202:=Af Tryz.func202 (by kernel_rfl) rfl
instance:AX Tryz.prog 203:=Af Tryz.func203 (by kernel_rfl) rfl
instance:AX Tryz.prog 204:=Af Tryz.func204 (by kernel_rfl) rfl
instance:AX Tryz.prog 205:=Af Tryz.func205 (by kernel_rfl) rfl
instance:AX Tryz.prog 206:=Af Tryz.func206 (by kernel_rfl) rfl
instance:AX Tryz.prog 207:=Af Tryz.func207 (by kernel_rfl) rfl
instance:AX Tryz.prog 208:=Af Tryz.func208 (by kernel_rfl) rfl
instance:AX Tryz.prog 212:=Af Tryz.func212 (by kernel_rfl) rfl
instance:AX Tryz.prog 213:=Af Tryz.func213 (by kernel_rfl) rfl
instance:AX Tryz.prog 214:=Af Tryz.func214 (by kernel_rfl) rfl
instance:AX Tryz.prog 215:=Af Tryz.func215 (by kernel_rfl) rfl
instance:AX Tryz.prog 216:=Af Tryz.func216 (by kernel_rfl) rfl
instance:AX Tryz.prog 217:=Af Tryz.func217 (by kernel_rfl) rfl
instance:AX Tryz.prog 218:=Af Tryz.func218 (by kernel_rfl) rfl
instance:AX Tryz.prog 219:=Af Tryz.func219 (by kernel_rfl) rfl
instance:AX Tryz.prog 220:=Af Tryz.func220 (by kernel_rfl) rfl
instance:AX Tryz.prog 221:=Af Tryz.func221 (by kernel_rfl) rfl
instance:AX Tryz.prog 222:=Af Tryz.func222 (by kernel_rfl) rfl
instance:AX Tryz.prog 223:=Af Tryz.func223 (by kernel_rfl) rfl
instance:AX Tryz.prog 224:=Af Tryz.func224 (by kernel_rfl) rfl
instance:AX Tryz.prog 226:=Af Tryz.func226 (by kernel_rfl) rfl
instance:AX Tryz.prog 227:=Af Tryz.func227 (by kernel_rfl) rfl
instance:AX Tryz.prog 249:=Af Tryz.func249 (by kernel_rfl) rfl
theorem Dg:Tryz.prog.follows .mixedOrders=true:=by kernel_rfl
section
class G1(P:Program)(f:FuncId)(e:outParam (Array Value→Sem Value)):Prop where
 get:∀args w,(callFunc f args).run P w=((e args).run P w).andThen fun v w'=>.ok (.value v) w'
class K3(P:Program)(t:TypeId)(v:Value)(name:String)(f:outParam FuncId)(r:outParam Value):Prop where
 get:∀w,(method (P.types.size+Made.depth) t v name).run P w=.ok (f,r) w
theorem Zn{B:World}{H:HP}{b i:Nat}{v:Value}(h:B.cell? ⟨b,i,none⟩=some v):Rd B H b i v True:=⟨fun w hw _=>by
 have hb:b<B.heap.size:=by
  rcases Nat.lt_or_ge b B.heap.size with h1|h1
  ·exact h1
  ·simp [World.cell?,Array.getElem?_eq_none h1]at h
 have e:=hw.1.block b hb
 unfold World.cell? at h⊢
 rw [e];exact h⟩
section
variable{P:Program}{B:World}{n:Nat}{E:A6}{D:CK}{H:HP}{d:Option Tmp}{T T' ty:TypeId}{pos:String}{af:Array Edge}{g:Option (Nat×Bool)}{x y z:Operand}{ats:Array TypeId}
theorem KW{f:FuncId}{e:Array Value→Sem Value}{xs:List Operand}{vs:List Value}{v:Value}[hf:G1 P f e](hx:Dk E xs=some vs)(he:∀w,Sat B H w→(e vs.toArray).run P w=.ok v w):
  Aa P B n ⟨d,.call ⟨.value (.func f),xs.toArray,ats⟩,ty,pos,af,g⟩ E H v:=by
 intro a w h1 hw;simp only [execOp,resolve,List.map_toArray,Ih h1 hx,Act.eval,Deferred.ofValue,Sem.run_bind,Sem.run_pure,Result.andThen_ok,invoke]
 have:=hf.get vs.toArray w
 rw [he w hw]at this;simpa using this
theorem NR{f:FuncId}{e:Array Value→Sem Value}{xs:List Operand}{vs:List Value}{Post:Value→HP→Prop}[hf:G1 P f e](hx:Dk E xs=some vs)
  (he:∀w,Sat B H w→∃v w' H',(e vs.toArray).run P w=.ok v w'∧Post v H'∧Sat B H' w'):
  C7 P B n ⟨d,.call ⟨.value (.func f),xs.toArray,ats⟩,ty,pos,af,g⟩ E D H Post:=by
 intro a w h1 _ h3 K Q hk;obtain⟨v,w',H',hr,hp,hs⟩:=he w h3
 have hrun:(execOp a.eval ⟨d,.call ⟨.value (.func f),xs.toArray,ats⟩,ty,pos,af,g⟩).run P w=.ok (.value v) w':=by
  simp only [execOp,resolve,List.map_toArray,Ih h1 hx,Act.eval,Deferred.ofValue,Sem.run_bind,Sem.run_pure,Result.andThen_ok,invoke]
  have:=hf.get vs.toArray w
  rw [hr]at this;simpa using this
 simp only [Oper.wp,hrun,Oper.upon];exact hk v H' w' hp hs
theorem aJ{f:FuncId}{t:TypeId}{u r:Value}{name:String}[hm:K3 P t u name f r](vs:List Value)(w:World):
  (invoke (.fn (.method name) #[]) (#[.iface t u]++vs.toArray)).run P w=(callFunc f (r::vs).toArray).run P w:=by
 have h1:(#[Value.iface t u]++vs.toArray).extract 1 (#[Value.iface t u]++vs.toArray).size=vs.toArray:=by
  apply Array.toList_inj.1;simp
 have h2:(#[Value.iface t u]++vs.toArray)[0]?=some (.iface t u):=by simp
 simp only [invoke,h2,h1,callMethod,Sem.run_bind,run_program,Result.andThen_ok,hm.get];congr 2
 simp
theorem IC{f:FuncId}{t:TypeId}{u r v:Value}{name:String}{e:Array Value→Sem Value}{xs:List Operand}{vs:List Value}(hx:ev E x=some (.iface t u))[hm:K3 P t u name f r][hf:G1 P f e]
  (hxs:Dk E xs=some vs)(he:∀w,Sat B H w→(e (r::vs).toArray).run P w=.ok v w):
  Aa P B n ⟨d,.call ⟨.invoke x name,xs.toArray,ats⟩,ty,pos,af,g⟩ E H v:=by
 intro a w h1 hw;simp only [execOp,resolve,List.map_toArray,Ih h1 hxs,h1.ev hx,Sem.run_bind,Sem.run_pure,Result.andThen_ok,aJ (hm:=hm)];rw [hf.get,he w hw];rfl
theorem jj{f:FuncId}{t:TypeId}{u r:Value}{name:String}{xs:List Operand}{vs:List Value}{Post:Value→HP→Prop}(hx:ev E x=some (.iface t u))[hm:K3 P t u name f r][hf:AX P f]
  (hxs:Dk E xs=some vs)(hs:Fn P B f (r::vs) H Post):C7 P B n ⟨d,.call ⟨.invoke x name,xs.toArray,ats⟩,ty,pos,af,g⟩ E D H Post:=by
 intro a w h1 _ h3 K Q hk
 have hrun:(execOp a.eval ⟨d,.call ⟨.invoke x name,xs.toArray,ats⟩,ty,pos,af,g⟩).run P w=.ok (.enter f (r::vs).toArray) w:=by
  simp only [execOp,resolve,List.map_toArray,Ih h1 hxs,h1.ev hx,Sem.run_bind,Sem.run_pure,Result.andThen_ok,aJ (hm:=hm)];rw [hf.get]
 simp only [Oper.wp,hrun,Oper.upon];refine(hs w h3).mono ?_;rintro e w' ⟨v,H',rfl,hp,hs'⟩;exact hk v H' w' hp hs'
theorem Vk{u v:Value}{ok:Bool}(hx:ev E x=some u)(h:∀w,(Instr.typeAssert u T T' ok).run P w=.ok v w):Aa P B n ⟨d,.typeAssert x T T' ok,ty,pos,af,g⟩ E H v:=by
 intro a w he _;simp only [execOp,he.ev hx,Sem.run_bind,h,Result.andThen_ok,Sem.run_pure]
theorem Lu{op:BinOp}{u v r:Value}(hx:ev E x=some u)(hy:ev E y=some v)(hg:∀w,(eqGuard op T x y u v).run P w=.ok () w)(h:∀w,(binOp op T u v).run P w=.ok r w):
  Aa P B n ⟨d,.binOp op T x y T',ty,pos,af,g⟩ E H r:=by
 intro a w he _;simp only [execOp,he.ev hx,he.ev hy,Sem.run_bind,hg,h,Result.andThen_ok,Sem.run_pure]
theorem tU{i:Int}(hx:ev E x=some (.int .i64 i))(h: -9223372036854775808<i∧i≤9223372036854775808):Aa P B n ⟨d,.unOp .neg T x,ty,pos,af,g⟩ E H (.int .i64 (-i)):=by
 intro a w he _
 have e:IntKind.i64.wrap (0-i)= -i:=by rw [Int.zero_sub];exact IntWalk.i64_in _ (by omega)
 simp only [execOp,he.ev hx,Op.unary,Sem.run_bind];have h2:(Op.intArith .sub .i64 0 i).run P w=.ok (.int .i64 (IntKind.i64.wrap (0-i))) w:=rfl;rw [h2,e];rfl
end
end
section
def Fv(P:Program)(B:World)(f:FuncId)(args:List Value)(H:HP)(Post:Value→HP→Prop)(Px:List PanicEntry→HP→Prop):Prop:=
 ∀w,Sat B H w→Calls P f args.toArray w fun e w'=>(∃v H',e=.returned v∧Post v H'∧Sat B H' w')∨(∃c H',e=.panicked c∧Px c H'∧Sat B H' w')
theorem Fv.mono{P:Program}{B:World}{f:FuncId}{args:List Value}{H:HP}{A C:Value→HP→Prop}{Ax Cx:List PanicEntry→HP→Prop}(h:Fv P B f args H A Ax)
  (hc:∀v H',A v H'→C v H')(hx:∀c H',Ax c H'→Cx c H'):Fv P B f args H C Cx:=
 fun w hw=>(h w hw).mono fun _ _ h=>h.imp (fun⟨v,H',e,a,s⟩=>⟨v,H',e,hc v H' a,s⟩) (fun⟨c,H',e,a,s⟩=>⟨c,H',e,hx c H' a,s⟩)
abbrev pn(v:Value):List PanicEntry:=[{v,recovered:=false}]
section
variable{P:Program}{B:World}{n:Nat}{E:A6}{D:CK}{H R:HP}{d:Option Tmp}{T T' ty:TypeId}{pos:String}{af:Array Edge}{g:Option (Nat×Bool)}{x y z:Operand}
 {ops:Array Oper} {Q:Exit→Act→World→Prop} {rest:List Oper} {op:Op} {fuel last:Nat} {ls:Array Bool}
def P2(P:Program)(B:World)(n:Nat)(o:Oper)(E:A6)(D:CK)(H:HP)(Post:Value→HP→Prop)(Px:List PanicEntry→HP→Prop):Prop:=
 (∀c,o.op≠ .defer c)∧∀a w,DR n E a→a.defers=D.ds→Sat B H w→∀(K:Act→World→Prop) (Q:Exit→Act→World→Prop),
  (∀v H' w',Post v H'→Sat B H' w'→K (a.put o.dst v) w')→(∀c H' w',Px c H'→Sat B H' w'→Q (.panic c) a w')→o.wp P a w K Q
theorem D9{t:Nat}{Post:Value→HP→Prop}{Px:List PanicEntry→HP→Prop}(he:P2 P B n ⟨some t,op,ty,pos,af,none⟩ E D H Post Px)(ht:Nat.blt t n=true)
  (next:∀v H',Post v H'→WL P B ops Q rest n ((t,v)::E) D H')(px:∀c H',Px c H'→BT B Q (.panic c) n E D H'):WL P B ops Q (⟨some t,op,ty,pos,af,none⟩::rest) n E D H:=by
 intro a w h1 h2 h3;unfold wpListIn;rw [if_pos (by simp [Region.wanted])];exact PR he.1 (he.2 a w h1 h2 h3 _ _ (fun v H' w' hp hs=>next v H' hp _ w' (h1.put (by simpa using ht) v) (by simp [Act.put,h2]) hs) (fun c H' w' hp hs=>px c H' hp a w' h1 h2 hs))
theorem mf{Post:Value→HP→Prop}{Px:List PanicEntry→HP→Prop}(he:P2 P B n ⟨none,op,ty,pos,af,none⟩ E D H Post Px)
  (next:∀v H',Post v H'→WL P B ops Q rest n E D H')(px:∀c H',Px c H'→BT B Q (.panic c) n E D H'):WL P B ops Q (⟨none,op,ty,pos,af,none⟩::rest) n E D H:=by
 intro a w h1 h2 h3;unfold wpListIn;rw [if_pos (by simp [Region.wanted])];exact PR he.1 (he.2 a w h1 h2 h3 _ _ (fun v H' w' hp hs=>next v H' hp _ w' h1 h2 hs) (fun c H' w' hp hs=>px c H' hp a w' h1 h2 hs))
theorem HI{f:FuncId}{xs:List Operand}{vs:List Value}{ats:Array TypeId}{Post:Value→HP→Prop}{Px:List PanicEntry→HP→Prop}[hf:AX P f](hx:Dk E xs=some vs)(hs:Fv P B f vs H Post Px):
  P2 P B n ⟨d,.call ⟨.value (.func f),xs.toArray,ats⟩,ty,pos,af,g⟩ E D H Post Px:=by
 refine⟨fun c h=>by simp at h,?_⟩;intro a w h1 _ h3 K Q hk hp
 have hrun:(execOp a.eval ⟨d,.call ⟨.value (.func f),xs.toArray,ats⟩,ty,pos,af,g⟩).run P w=.ok (.enter f vs.toArray) w:=by
  simp only [execOp,resolve,List.map_toArray,Ih h1 hx,Act.eval,Deferred.ofValue,Sem.run_bind,Sem.run_pure,Result.andThen_ok,invoke];simp [hf.get]
 simp only [Oper.wp,hrun,Oper.upon];refine(hs w h3).mono ?_;rintro e w' (⟨v,H',rfl,hq,hs'⟩|⟨c,H',rfl,hq,hs'⟩)
 ·exact hk v H' w' hq hs'
 ·exact hp c H' w' hq hs'
theorem uh{f:FuncId}{t:Operand}{xs:List Operand}{vs us:List Value}{ats:Array TypeId}{Post:Value→HP→Prop}{Px:List PanicEntry→HP→Prop}[hf:AX P f]
  (ht:ev E t=some (.func (.func f) #[] us.toArray))(hx:Dk E xs=some vs)(hs:Fv P B f (vs++us) H Post Px):
  P2 P B n ⟨d,.call ⟨.value t,xs.toArray,ats⟩,ty,pos,af,g⟩ E D H Post Px:=by
 refine⟨fun c h=>by simp at h,?_⟩;intro a w h1 _ h3 K Q hk hp
 have hrun:(execOp a.eval ⟨d,.call ⟨.value t,xs.toArray,ats⟩,ty,pos,af,g⟩).run P w=.ok (.enter f (vs++us).toArray) w:=by
  simp only [execOp,resolve,List.map_toArray,Ih h1 hx,h1.ev ht,Deferred.ofValue,Sem.run_bind,Sem.run_pure,Result.andThen_ok,invoke];simp [hf.get]
 simp only [Oper.wp,hrun,Oper.upon];refine(hs w h3).mono ?_;rintro e w' (⟨v,H',rfl,hq,hs'⟩|⟨c,H',rfl,hq,hs'⟩)
 ·exact hk v H' w' hq hs'
 ·exact hp c H' w' hq hs'
theorem M! {t:TypeId}{v:Value}{Post:Value→HP→Prop}(hx:ev E x=some (.iface t v)):P2 P B n ⟨d,.panic x,ty,pos,af,g⟩ E D H Post (fun c H'=>c=pn (.iface t v)∧H'=H):=by
 refine⟨fun c h=>by simp at h,?_⟩;intro a w h1 _ h3 K Q hk hp
 have hrun:(execOp a.eval ⟨d,.panic x,ty,pos,af,g⟩).run P w=.halt (.panic (.iface t v)) w:=by
  simp [execOp,h1.ev hx,Instr.panic]
 simp only [Oper.wp,hrun,Oper.upon];exact hp _ _ _ ⟨rfl,rfl⟩ h3
variable{c:List PanicEntry}
theorem g7{K:Act→World→Prop}(h:BT B Q (.panic c) n E D H):BT B (Exit.then K Q) (.panic c) n E D H:=h
theorem yM{id:Nat}(h:BT B Q (.panic c) n E D H):BT B (Exit.inBlock id Q) (.panic c) n E D H:=h
def NE(P:Program)(B:World)(fn:Func)(Post:Value→HP→Prop)(Px:List PanicEntry→HP→Prop):Exit→Act→World→Prop:=
 bodyPost P fn fun e w'=>(∃v H',e=.returned v∧Post v H'∧Sat B H' w')∨(∃c H',e=.panicked c∧Px c H'∧Sat B H' w')
instance{P:Program}{B:World}{fn:Func}{Post:Value→HP→Prop}{Px:List PanicEntry→HP→Prop}:PQ (NE P B fn Post Px):=⟨by
 intro c a w d v h
 cases d<;>exact h,by rintro a w (⟨v,H',h,_⟩|⟨v,H',h,_⟩)<;>cases h⟩
theorem Ik{c:Code}{f:FuncId}{fn:Func}{args:List Value}{Post:Value→HP→Prop}{Px:List PanicEntry→HP→Prop}(hf:P.funcs[f]?=some fn)(hb:fn.body=some c)(hn:fn.ntmps=n)
  (ha:Nat.ble args.length n=true)(h:WP P B c (NE P B fn Post Px) n (KN 0 args) ⟨[],none⟩ H):Fv P B f args H Post Px:=by
 intro w hw;refine calls_of_wp hf hb (wpIn_wide.1 (h _ w ⟨?_,?_⟩ rfl hw))
 ·have:args.length≤n:=by simpa using ha
  simp [hn];omega
 ·intro t v e;obtain⟨_,h2⟩:=NQ args 0 t v e;simp only [Nat.sub_zero]at h2;have hlt:t<args.length:=(List.getElem?_eq_some_iff.1 h2).1;simp only [];rw [Array.getElem?_append_left (by simpa using hlt)];simpa using h2
theorem Np{r:Option Nat}{fn:Func}{Post:Value→HP→Prop}{Px:List PanicEntry→HP→Prop}(hp:Px c H):BT B (NE P B fn Post Px) (.panic c) n E ⟨[],r⟩ H:=
 fun _ w h1 h2 h3=>⟨h2,.inr ⟨_,_,rfl,hp,h3⟩⟩
theorem Gi{r:Option Nat}{fn:Func}{Post:Value→HP→Prop}{Px:List PanicEntry→HP→Prop}(H':HP)[hE:CE B H H'](hp:Px c H'):BT B (NE P B fn Post Px) (.panic c) n E ⟨[],r⟩ H:=
 fun _ w h1 h2 h3=>⟨h2,.inr ⟨_,_,rfl,hp,hE.get w h3⟩⟩
theorem Tp{r:Option Nat}{fn:Func}{Post:Value→HP→Prop}{Px:List PanicEntry→HP→Prop}{ts:List Nat}{vs:List Value}(hr:fn.results=(ts.map ResultVar.tmp).toArray)(hv:Dk E (ts.map Operand.tmp)=some vs)
  (hp:Post (Fk vs) H):BT B (NE P B fn Post Px) .ret n E ⟨[],r⟩ H:=
 fun _ w h1 h2 h3=>⟨h2,_,LK hr h1 hv w,.inl ⟨_,_,rfl,hp,h3⟩⟩
theorem uH{r:Option Nat}{fn:Func}{Post:Value→HP→Prop}{Px:List PanicEntry→HP→Prop}{ts:List Nat}{vs:List Value}(H':HP)[hE:CE B H H'](hr:fn.results=(ts.map ResultVar.tmp).toArray)(hv:Dk E (ts.map Operand.tmp)=some vs)
  (hp:Post (Fk vs) H'):BT B (NE P B fn Post Px) .ret n E ⟨[],r⟩ H:=
 fun _ w h1 h2 h3=>⟨h2,_,LK hr h1 hv w,.inl ⟨_,_,rfl,hp,hE.get w h3⟩⟩
theorem Pw{r:Option Nat}{fn:Func}{Post:Value→HP→Prop}{Px:List PanicEntry→HP→Prop}{ts:List Nat}{vs:List Value}(hr:fn.results=(ts.map ResultVar.tmp).toArray)(hv:Dk E (ts.map Operand.tmp)=some vs)
  (hp:Post (Fk vs) H):BT B (NE P B fn Post Px) .normal n E ⟨[],r⟩ H:=
 fun _ w h1 h2 h3=>⟨h2,_,LK hr h1 hv w,.inl ⟨_,_,rfl,hp,h3⟩⟩
theorem jb{t j tj:Nat}{want:Bool}(hj:(ops[j]?).bind (·.dst)=some tj)(hb:lk E tj=some undef)(ht:Nat.blt t n=true)
  (next:WL P B ops Q rest n ((t,undef)::E) D H):WL P B ops Q (⟨some t,op,ty,pos,af,some (j,want)⟩::rest) n E D H:=by
 intro a w h1 h2 h3
 have hy:yielded ops a.tmps j=none:=by
  have:=h1.2 _ _ hb
  unfold yielded;rw [hj,Option.bind_some,this];rfl
 unfold wpListIn;rw [if_neg (by simp [Region.wanted,hy])];exact⟨fun _ _=>trivial,next _ w (h1.put (by simpa using ht) undef) (by simp [Act.put,h2]) h3⟩
theorem A? (i:Nat){t j tj:Nat}{want:Bool}(hi:ops[i]?=some ⟨some t,op,ty,pos,af,some (j,want)⟩)(hk:Bt ops ls last i=true)[hq:PQ Q][hE:CE B H R](ht:Nat.blt t n=true)
  (hj:(ops[j]?).bind (·.dst)=some tj)(hb:lk E tj=some undef)
  (next:WA P B ops Q R last fuel (ls.setIfInBounds i true) n ((t,undef)::E) D H):
  WA P B ops Q R last (fuel+1) ls n E D H:=by
 intro a w h1 h2 h3
 have hy:yielded ops a.tmps j=none:=by
  have:=h1.2 _ _ hb
  unfold yielded;rw [hj,Option.bind_some,this];rfl
 simp only [Bt,Bool.and_eq_true]at hk;obtain⟨⟨⟨⟨hs,hf⟩,hr⟩,hl⟩,hcl⟩:=hk;refine Ti hi hs hl (fun c a w=>hq.get c a w _ _) fuel ls a w (Tt hcl) (Region.free_spec hi hf) (by simpa using hr) (.inr ⟨by simp [Region.wanted,hy],rfl⟩) (hE.get w h3) ?_;exact next _ w (h1.put (by simpa using ht) undef) (by simp [Act.put,h2]) h3
end
end
section
section
variable{P:Program}{B:World}{α:Type}[AB α]
theorem VG(b o i:Nat)(xs:List α)(s:List Value):AD b o xs s=AD b o (xs.take i) (AE (xs.drop i)++s):=by
 unfold AD;rw [←List.append_assoc,←E0,List.take_append_drop]
def R9(p:Option Addr)(b o c:Nat)(xs:List α)(s:List Value)(R:HP)(ys:List α)(v:Value)(H':HP):Prop:=
 (xs.length+ys.length≤c∧v=.slice p (xs.length+ys.length) c∧H'=AD b o (xs++ys) (s.drop (ys.length*AB.sz α))*R)∨
 (c<xs.length+ys.length∧∃b' c' s',v=.slice (some ⟨b',0,none⟩) (xs.length+ys.length) c'∧xs.length+ys.length≤c'∧(xs.length+ys.length)*AB.sz α+s'.length=c'*AB.sz α∧H'=AD b' 0 (xs++ys) s'*(AD b o xs s*R))
theorem Z5{R:HP}{b o:Nat}{p:Option Addr}{c:Nat}{xs ys:List α}{s:List Value}{sT xT:TypeId}{ats:Array TypeId}{e by_:Nat}{ty:TypeId}{x:Value}{w:World}{z:Value}
  (hT:P.underlying sT=some (.slice e))(ha0:ats[0]?=some sT)(ha1:ats[1]?=some xT)(hxT:∀k,P.underlying xT≠some (.int k))(hxT':∃d,P.underlying xT=some d)
  (hz:∀w,(sizeOf e).run P w=.ok (AB.sz α) w)(hi:∃i,(∀w,(typeInfo e).run P w=.ok i w)∧i.bytes=by_)(h0:∀w,(zeroValue e).run P w=.ok z w)(hzc:z.cells.size=AB.sz α)
  (hs:Sl p b o xs.length c)(hc:xs.length*AB.sz α+s.length=c*AB.sz α)
  (hlen:(Builtin.lenOf x).run P w=.ok ys.length w)
  (hx':∀w',Sat B (AD b o xs s*R) w'→(Builtin.firstCells (AB.sz α) ys.length x).run P w'=.ok (AE ys).toArray w')
  (hb:(xs.length+ys.length)*by_≤140737488355328)(hby:0<by_)(hw:Sat B (AD b o xs s*R) w):
  ∃v w',(Builtin.append_ ats ty #[.slice p xs.length c,x]).run P w=.ok v w'∧∃H',R9 p b o c xs s R ys v H'∧Sat B H' w':=by
 have hcells:=hx' w hw;obtain⟨dx,hdx⟩:=hxT';obtain⟨inf,hinf,rfl⟩:=hi;have hdx':∀k,dx≠ .int k:=fun k h=>hxT k (by rw [hdx,h])
 have hzero:(match dx with| .int _=>true|_=>false)=false:=by cases dx<;>first|rfl|exact absurd rfl (hdx' _)
 by_cases hn:xs.length+ys.length≤c
 ·by_cases hc0:c=0
  ·have hx0:xs=[]:=List.length_eq_zero_iff.1 (by omega);have hy0:ys=[]:=List.length_eq_zero_iff.1 (by omega);subst hx0 hy0 hc0
   have hrun:(Builtin.append_ ats ty #[.slice p ([]:List α).length 0,x]).run P w=.ok (.slice p 0 0) w:=by
    simp only [Builtin.append_,ha0,ha1];simp only [List.length_nil,Nat.add_zero]at*;simp [Bx hT,Bx hdx,hz,hlen,hcells,AE];cases p<;>simp [storeCells]
   exact⟨_,w,hrun,_,.inl ⟨by simp,rfl,rfl⟩,by simpa using hw⟩
  ·obtain rfl:=hs.1.resolve_left hc0;have hcm:=Nat.mul_le_mul_right (AB.sz α) hn;rw [Nat.add_mul]at hcm
   have hw2:Sat B (HP.AA b (o+xs.length*AB.sz α+0) s*(HP.AA b o (AE xs)*R)) w:=by
    rw [HP.C8,←HP.assoc,Nat.add_zero,←CD,←HP.Ft];exact hw
   obtain⟨w',h1,h2⟩:=Sat.LM (P:=P) (AE ys) (o+xs.length*AB.sz α) 0 s _ w (by rw [CD];omega) (Lw ys) hw2
   have ha:Addr.add ⟨b,o,none⟩ (xs.length*AB.sz α)=⟨b,o+xs.length*AB.sz α,none⟩:=by
    by_cases e2:xs.length*AB.sz α=0<;>simp [Addr.add,e2]
   have hrun:(Builtin.append_ ats ty #[.slice (some ⟨b,o,none⟩) xs.length c,x]).run P w=.ok (.slice (some ⟨b,o,none⟩) (xs.length+ys.length) c) w':=by
    simp only [Builtin.append_,ha0,ha1];simp [Bx hT,Bx hdx,hz,hlen,hn,hcells,ha,h1]
   refine⟨_,w',hrun,_,.inl ⟨hn,rfl,rfl⟩,?_⟩;unfold AD;rw [E0,List.append_assoc,HP.Ft,HP.assoc,HP.C8,CD xs,←Nat.add_zero (o+xs.length*AB.sz α)];rw [CD]at h2;exact h2
 ·have hby0:¬inf.bytes=0:=by omega
  have hg:¬281474976710656<Builtin.nextslicecap (xs.length+ys.length) c*inf.bytes:=by
   have:=growslice_fits (old:=c) (by omega) hb;omega
  have hfo:(Question.appendCap (xs.length+ys.length) c e).forced=false:=rfl
  have hold:(Builtin.firstCells (AB.sz α) xs.length (.slice p xs.length c)).run P w.drew=.ok (AE xs).toArray w.drew:=by
   have hwd:Sat B (AD b o xs s*R) w.drew:=hw.Jp;rcases hs.1 with h1|rfl
   ·have hx0:xs=[]:=List.length_eq_zero_iff.1 (by have:=hs.2;omega);subst hx0;cases p<;>simp [Builtin.firstCells,AE,loadCells,loadCellsFrom]
   ·simp only [Builtin.firstCells];exact AW.run (H:=AD b o xs s*R) inferInstance hwd
  have hnew:=hx' w.drew hw.Jp
  obtain⟨N,hN⟩:∃N,N=(Question.appendCap (xs.length+ys.length) c e).cut (w.tape w.drawn (Question.appendCap (xs.length+ys.length) c e)):=⟨_,rfl⟩
  have hle:xs.length+ys.length≤N:=by rw [hN];simp [Question.cut]
  have hrun:(Builtin.append_ ats ty #[.slice p xs.length c,x]).run P w=.ok (.slice (some ⟨w.heap.size,0,none⟩) (xs.length+ys.length) N)
    (w.drew.alloc (.cells ((AE xs).toArray++((AE ys).toArray++Builtin.zeroCells z.cells (N-(xs.length+ys.length)))) e)):=by
   simp only [Builtin.append_,ha0,ha1];simp [Bx hT,Bx hdx,hz,hlen,hn,hinf,hby0,hg,hfo,hold,hnew,h0,newRow,←hN]
  have hcm:=Nat.mul_le_mul_right (AB.sz α) hle;have hall:=(show Sat B (AD b o xs s*R) w.drew from hw.Jp).alloc ((AE xs).toArray++((AE ys).toArray++Builtin.zeroCells z.cells (N-(xs.length+ys.length)))) e;refine⟨_,_,hrun,_,.inr ⟨by omega,w.heap.size,N,(Builtin.zeroCells z.cells (N-(xs.length+ys.length))).toList,rfl,hle,?_,rfl⟩,?_⟩
  ·have e1:(Builtin.zeroCells z.cells (N-(xs.length+ys.length))).toList.length=(N-(xs.length+ys.length))*AB.sz α:=by rw [←hzc];simp [Builtin.zeroCells]
   rw [e1,Nat.sub_mul];omega
  ·have e2:((AE xs).toArray++((AE ys).toArray++Builtin.zeroCells z.cells (N-(xs.length+ys.length)))).toList=AE xs++(AE ys++(Builtin.zeroCells z.cells (N-(xs.length+ys.length))).toList):=by simp
   rw [e2]at hall;unfold AD at hall⊢;rw [E0,List.append_assoc];exact hall
theorem fJ{n:Nat}{E:A6}{D:CK}{R:HP}{d:Option Tmp}{sT xT ty e by_:Nat}{pos:String}{af:Array Edge}{g:Option (Nat×Bool)}{x y:Operand}{b o bb oo cc c:Nat}{p pp:Option Addr}
  {xs ys:List α}{s:List Value}{z:Value}[hT:Ar P sT (.slice e)][hT2:Ar P xT (.slice e)][hz:Bw P e (AB.sz α)][hi:FH P e by_][h0:BZ P e z]
  (hx:ev E x=some (.slice p xs.length c))(hs:Sl p b o xs.length c)(hc:xs.length*AB.sz α+s.length=c*AB.sz α)
  (hy:ev E y=some (.slice pp ys.length cc))(hs2:Sl pp bb oo ys.length cc)(hr:AW B (AD b o xs s*R) bb oo ys)(hzc:z.cells.size=AB.sz α)
  (hb:(xs.length+ys.length)*by_≤140737488355328)(hby:0<by_):
  C7 P B n ⟨d,.call ⟨.builtin .append,#[x,y],#[sT,xT]⟩,ty,pos,af,g⟩ E D (AD b o xs s*R) (fun v H'=>R9 p b o c xs s R ys v H'):=by
 intro a w h1 _ h3 K Q hk
 have hf:∀w',Sat B (AD b o xs s*R) w'→(Builtin.firstCells (AB.sz α) ys.length (.slice pp ys.length cc)).run P w'=.ok (AE ys).toArray w':=by
  intro w' hw';rcases hs2.1 with h4|rfl
  ·have hx0:ys=[]:=List.length_eq_zero_iff.1 (by have:=hs2.2;omega);subst hx0;cases pp<;>simp [Builtin.firstCells,AE,loadCells,loadCellsFrom]
  ·simp only [Builtin.firstCells];exact hr.run hw'
 obtain⟨v,w',hrun,H',hH,hw'⟩:=Z5 (P:=P) (B:=B) (R:=R) (b:=b) (o:=o) (p:=p) (c:=c) (xs:=xs) (ys:=ys) (s:=s) (sT:=sT) (xT:=xT) (ats:= #[sT,xT]) (e:=e) (by_:=by_) (ty:=ty)
  (x:=.slice pp ys.length cc) (w:=w) (z:=z) hT.get rfl rfl (fun k h=>by rw [hT2.get]at h;cases h) ⟨_,hT2.get⟩ hz.get hi.get h0.get hzc hs hc rfl
  (fun w2 hw2=>hf w2 hw2) hb hby h3
 have hrun2:(execOp a.eval ⟨d,.call ⟨.builtin .append,#[x,y],#[sT,xT]⟩,ty,pos,af,g⟩).run P w=.ok (.value v) w':=by
  simp [execOp,resolve,h1.ev hx,h1.ev hy,invoke,builtin,hrun]
 simp only [Oper.wp,hrun2,Oper.upon];exact hk v H' w' hH hw'
theorem XB{n:Nat}{E:A6}{D:CK}{R:HP}{d:Option Tmp}{sT xT ty e by_:Nat}{pos:String}{af:Array Edge}{g:Option (Nat×Bool)}{x y:Operand}{b o bb oo cc c:Nat}{p pp:Option Addr}
  {xs ys:List α}{s:List Value}{z:Value}[hT:Ar P sT (.slice e)][hT2:Ar P xT (.slice e)][hz:Bw P e (AB.sz α)][hi:FH P e by_][h0:BZ P e z]
  (hx:ev E x=some (.slice p xs.length c))(hs:Sl p b o xs.length c)(hc:xs.length*AB.sz α+s.length=c*AB.sz α)
  (hy:ev E y=some (.slice pp ys.length cc))(hs2:Sl pp bb oo ys.length cc)(hr:AW B (AD b o xs s*R) bb oo ys)(hzc:z.cells.size=AB.sz α)
  (hb:(xs.length+ys.length)*by_≤140737488355328)(hby:0<by_)(hin:xs.length+ys.length≤c):
  C7 P B n ⟨d,.call ⟨.builtin .append,#[x,y],#[sT,xT]⟩,ty,pos,af,g⟩ E D (AD b o xs s*R) (fun v H'=>v=.slice p (xs.length+ys.length) c∧H'=AD b o (xs++ys) (s.drop (ys.length*AB.sz α))*R):=by
 intro a w h1 h2 h3 K Q hk;refine fJ (hT:=hT) (hT2:=hT2) (hz:=hz) (hi:=hi) (h0:=h0) hx hs hc hy hs2 hr hzc hb hby a w h1 h2 h3 K Q fun v H' w' hp hw'=>?_;rcases hp with⟨_,rfl,rfl⟩|⟨h,_⟩
 ·exact hk _ _ w' ⟨rfl,rfl⟩ hw'
 ·omega
end
section
variable{P:Program}{B:World}{n:Nat}{E:A6}{D:CK}{H:HP}{d:Option Tmp}{T T' ty:TypeId}{pos:String}{af:Array Edge}{g:Option (Nat×Bool)}{x y z u:Operand}
theorem kr{p:Option Addr}{k c sz l h m:Nat}{e:TypeId}{ik jk mk:IntKind}[hT:Ar P T (.slice e)][hz:Bw P e sz](hx:ev E x=some (.slice p k c))(hy:ev E y=some (.int ik l))(hz':ev E z=some (.int jk h))(hu:ev E u=some (.int mk m))
  (hc:l≤h∧h≤m∧m≤c):Aa P B n ⟨d,.slice T x (some y) (some z) (some u),ty,pos,af,g⟩ E H (.slice (sp p m l sz) (h-l) (m-l)):=by
 intro a w he _;simp only [execOp,he.ev hx,Option.map_some,he.ev hy,he.ev hz',he.ev hu,Instr.sliceAt,Instr.slice,Instr.sliceBounds,Sem.run_bind,Bx hT.get,Result.andThen_ok,Sem.run_pure,G7 hc.1,G7 hc.2.1,G7 hc.2.2,hz.get,Option.isSome_some];rfl
theorem Xf{zc:Array Value}{n sz:Nat}(h:zc.size=sz):(Builtin.zeroCells zc n).toList.length=n*sz:=by rw [←h];simp [Builtin.zeroCells]
theorem f8{zc:Array Value}{n:Nat}(h:∀v∈zc.toList,v.oneCell'=true):∀v∈(Builtin.zeroCells zc n).toList,v.oneCell'=true:=by
 intro v hv;simp only [Builtin.zeroCells,Array.toList_map,Array.toList_range,List.mem_map,List.mem_range]at hv;obtain⟨i,hi,rfl⟩:=hv
 have hpos:0<zc.size:=by
  rcases Nat.eq_zero_or_pos zc.size with h0|h0
  ·rw [h0]at hi;simp at hi
  ·exact h0
 have hm:i%zc.size<zc.size:=Nat.mod_lt _ hpos;rw [getElem!_pos zc _ hm];exact h _ (by rw [←Array.getElem_toList];exact List.getElem_mem _)
theorem gh{sT e b o k c sz:Nat}{p:Option Addr}{l:List Value}{R:HP}{zv:Value}[hT:Ar P sT (.slice e)][hz:Bw P e sz][h0:BZ P e zv]
  (hx:ev E x=some (.slice p k c))(hs:Sl p b o k c)(hl:k*sz≤l.length)(hzc:zv.cells.size=sz)(hone:∀v∈zv.cells.toList,v.oneCell'=true):
  C7 P B n ⟨none,.call ⟨.builtin .clear,#[x],#[sT]⟩,ty,pos,af,g⟩ E D (HP.AA b o l*R) (fun v H'=>∃l',l'.length=l.length∧l'.drop (k*sz)=l.drop (k*sz)∧H'=HP.AA b o l'*R):=by
 intro a w h1 _ h3 K Q hk;by_cases hk0:k=0
 ·subst hk0
  have hrun:(execOp a.eval ⟨none,.call ⟨.builtin .clear,#[x],#[sT]⟩,ty,pos,af,g⟩).run P w=.ok (.value (.tuple #[])) w:=by
   cases p<;>simp [execOp,resolve,h1.ev hx,invoke,builtin,Builtin.clear_,Bx hT.get]
  simp only [Oper.wp,hrun,Oper.upon];exact hk _ _ w ⟨l,rfl,rfl,rfl⟩ h3
 ·obtain rfl:=hs.1.resolve_left (by have:=hs.2;omega);have hlen:=Xf (n:=k) hzc;obtain⟨w',k1,k2⟩:=Sat.LM (P:=P) (Builtin.zeroCells zv.cells k).toList o 0 l R w (by rw [hlen];exact hl) (f8 hone) h3
  have hrun:(execOp a.eval ⟨none,.call ⟨.builtin .clear,#[x],#[sT]⟩,ty,pos,af,g⟩).run P w=.ok (.value (.tuple #[])) w':=by
   obtain⟨k',rfl⟩:∃k',k=k'+1:=⟨k-1,by omega⟩
   simp [execOp,resolve,h1.ev hx,invoke,builtin,Builtin.clear_,Bx hT.get,h0.get,k1]
  simp only [Oper.wp,hrun,Oper.upon];exact hk _ _ w' ⟨_,by rw [List.length_append,List.length_drop,hlen];omega,by rw [List.drop_left' hlen,hlen],rfl⟩ k2
end
end
section
theorem JR{α:Type}{φ:α→HP→Prop}{v:α}{H:HP}(k:φ v H):∀v' H',v'=v∧H'=H→φ v' H':=by rintro _ _ ⟨rfl,rfl⟩;exact k
section
variable{P:Program}{B:World}{n:Nat}{E:A6}{D:CK}{H:HP}{ops:Array Oper}{Q:Exit→Act→World→Prop}{l:List Oper}{c:Code}{e:Exit}{d:Option Tmp}{ty:TypeId}{pos:String}{af:Array Edge}{g:Option (Nat×Bool)}{v:Value}
theorem ep(h:WL P B ops Q l n E D H):WL P B ops Q l n E D H:=h
theorem kc(h:WP P B c Q n E D H):WP P B c Q n E D H:=h
theorem uF(h:BT B Q e n E D H):BT B Q e n E D H:=h
theorem vM{x:Operand}(h:WL P B ops Q (⟨d,.move x,ty,pos,af,g⟩::l) n E D H):WL P B ops Q (⟨d,.move x,ty,pos,af,g⟩::l) n E D H:=h
theorem vx{x:Operand}(h:Aa P B n ⟨d,.move x,ty,pos,af,g⟩ E H v):Aa P B n ⟨d,.move x,ty,pos,af,g⟩ E H v:=h
theorem q9{x:Operand}(h:WL P B ops Q (⟨d,.assign x,ty,pos,af,g⟩::l) n E D H):WL P B ops Q (⟨d,.assign x,ty,pos,af,g⟩::l) n E D H:=h
theorem xh{x:Operand}(h:Aa P B n ⟨d,.assign x,ty,pos,af,g⟩ E H v):Aa P B n ⟨d,.assign x,ty,pos,af,g⟩ E H v:=h
theorem mj{T:TypeId}{x:Operand}{f:Nat}(h:WL P B ops Q (⟨d,.fieldAddr T x f,ty,pos,af,g⟩::l) n E D H):WL P B ops Q (⟨d,.fieldAddr T x f,ty,pos,af,g⟩::l) n E D H:=h
theorem vu{T:TypeId}{x:Operand}{f:Nat}(h:Aa P B n ⟨d,.fieldAddr T x f,ty,pos,af,g⟩ E H v):Aa P B n ⟨d,.fieldAddr T x f,ty,pos,af,g⟩ E H v:=h
theorem uU{T:TypeId}{x:Operand}(h:WL P B ops Q (⟨d,.load T x,ty,pos,af,g⟩::l) n E D H):WL P B ops Q (⟨d,.load T x,ty,pos,af,g⟩::l) n E D H:=h
theorem xj{T:TypeId}{x:Operand}(h:Aa P B n ⟨d,.load T x,ty,pos,af,g⟩ E H v):Aa P B n ⟨d,.load T x,ty,pos,af,g⟩ E H v:=h
theorem t7{x:Operand}(h:WL P B ops Q (⟨d,.nilCheck x,ty,pos,af,g⟩::l) n E D H):WL P B ops Q (⟨d,.nilCheck x,ty,pos,af,g⟩::l) n E D H:=h
theorem vj{x:Operand}(h:Aa P B n ⟨d,.nilCheck x,ty,pos,af,g⟩ E H v):Aa P B n ⟨d,.nilCheck x,ty,pos,af,g⟩ E H v:=h
theorem lw{x:Operand}{i:Nat}(h:WL P B ops Q (⟨d,.extract x i,ty,pos,af,g⟩::l) n E D H):WL P B ops Q (⟨d,.extract x i,ty,pos,af,g⟩::l) n E D H:=h
theorem xq{x:Operand}{i:Nat}(h:Aa P B n ⟨d,.extract x i,ty,pos,af,g⟩ E H v):Aa P B n ⟨d,.extract x i,ty,pos,af,g⟩ E H v:=h
theorem I! {b:Builtin}{xs:Array Operand}{ts:Array TypeId}(h:WL P B ops Q (⟨d,.call ⟨.builtin b,xs,ts⟩,ty,pos,af,g⟩::l) n E D H):WL P B ops Q (⟨d,.call ⟨.builtin b,xs,ts⟩,ty,pos,af,g⟩::l) n E D H:=h
theorem wa{b:Builtin}{xs:Array Operand}{ts:Array TypeId}(h:Aa P B n ⟨d,.call ⟨.builtin b,xs,ts⟩,ty,pos,af,g⟩ E H v):Aa P B n ⟨d,.call ⟨.builtin b,xs,ts⟩,ty,pos,af,g⟩ E H v:=h
theorem H! {T T1:TypeId}{x y:Operand}(h:WL P B ops Q (⟨d,.binOp .lss T x y T1,ty,pos,af,g⟩::l) n E D H):WL P B ops Q (⟨d,.binOp .lss T x y T1,ty,pos,af,g⟩::l) n E D H:=h
theorem vq{T T1:TypeId}{x y:Operand}(h:Aa P B n ⟨d,.binOp .lss T x y T1,ty,pos,af,g⟩ E H v):Aa P B n ⟨d,.binOp .lss T x y T1,ty,pos,af,g⟩ E H v:=h
theorem ig{x y z:Operand}(h:WL P B ops Q (⟨d,.pick x y z,ty,pos,af,g⟩::l) n E D H):WL P B ops Q (⟨d,.pick x y z,ty,pos,af,g⟩::l) n E D H:=h
theorem vw{x y z:Operand}(h:Aa P B n ⟨d,.pick x y z,ty,pos,af,g⟩ E H v):Aa P B n ⟨d,.pick x y z,ty,pos,af,g⟩ E H v:=h
theorem lr{T:TypeId}{x:Operand}(h:WL P B ops Q (⟨d,.unOp .not T x,ty,pos,af,g⟩::l) n E D H):WL P B ops Q (⟨d,.unOp .not T x,ty,pos,af,g⟩::l) n E D H:=h
theorem we{T:TypeId}{x:Operand}(h:Aa P B n ⟨d,.unOp .not T x,ty,pos,af,g⟩ E H v):Aa P B n ⟨d,.unOp .not T x,ty,pos,af,g⟩ E H v:=h
theorem fq{T:TypeId}{x y:Operand}(h:WL P B ops Q (⟨d,.indexAddr T x y,ty,pos,af,g⟩::l) n E D H):WL P B ops Q (⟨d,.indexAddr T x y,ty,pos,af,g⟩::l) n E D H:=h
theorem wj{T:TypeId}{x y:Operand}(h:Aa P B n ⟨d,.indexAddr T x y,ty,pos,af,g⟩ E H v):Aa P B n ⟨d,.indexAddr T x y,ty,pos,af,g⟩ E H v:=h
theorem uK{T T1:TypeId}{x y:Operand}(h:WL P B ops Q (⟨d,.binOp .add T x y T1,ty,pos,af,g⟩::l) n E D H):WL P B ops Q (⟨d,.binOp .add T x y T1,ty,pos,af,g⟩::l) n E D H:=h
theorem vn{T T1:TypeId}{x y:Operand}(h:Aa P B n ⟨d,.binOp .add T x y T1,ty,pos,af,g⟩ E H v):Aa P B n ⟨d,.binOp .add T x y T1,ty,pos,af,g⟩ E H v:=h
theorem ar{T:TypeId}{x y:Operand}(h:WL P B ops Q (⟨d,.store T x y,ty,pos,af,g⟩::l) n E D H):WL P B ops Q (⟨d,.store T x y,ty,pos,af,g⟩::l) n E D H:=h
theorem vL{i:Nat}(h:WP P B (.region i ops false) Q n E D H):WP P B (.region i ops false) Q n E D H:=h
end
structure Ca(p:Prop):Prop where
 get:p
theorem J1{G' G:Prop}(k:G')(h:Ca G'→G:=by
 intro k
 (first
  |((with_reducible refine ep ?_);(first
   |(with_reducible refine cr ?_)
   |((with_reducible refine vM ?_);refine GZ (UP rfl) rfl ?_)
   |((with_reducible refine mj ?_);refine GZ (Ww rfl) rfl ?_)
   |((with_reducible refine uU ?_);(first|refine GZ (Fo rfl (by first|trivial|omega)) rfl ?_|refine GZ (Dp rfl rfl) rfl ?_))
   |((with_reducible refine t7 ?_);refine GZ (X' rfl) rfl ?_)
   |((with_reducible refine q9 ?_);refine GZ (FK rfl) rfl ?_)
   |((with_reducible refine lw ?_);refine GZ (bD rfl rfl) rfl ?_)
   |((with_reducible refine I! ?_);(first|refine GZ (pC rfl) rfl ?_|refine GZ (V9 rfl) rfl ?_|refine GZ (xA rfl) rfl ?_))
   |((with_reducible refine H! ?_);refine GZ (GH rfl rfl) rfl ?_)
   |((with_reducible refine ig ?_);refine GZ (ml rfl rfl rfl) rfl ?_)
   |((with_reducible refine lr ?_);refine GZ (wD rfl) rfl ?_)
   |((with_reducible refine fq ?_);refine GZ (YL rfl rfl (by omega)) rfl ?_)
   |((with_reducible refine uK ?_);refine GZ (Kb rfl rfl (by omega)) rfl ?_)
   |((with_reducible refine ar ?_);refine Bv (EG rfl rfl rfl (by first|trivial|omega)) (JR ?_))))
  |((with_reducible refine kc ?_);(first
   |(with_reducible refine wY ?_)
   |((with_reducible refine vL ?_);refine u6 rfl ?_)
   |(with_reducible refine ij ?_)
   |(with_reducible refine t0 ?_)
   |(with_reducible refine gv ?_)
   |(with_reducible refine W! ?_)))
  |((with_reducible refine uF ?_);(first
   |(with_reducible refine iJ ?_)
   |(with_reducible refine lK ?_)
   |(with_reducible refine cJ ?_)
   |(with_reducible refine lG ?_)
   |(with_reducible refine aF ?_)
   |(with_reducible refine ZP ?_)
   |(with_reducible refine Zg ?_)
   |(with_reducible refine oB ?_)
   |refine na rfl ?_
   |refine iJ ?_
   |refine lK ?_
   |refine cJ ?_
   |refine lG ?_
   |refine aF ?_
   |refine ZP ?_
   |refine Zg ?_
   |refine oB ?_)))
 exact k.get):G:=h ⟨k⟩
theorem J2{G' G:Prop}(k:G')(h:Ca G'→G:=by intro k;(iterate 2 refine J1 ?_);exact k.get):G:=h ⟨k⟩
theorem J3{G' G:Prop}(k:G')(h:Ca G'→G:=by intro k;(iterate 3 refine J1 ?_);exact k.get):G:=h ⟨k⟩
theorem J4{G' G:Prop}(k:G')(h:Ca G'→G:=by intro k;(iterate 4 refine J1 ?_);exact k.get):G:=h ⟨k⟩
theorem J5{G' G:Prop}(k:G')(h:Ca G'→G:=by intro k;(iterate 5 refine J1 ?_);exact k.get):G:=h ⟨k⟩
theorem J6{G' G:Prop}(k:G')(h:Ca G'→G:=by intro k;(iterate 6 refine J1 ?_);exact k.get):G:=h ⟨k⟩
theorem J7{G' G:Prop}(k:G')(h:Ca G'→G:=by intro k;(iterate 7 refine J1 ?_);exact k.get):G:=h ⟨k⟩
theorem J8{G' G:Prop}(k:G')(h:Ca G'→G:=by intro k;(iterate 8 refine J1 ?_);exact k.get):G:=h ⟨k⟩
theorem J9{G' G:Prop}(k:G')(h:Ca G'→G:=by intro k;(iterate 9 refine J1 ?_);exact k.get):G:=h ⟨k⟩
theorem By{G' G:Prop}(k:G')(h:Ca G'→G:=by intro k;(iterate 10 refine J1 ?_);exact k.get):G:=h ⟨k⟩
theorem n4{G' G:Prop}(k:G')(h:Ca G'→G:=by intro k;(iterate 11 refine J1 ?_);exact k.get):G:=h ⟨k⟩
theorem CR{G' G:Prop}(k:G')(h:Ca G'→G:=by intro k;(iterate 12 refine J1 ?_);exact k.get):G:=h ⟨k⟩
theorem EP{G' G:Prop}(k:G')(h:Ca G'→G:=by intro k;(iterate 13 refine J1 ?_);exact k.get):G:=h ⟨k⟩
theorem FL{G' G:Prop}(k:G')(h:Ca G'→G:=by intro k;(iterate 14 refine J1 ?_);exact k.get):G:=h ⟨k⟩
theorem Iw{G' G:Prop}(k:G')(h:Ca G'→G:=by intro k;(iterate 15 refine J1 ?_);exact k.get):G:=h ⟨k⟩
theorem YB{G' G:Prop}(k:G')(h:Ca G'→G:=by intro k;(iterate 16 refine J1 ?_);exact k.get):G:=h ⟨k⟩
theorem E_{G' G:Prop}(k:G')(h:Ca G'→G:=by intro k;(iterate 17 refine J1 ?_);exact k.get):G:=h ⟨k⟩
theorem D_{G' G:Prop}(k:G')(h:Ca G'→G:=by intro k;(iterate 18 refine J1 ?_);exact k.get):G:=h ⟨k⟩
theorem mJ{G' G:Prop}(k:G')(h:Ca G'→G:=by intro k;(iterate 19 refine J1 ?_);exact k.get):G:=h ⟨k⟩
theorem dw{G' G:Prop}(k:G')(h:Ca G'→G:=by intro k;(iterate 20 refine J1 ?_);exact k.get):G:=h ⟨k⟩
theorem Yo{G' G:Prop}(k:G')(h:Ca G'→G:=by intro k;(iterate 21 refine J1 ?_);exact k.get):G:=h ⟨k⟩
theorem xn{G' G:Prop}(k:G')(h:Ca G'→G:=by intro k;(iterate 22 refine J1 ?_);exact k.get):G:=h ⟨k⟩
theorem xk{G' G:Prop}(k:G')(h:Ca G'→G:=by intro k;(iterate 23 refine J1 ?_);exact k.get):G:=h ⟨k⟩
theorem df{G' G:Prop}(k:G')(h:Ca G'→G:=by intro k;(iterate 24 refine J1 ?_);exact k.get):G:=h ⟨k⟩
theorem vt{G' G:Prop}(k:G')(h:Ca G'→G:=by intro k;(iterate 25 refine J1 ?_);exact k.get):G:=h ⟨k⟩
theorem vm{G' G:Prop}(k:G')(h:Ca G'→G:=by intro k;(iterate 26 refine J1 ?_);exact k.get):G:=h ⟨k⟩
theorem ab{G' G:Prop}(k:G')(h:Ca G'→G:=by intro k;(iterate 27 refine J1 ?_);exact k.get):G:=h ⟨k⟩
theorem vh{G' G:Prop}(k:G')(h:Ca G'→G:=by intro k;(iterate 28 refine J1 ?_);exact k.get):G:=h ⟨k⟩
theorem vy{G' G:Prop}(k:G')(h:Ca G'→G:=by intro k;(iterate 29 refine J1 ?_);exact k.get):G:=h ⟨k⟩
theorem wg{G' G:Prop}(k:G')(h:Ca G'→G:=by intro k;(iterate 30 refine J1 ?_);exact k.get):G:=h ⟨k⟩
theorem vz{G' G:Prop}(k:G')(h:Ca G'→G:=by intro k;(iterate 31 refine J1 ?_);exact k.get):G:=h ⟨k⟩
theorem vf{G' G:Prop}(k:G')(h:Ca G'→G:=by intro k;(iterate 32 refine J1 ?_);exact k.get):G:=h ⟨k⟩
theorem W_{G' G:Prop}(k:G')(h:Ca G'→G:=by intro k;(iterate 33 refine J1 ?_);exact k.get):G:=h ⟨k⟩
theorem vg{G' G:Prop}(k:G')(h:Ca G'→G:=by intro k;(iterate 34 refine J1 ?_);exact k.get):G:=h ⟨k⟩
theorem xe{G' G:Prop}(k:G')(h:Ca G'→G:=by intro k;(iterate 35 refine J1 ?_);exact k.get):G:=h ⟨k⟩
theorem wn{G' G:Prop}(k:G')(h:Ca G'→G:=by intro k;(iterate 36 refine J1 ?_);exact k.get):G:=h ⟨k⟩
theorem xg{G' G:Prop}(k:G')(h:Ca G'→G:=by intro k;(iterate 37 refine J1 ?_);exact k.get):G:=h ⟨k⟩
theorem wu{G' G:Prop}(k:G')(h:Ca G'→G:=by intro k;(iterate 38 refine J1 ?_);exact k.get):G:=h ⟨k⟩
theorem vl{G' G:Prop}(k:G')(h:Ca G'→G:=by intro k;(iterate 39 refine J1 ?_);exact k.get):G:=h ⟨k⟩
theorem wc{G' G:Prop}(k:G')(h:Ca G'→G:=by intro k;(iterate 40 refine J1 ?_);exact k.get):G:=h ⟨k⟩
section
variable{P:Program}{B:World}{n:Nat}{E:A6}{D:CK}{H R:HP}{ops:Array Oper}{Q:Exit→Act→World→Prop}{fuel last:Nat}{ls:Array Bool}{op:Op}{ty:TypeId}{pos:String}{af:Array Edge}{rest:List Oper}
theorem JT(i:Nat){t:Nat}{v:Value}(hi:ops[i]?=some ⟨some t,op,ty,pos,af,none⟩)(hv:Aa P B n ⟨some t,op,ty,pos,af,none⟩ E R v)
  (next:WA P B ops Q R last fuel (ls.setIfInBounds i true) n ((t,v)::E) D H)[hq:PQ Q][hE:CE B H R](hk:Bt ops ls last i=true:=by kernel_rfl)(ht:Nat.blt t n=true:=by rfl):
  WA P B ops Q R last (fuel+1) ls n E D H:=Ln i hi hk ht hv next
theorem Jm(i:Nat){t:Nat}{x:Operand}{v:Value}(next:WA P B ops Q R last fuel (ls.setIfInBounds i true) n ((t,v)::E) D H)[hq:PQ Q][hE:CE B H R]
  (hi:ops[i]?=some ⟨some t,.move x,ty,pos,af,none⟩:=by rfl)(hx:ev E x=some v:=by rfl)(hk:Bt ops ls last i=true:=by kernel_rfl)(ht:Nat.blt t n=true:=by rfl):
  WA P B ops Q R last (fuel+1) ls n E D H:=Ln i hi hk ht (UP hx) next
theorem Ja(i:Nat){t:Nat}{x:Operand}{v:Value}(next:WA P B ops Q R last fuel (ls.setIfInBounds i true) n ((t,v)::E) D H)[hq:PQ Q][hE:CE B H R]
  (hi:ops[i]?=some ⟨some t,.assign x,ty,pos,af,none⟩:=by rfl)(hx:ev E x=some v:=by rfl)(hk:Bt ops ls last i=true:=by kernel_rfl)(ht:Nat.blt t n=true:=by rfl):
  WA P B ops Q R last (fuel+1) ls n E D H:=Ln i hi hk ht (FK hx) next
theorem Jf(i:Nat){t:Nat}{T:TypeId}{x:Operand}{f k b o:Nat}(next:WA P B ops Q R last fuel (ls.setIfInBounds i true) n ((t,.pointer (some ⟨b,o+k,none⟩))::E) D H)[hq:PQ Q][hE:CE B H R]
  (hi:ops[i]?=some ⟨some t,.fieldAddr T x f,ty,pos,af,none⟩:=by rfl)(hx:ev E x=some (.pointer (some ⟨b,o,none⟩)):=by rfl)[hf:An P T f k](hk:Bt ops ls last i=true:=by kernel_rfl)(ht:Nat.blt t n=true:=by rfl):
  WA P B ops Q R last (fuel+1) ls n E D H:=Ln i hi hk ht (Ww hx) next
theorem Jn(i:Nat){t:Nat}{x:Operand}{p:Addr}(next:WA P B ops Q R last fuel (ls.setIfInBounds i true) n ((t,.pointer (some p))::E) D H)[hq:PQ Q][hE:CE B H R]
  (hi:ops[i]?=some ⟨some t,.nilCheck x,ty,pos,af,none⟩:=by rfl)(hx:ev E x=some (.pointer (some p)):=by rfl)(hk:Bt ops ls last i=true:=by kernel_rfl)(ht:Nat.blt t n=true:=by rfl):
  WA P B ops Q R last (fuel+1) ls n E D H:=Ln i hi hk ht (X' hx) next
theorem Jd(i:Nat){t:Nat}{T:TypeId}{x:Operand}{b o:Nat}{v:Value}(next:WA P B ops Q R last fuel (ls.setIfInBounds i true) n ((t,v)::E) D H)[hq:PQ Q][hE:CE B H R]
  (hi:ops[i]?=some ⟨some t,.load T x,ty,pos,af,none⟩:=by rfl)(hx:ev E x=some (.pointer (some ⟨b,o,none⟩)):=by rfl)[hT:CQ P T][hr:Rd B R b o v True](hk:Bt ops ls last i=true:=by kernel_rfl)(ht:Nat.blt t n=true:=by rfl):
  WA P B ops Q R last (fuel+1) ls n E D H:=Ln i hi hk ht (Fo hx trivial) next
theorem JN(i:Nat){t j tj:Nat}{b want:Bool}(hi:ops[i]?=some ⟨some t,op,ty,pos,af,some (j,want)⟩)(hw:b= !want)(next:WA P B ops Q R last fuel (ls.setIfInBounds i true) n ((t,undef)::E) D H)[hq:PQ Q][hE:CE B H R]
  (hj:(ops[j]?).bind (·.dst)=some tj:=by rfl)(hb:lk E tj=some (.bool b):=by rfl)(hk:Bt ops ls last i=true:=by kernel_rfl)(ht:Nat.blt t n=true:=by rfl):
  WA P B ops Q R last (fuel+1) ls n E D H:=DU i hi hk ht hj hb hw next
theorem JU(i:Nat){t j tj:Nat}{want:Bool}(next:WA P B ops Q R last fuel (ls.setIfInBounds i true) n ((t,undef)::E) D H)[hq:PQ Q][hE:CE B H R]
  (hi:ops[i]?=some ⟨some t,op,ty,pos,af,some (j,want)⟩:=by rfl)(hj:(ops[j]?).bind (·.dst)=some tj:=by rfl)(hb:lk E tj=some undef:=by rfl)(hk:Bt ops ls last i=true:=by kernel_rfl)(ht:Nat.blt t n=true:=by rfl):
  WA P B ops Q R last (fuel+1) ls n E D H:=A? i hi hk ht hj hb next
theorem JY(i:Nat){t j tj:Nat}{v:Value}{b want:Bool}(hi:ops[i]?=some ⟨some t,op,ty,pos,af,some (j,want)⟩)(hw:b=want)(hv:Aa P B n ⟨some t,op,ty,pos,af,none⟩ E R v)
  (next:WA P B ops Q R last fuel (ls.setIfInBounds i true) n ((t,v)::E) D H)[hq:PQ Q][hE:CE B H R](hj:(ops[j]?).bind (·.dst)=some tj:=by rfl)(hb:lk E tj=some (.bool b):=by rfl)(hk:Bt ops ls last i=true:=by kernel_rfl)(ht:Nat.blt t n=true:=by rfl):
  WA P B ops Q R last (fuel+1) ls n E D H:=Is i hi hk ht hj hb hw hv next
theorem JL{t:Nat}{v:Value}(hv:Aa P B n ⟨some t,op,ty,pos,af,none⟩ E H v)(next:WL P B ops Q rest n ((t,v)::E) D H)(ht:Nat.blt t n=true:=by rfl):
  WL P B ops Q (⟨some t,op,ty,pos,af,none⟩::rest) n E D H:=GZ hv ht next
theorem JG{t j tj:Nat}{b want:Bool}(hw:b=want)(yes:WL P B ops Q (⟨some t,op,ty,pos,af,none⟩::rest) n E D H)(hj:(ops[j]?).bind (·.dst)=some tj:=by rfl)(hb:lk E tj=some (.bool b):=by rfl)(ht:Nat.blt t n=true:=by rfl):
  WL P B ops Q (⟨some t,op,ty,pos,af,some (j,want)⟩::rest) n E D H:=Qt hj hb ht hw yes
theorem JH{t j tj:Nat}{b want:Bool}(hw:b= !want)(no:WL P B ops Q rest n ((t,undef)::E) D H)(hj:(ops[j]?).bind (·.dst)=some tj:=by rfl)(hb:lk E tj=some (.bool b):=by rfl)(ht:Nat.blt t n=true:=by rfl):
  WL P B ops Q (⟨some t,op,ty,pos,af,some (j,want)⟩::rest) n E D H:=oQ hj hb ht hw no
theorem JD(h:BT B Q .normal n E D H)(hr:Region.ready .any ops ls=[]:=by kernel_rfl):WA P B ops Q R last fuel ls n E D H:=ew hr h
end
section
variable{P:Program}{B:World}{n:Nat}{E:A6}{D:CK}{H:HP}{ops:Array Oper}{Q:Exit→Act→World→Prop}{rest:List Oper}{op:Op}{ty:TypeId}{pos:String}{af:Array Edge}{t:Nat}{Post:Value→HP→Prop}{x y:Code}{u:Operand}{r:Option Nat}{fn:Func}{ts:List Nat}{vs:List Value}
theorem mI{f:FuncId}{args:List Value}{c:Code}(h1:P.funcs[f]?=some fn)(h:WP P B c (Ip P B fn Post) n (KN 0 args) {ds:=[]} H)(h2:fn.body=some c:=by rfl)(h3:fn.ntmps=n:=by rfl)(h4:args.length.ble n=true:=by rfl):Fn P B f args H Post:=tY h1 h2 h3 h4 h
theorem mE{f:FuncId}{xs:List Operand}{ats:Array TypeId}[hf:AX P f](hx:Dk E xs=some vs)(hc:Fn P B f vs H Post)(k:∀(v:Value) (H':HP),Post v H'→WL P B ops Q rest n ((t,v)::E) D H')(ht:t.blt n=true:=by rfl):
  WL P B ops Q ({dst:=some t,op:=Op.call {callee:=Callee.value (Operand.func f),args:=xs.toArray,argTypes:=ats},type:=ty,pos:=pos,after:=af,guard:=none}::rest) n E D H:=AV (BK hx hc) ht k
theorem mC{p:Prop}[inst:Decidable p](h1:p→WP P B x Q n E D H)(h2:¬p→WP P B y Q n E D H)(h:ev E u=some (Value.bool (decide p)):=by rfl):WP P B (Code.cond u x y) Q n E D H:=uk h h1 h2
theorem mc{b:Bool}(h1:b=true→WP P B x Q n E D H)(h2:b=false→WP P B y Q n E D H)(h:ev E u=some (Value.bool b):=by rfl):WP P B (Code.cond u x y) Q n E D H:=Rs h h1 h2
theorem mR(ts:List Nat)(H':HP)(hr:fn.results=(List.map ResultVar.tmp ts).toArray)(hv:Dk E (List.map Operand.tmp ts)=some vs)[hE:CE B H H'](h:Post (Fk vs) H'):BT B (Ip P B fn Post) Exit.ret n E {ds:=[],r:=r} H:=fd H' hr hv h
theorem mr(ts:List Nat)(hr:fn.results=(List.map ResultVar.tmp ts).toArray)(hv:Dk E (List.map Operand.tmp ts)=some vs)(h:Post (Fk vs) H):BT B (Ip P B fn Post) Exit.ret n E {ds:=[],r:=r} H:=lQ hr hv h
theorem mA{id:Nat}(last k:Nat)[hq:PQ Q](h:WA P B ops Q H last k (Array.replicate k false) n E D H)(h1:P.follows Departure.mixedOrders=true:=by exact Dg)(h2:ops.size=k:=by rfl)(h3:LI ops=true:=by kernel_rfl):WP P B (Code.region id ops true) Q n E D H:=mg last k h1 h2 h3 h
end
end
end Go.Proofs.YtgfdlpcdjklcoaaGreatDoor
