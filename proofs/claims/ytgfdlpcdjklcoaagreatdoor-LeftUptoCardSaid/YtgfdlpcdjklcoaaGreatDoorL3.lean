/- A part of this proof: steps of the program, plain facts; no condition. -/
import Derived.Test.YtgfdlpcdjklcoaaGreatDoorL2
import Derived.Test.YtgfdlpcdjklcoaaGreatDoorProg
import Derived.KernelRfl
import Derived.Laws.Externs
import Derived.RecoverIn
namespace Go.Proofs.YtgfdlpcdjklcoaaGreatDoor
open Go Go.RowKit
set_option linter.unusedVariables false
theorem Aj{P :Program}{f :FuncId}{fn :Func}{c :Code}(hf :P.funcs[f]? =some fn)(hn :(fn.name == "runtime.NumGoroutine") =false)(hb :fn.body =some c) :Ac P f :=
 ⟨fun args w=>by simp only [callFunc,Sem.run_bind,run_program,Result.andThen_ok,hf,hn,hb];rfl⟩
instance:Au Tryz.prog 3 (.int .i64):=⟨Tryz.underlying3⟩
instance:BQ Tryz.prog 3 (.int .i64 0):=⟨Tryz.zeroValue3⟩
instance:CD Tryz.prog 3:=⟨fun _=>by kernel_rfl,fun _=>by kernel_rfl⟩
instance:CD Tryz.prog 4:=⟨fun _=>by kernel_rfl,fun _=>by kernel_rfl⟩
instance:Au Tryz.prog 5 (.int .u8):=⟨Tryz.underlying5⟩
instance:BQ Tryz.prog 5 (.int .u8 0):=⟨Tryz.zeroValue5⟩
instance:Bj Tryz.prog 5 1:=⟨fun _=>by kernel_rfl⟩
instance:FA Tryz.prog 5 1:=⟨Tryz.t5,Tryz.typeInfo5,by kernel_rfl⟩
instance:CD Tryz.prog 5:=⟨fun _=>by kernel_rfl,fun _=>by kernel_rfl⟩
instance:Au Tryz.prog 9 (.string):=⟨Tryz.underlying9⟩
instance:BQ Tryz.prog 9 (.string {data:= #[]}):=⟨Tryz.zeroValue9⟩
instance:Bj Tryz.prog 9 1:=⟨fun _=>by kernel_rfl⟩
instance:FA Tryz.prog 9 16:=⟨Tryz.t9,Tryz.typeInfo9,by kernel_rfl⟩
instance:CD Tryz.prog 9:=⟨fun _=>by kernel_rfl,fun _=>by kernel_rfl⟩
instance:Au Tryz.prog 24 (.array 16 5):=⟨Tryz.underlying24⟩
instance:BQ Tryz.prog 24 (.agg #[.int .u8 0,.int .u8 0,.int .u8 0,.int .u8 0,.int .u8 0,.int .u8 0,.int .u8 0,.int .u8 0,.int .u8 0,.int .u8 0,.int .u8 0,.int .u8 0,.int .u8 0,.int .u8 0,.int .u8 0,.int .u8 0]):=⟨Tryz.zeroValue24⟩
instance:Ea Tryz.prog 24 16:=⟨fun _=>by kernel_rfl,fun _=>by kernel_rfl⟩
instance:Au Tryz.prog 27 (.slice 97):=⟨Tryz.underlying27⟩
instance:Au Tryz.prog 30 (.pointer 64):=⟨Tryz.underlying30⟩
instance:BQ Tryz.prog 35 (.agg #[.int .i64 0,.int .i64 0]):=⟨Tryz.zeroValue35⟩
instance:Ea Tryz.prog 35 2:=⟨fun _=>by kernel_rfl,fun _=>by kernel_rfl⟩
instance:Ee Tryz.prog 35 #[(0,1),(1,1)]:=⟨_,Tryz.underlying35,fun _=>by kernel_rfl⟩
instance:Az Tryz.prog 35 0 0:=⟨_,Tryz.underlying35,_,rfl,rfl,1,fun _=>by kernel_rfl,by decide⟩
instance:Az Tryz.prog 35 1 1:=⟨_,Tryz.underlying35,_,rfl,rfl,1,fun _=>by kernel_rfl,by decide⟩
instance:Au Tryz.prog 37 (.int .u64):=⟨Tryz.underlying37⟩
instance:BQ Tryz.prog 37 (.int .u64 0):=⟨Tryz.zeroValue37⟩
instance:Bj Tryz.prog 37 1:=⟨fun _=>by kernel_rfl⟩
instance:FA Tryz.prog 37 8:=⟨Tryz.t37,Tryz.typeInfo37,by kernel_rfl⟩
instance:CD Tryz.prog 37:=⟨fun _=>by kernel_rfl,fun _=>by kernel_rfl⟩
instance:BQ Tryz.prog 39 (.agg #[.int .i64 0,.int .i64 0,.int .i64 0,.int .u64 0,.string {data:= #[]}]):=⟨Tryz.zeroValue39⟩
instance:Ea Tryz.prog 39 5:=⟨fun _=>by kernel_rfl,fun _=>by kernel_rfl⟩
instance:Ee Tryz.prog 39 #[(0,1),(1,1),(2,1),(3,1),(4,1)]:=⟨_,Tryz.underlying39,fun _=>by kernel_rfl⟩
instance:Az Tryz.prog 39 0 0:=⟨_,Tryz.underlying39,_,rfl,rfl,1,fun _=>by kernel_rfl,by decide⟩
instance:Az Tryz.prog 39 1 1:=⟨_,Tryz.underlying39,_,rfl,rfl,1,fun _=>by kernel_rfl,by decide⟩
instance:Az Tryz.prog 39 2 2:=⟨_,Tryz.underlying39,_,rfl,rfl,1,fun _=>by kernel_rfl,by decide⟩
instance:Az Tryz.prog 39 3 3:=⟨_,Tryz.underlying39,_,rfl,rfl,1,fun _=>by kernel_rfl,by decide⟩
instance:Az Tryz.prog 39 4 4:=⟨_,Tryz.underlying39,_,rfl,rfl,1,fun _=>by kernel_rfl,by decide⟩
instance:Au Tryz.prog 40 (.pointer 184):=⟨Tryz.underlying40⟩
instance:BQ Tryz.prog 40 (.pointer none):=⟨Tryz.zeroValue40⟩
instance:Bj Tryz.prog 40 1:=⟨fun _=>by kernel_rfl⟩
instance:FA Tryz.prog 40 8:=⟨Tryz.t40,Tryz.typeInfo40,by kernel_rfl⟩
instance:CD Tryz.prog 40:=⟨fun _=>by kernel_rfl,fun _=>by kernel_rfl⟩
instance:Au Tryz.prog 41 (.int .i64):=⟨Tryz.underlying41⟩
instance:BQ Tryz.prog 41 (.int .i64 0):=⟨Tryz.zeroValue41⟩
instance:CD Tryz.prog 41:=⟨fun _=>by kernel_rfl,fun _=>by kernel_rfl⟩
instance:Au Tryz.prog 51 (.slice 9):=⟨Tryz.underlying51⟩
instance:CD Tryz.prog 51:=⟨fun _=>by kernel_rfl,fun _=>by kernel_rfl⟩
instance:BQ Tryz.prog 53 (.agg #[.int .i64 0,.int .i64 0,.int .i64 0,.int .u64 0,.string {data:= #[]},.slice none 0 0]):=⟨Tryz.zeroValue53⟩
instance:Ea Tryz.prog 53 6:=⟨fun _=>by kernel_rfl,fun _=>by kernel_rfl⟩
instance:Ee Tryz.prog 53 #[(0,1),(1,1),(2,1),(3,1),(4,1),(5,1)]:=⟨_,Tryz.underlying53,fun _=>by kernel_rfl⟩
instance:Az Tryz.prog 53 0 0:=⟨_,Tryz.underlying53,_,rfl,rfl,1,fun _=>by kernel_rfl,by decide⟩
instance:Az Tryz.prog 53 2 2:=⟨_,Tryz.underlying53,_,rfl,rfl,1,fun _=>by kernel_rfl,by decide⟩
instance:Az Tryz.prog 53 3 3:=⟨_,Tryz.underlying53,_,rfl,rfl,1,fun _=>by kernel_rfl,by decide⟩
instance:Az Tryz.prog 53 4 4:=⟨_,Tryz.underlying53,_,rfl,rfl,1,fun _=>by kernel_rfl,by decide⟩
instance:Az Tryz.prog 53 5 5:=⟨_,Tryz.underlying53,_,rfl,rfl,1,fun _=>by kernel_rfl,by decide⟩
instance:Au Tryz.prog 59 (.slice 40):=⟨Tryz.underlying59⟩
instance:CD Tryz.prog 59:=⟨fun _=>by kernel_rfl,fun _=>by kernel_rfl⟩
instance:Au Tryz.prog 60 (.slice 101):=⟨Tryz.underlying60⟩
instance:CD Tryz.prog 60:=⟨fun _=>by kernel_rfl,fun _=>by kernel_rfl⟩
instance:Au Tryz.prog 61 (.slice 67):=⟨Tryz.underlying61⟩
instance:CD Tryz.prog 61:=⟨fun _=>by kernel_rfl,fun _=>by kernel_rfl⟩
instance:Au Tryz.prog 62 (.slice 37):=⟨Tryz.underlying62⟩
instance:CD Tryz.prog 62:=⟨fun _=>by kernel_rfl,fun _=>by kernel_rfl⟩
instance:BQ Tryz.prog 64 (.agg #[.slice none 0 0,.slice none 0 0,.int .i64 0,.int .i64 0,.int .u8 0,.int .u8 0,.int .u8 0,.int .u8 0,.int .u8 0,.int .u8 0,.int .u8 0,.int .u8 0,.int .u8 0,.int .u8 0,.int .u8 0,.int .u8 0,.int .u8 0,.int .u8 0,.int .u8 0,.int .u8 0,.slice none 0 0,.slice none 0 0]):=⟨Tryz.zeroValue64⟩
instance:Ee Tryz.prog 64 #[(0,1),(1,1),(2,2),(4,16),(20,1),(21,1)]:=⟨_,Tryz.underlying64,fun _=>by kernel_rfl⟩
instance:Az Tryz.prog 64 0 0:=⟨_,Tryz.underlying64,_,rfl,rfl,1,fun _=>by kernel_rfl,by decide⟩
instance:Az Tryz.prog 64 1 1:=⟨_,Tryz.underlying64,_,rfl,rfl,1,fun _=>by kernel_rfl,by decide⟩
instance:Az Tryz.prog 64 2 2:=⟨_,Tryz.underlying64,_,rfl,rfl,2,fun _=>by kernel_rfl,by decide⟩
instance:Az Tryz.prog 64 3 4:=⟨_,Tryz.underlying64,_,rfl,rfl,16,fun _=>by kernel_rfl,by decide⟩
instance:Az Tryz.prog 64 4 20:=⟨_,Tryz.underlying64,_,rfl,rfl,1,fun _=>by kernel_rfl,by decide⟩
instance:Az Tryz.prog 64 5 21:=⟨_,Tryz.underlying64,_,rfl,rfl,1,fun _=>by kernel_rfl,by decide⟩
instance:BQ Tryz.prog 67 (.agg #[.int .i64 0,.string {data:= #[]}]):=⟨Tryz.zeroValue67⟩
instance:Bj Tryz.prog 67 2:=⟨fun _=>by kernel_rfl⟩
instance:FA Tryz.prog 67 24:=⟨Tryz.t67,Tryz.typeInfo67,by kernel_rfl⟩
instance:Ea Tryz.prog 67 2:=⟨fun _=>by kernel_rfl,fun _=>by kernel_rfl⟩
instance:Ee Tryz.prog 67 #[(0,1),(1,1)]:=⟨_,Tryz.underlying67,fun _=>by kernel_rfl⟩
instance:Az Tryz.prog 67 0 0:=⟨_,Tryz.underlying67,_,rfl,rfl,1,fun _=>by kernel_rfl,by decide⟩
instance:Az Tryz.prog 67 1 1:=⟨_,Tryz.underlying67,_,rfl,rfl,1,fun _=>by kernel_rfl,by decide⟩
instance:Au Tryz.prog 92 (.slice 158):=⟨Tryz.underlying92⟩
instance:BQ Tryz.prog 92 (.slice none 0 0):=⟨Tryz.zeroValue92⟩
instance:CD Tryz.prog 92:=⟨fun _=>by kernel_rfl,fun _=>by kernel_rfl⟩
instance:BQ Tryz.prog 97 (.agg #[.int .i64 0,.int .i64 0,.int .i64 0,.int .i64 0,.string {data:= #[]}]):=⟨Tryz.zeroValue97⟩
instance:Bj Tryz.prog 97 5:=⟨fun _=>by kernel_rfl⟩
instance:Ea Tryz.prog 97 5:=⟨fun _=>by kernel_rfl,fun _=>by kernel_rfl⟩
instance:Ee Tryz.prog 97 #[(0,1),(1,1),(2,1),(3,1),(4,1)]:=⟨_,Tryz.underlying97,fun _=>by kernel_rfl⟩
instance:Az Tryz.prog 97 0 0:=⟨_,Tryz.underlying97,_,rfl,rfl,1,fun _=>by kernel_rfl,by decide⟩
instance:Az Tryz.prog 97 1 1:=⟨_,Tryz.underlying97,_,rfl,rfl,1,fun _=>by kernel_rfl,by decide⟩
instance:Az Tryz.prog 97 2 2:=⟨_,Tryz.underlying97,_,rfl,rfl,1,fun _=>by kernel_rfl,by decide⟩
instance:Az Tryz.prog 97 3 3:=⟨_,Tryz.underlying97,_,rfl,rfl,1,fun _=>by kernel_rfl,by decide⟩
instance:Az Tryz.prog 97 4 4:=⟨_,Tryz.underlying97,_,rfl,rfl,1,fun _=>by kernel_rfl,by decide⟩
instance:BQ Tryz.prog 100 (.pointer none):=⟨Tryz.zeroValue100⟩
instance:Bj Tryz.prog 100 1:=⟨fun _=>by kernel_rfl⟩
instance:FA Tryz.prog 100 8:=⟨Tryz.t100,Tryz.typeInfo100,by kernel_rfl⟩
instance:CD Tryz.prog 100:=⟨fun _=>by kernel_rfl,fun _=>by kernel_rfl⟩
instance:Au Tryz.prog 101 (.slice 100):=⟨Tryz.underlying101⟩
instance:BQ Tryz.prog 101 (.slice none 0 0):=⟨Tryz.zeroValue101⟩
instance:Bj Tryz.prog 101 1:=⟨fun _=>by kernel_rfl⟩
instance:FA Tryz.prog 101 24:=⟨Tryz.t101,Tryz.typeInfo101,by kernel_rfl⟩
instance:CD Tryz.prog 101:=⟨fun _=>by kernel_rfl,fun _=>by kernel_rfl⟩
instance:BQ Tryz.prog 103 (.agg #[.string {data:= #[]},.bool false,.bool false,.int .u64 0,.int .i64 0,.int .i64 0,.int .i64 0]):=⟨Tryz.zeroValue103⟩
instance:Ee Tryz.prog 103 #[(0,1),(1,1),(2,1),(3,1),(4,1),(5,1),(6,1)]:=⟨_,Tryz.underlying103,fun _=>by kernel_rfl⟩
instance:Az Tryz.prog 103 0 0:=⟨_,Tryz.underlying103,_,rfl,rfl,1,fun _=>by kernel_rfl,by decide⟩
instance:Az Tryz.prog 103 1 1:=⟨_,Tryz.underlying103,_,rfl,rfl,1,fun _=>by kernel_rfl,by decide⟩
instance:Az Tryz.prog 103 2 2:=⟨_,Tryz.underlying103,_,rfl,rfl,1,fun _=>by kernel_rfl,by decide⟩
instance:Az Tryz.prog 103 3 3:=⟨_,Tryz.underlying103,_,rfl,rfl,1,fun _=>by kernel_rfl,by decide⟩
instance:Az Tryz.prog 103 4 4:=⟨_,Tryz.underlying103,_,rfl,rfl,1,fun _=>by kernel_rfl,by decide⟩
instance:Az Tryz.prog 103 5 5:=⟨_,Tryz.underlying103,_,rfl,rfl,1,fun _=>by kernel_rfl,by decide⟩
instance:Az Tryz.prog 103 6 6:=⟨_,Tryz.underlying103,_,rfl,rfl,1,fun _=>by kernel_rfl,by decide⟩
instance:BQ Tryz.prog 106 (.nilIface):=⟨Tryz.zeroValue106⟩
instance:CD Tryz.prog 106:=⟨fun _=>by kernel_rfl,fun _=>by kernel_rfl⟩
instance:Au Tryz.prog 121 (.slice 5):=⟨Tryz.underlying121⟩
instance:BQ Tryz.prog 121 (.slice none 0 0):=⟨Tryz.zeroValue121⟩
instance:Bj Tryz.prog 121 1:=⟨fun _=>by kernel_rfl⟩
instance:FA Tryz.prog 121 24:=⟨Tryz.t121,Tryz.typeInfo121,by kernel_rfl⟩
instance:CD Tryz.prog 121:=⟨fun _=>by kernel_rfl,fun _=>by kernel_rfl⟩
instance:Au Tryz.prog 142 (.slice 227):=⟨Tryz.underlying142⟩
instance:CD Tryz.prog 142:=⟨fun _=>by kernel_rfl,fun _=>by kernel_rfl⟩
instance:BQ Tryz.prog 158 (.agg #[.int .i64 0,.int .i64 0,.int .u64 0,.int .u64 0,.bool false,.string {data:= #[]},.slice none 0 0]):=⟨Tryz.zeroValue158⟩
instance:Bj Tryz.prog 158 7:=⟨fun _=>by kernel_rfl⟩
instance:FA Tryz.prog 158 80:=⟨Tryz.t158,Tryz.typeInfo158,by kernel_rfl⟩
instance:Ea Tryz.prog 158 7:=⟨fun _=>by kernel_rfl,fun _=>by kernel_rfl⟩
instance:Ee Tryz.prog 158 #[(0,1),(1,1),(2,1),(3,1),(4,1),(5,1),(6,1)]:=⟨_,Tryz.underlying158,fun _=>by kernel_rfl⟩
instance:Az Tryz.prog 158 0 0:=⟨_,Tryz.underlying158,_,rfl,rfl,1,fun _=>by kernel_rfl,by decide⟩
instance:Az Tryz.prog 158 1 1:=⟨_,Tryz.underlying158,_,rfl,rfl,1,fun _=>by kernel_rfl,by decide⟩
instance:Az Tryz.prog 158 2 2:=⟨_,Tryz.underlying158,_,rfl,rfl,1,fun _=>by kernel_rfl,by decide⟩
instance:Az Tryz.prog 158 3 3:=⟨_,Tryz.underlying158,_,rfl,rfl,1,fun _=>by kernel_rfl,by decide⟩
instance:Az Tryz.prog 158 4 4:=⟨_,Tryz.underlying158,_,rfl,rfl,1,fun _=>by kernel_rfl,by decide⟩
instance:Az Tryz.prog 158 5 5:=⟨_,Tryz.underlying158,_,rfl,rfl,1,fun _=>by kernel_rfl,by decide⟩
instance:Az Tryz.prog 158 6 6:=⟨_,Tryz.underlying158,_,rfl,rfl,1,fun _=>by kernel_rfl,by decide⟩
instance:BQ Tryz.prog 171 (.agg #[.int .u8 0,.int .u8 0,.int .u8 0,.int .u8 0,.int .u8 0,.int .u8 0,.int .u8 0,.int .u8 0,.int .u8 0,.int .u8 0,.int .u8 0,.int .u8 0,.int .u8 0,.int .u8 0,.int .u8 0,.int .u8 0,.int .u8 0]):=⟨Tryz.zeroValue171⟩
instance:Ea Tryz.prog 171 17:=⟨fun _=>by kernel_rfl,fun _=>by kernel_rfl⟩
instance:Ee Tryz.prog 171 #[(0,16),(16,1)]:=⟨_,Tryz.underlying171,fun _=>by kernel_rfl⟩
instance:Az Tryz.prog 171 0 0:=⟨_,Tryz.underlying171,_,rfl,rfl,16,fun _=>by kernel_rfl,by decide⟩
instance:Az Tryz.prog 171 1 16:=⟨_,Tryz.underlying171,_,rfl,rfl,1,fun _=>by kernel_rfl,by decide⟩
instance:CD Tryz.prog 173:=⟨fun _=>by kernel_rfl,fun _=>by kernel_rfl⟩
instance:Bj Tryz.prog 176 10:=⟨fun _=>by kernel_rfl⟩
instance:Az Tryz.prog 176 0 0:=⟨_,Tryz.underlying176,_,rfl,rfl,1,fun _=>by kernel_rfl,by decide⟩
instance:Az Tryz.prog 176 1 1:=⟨_,Tryz.underlying176,_,rfl,rfl,1,fun _=>by kernel_rfl,by decide⟩
instance:Az Tryz.prog 176 2 2:=⟨_,Tryz.underlying176,_,rfl,rfl,1,fun _=>by kernel_rfl,by decide⟩
instance:Az Tryz.prog 176 3 3:=⟨_,Tryz.underlying176,_,rfl,rfl,1,fun _=>by kernel_rfl,by decide⟩
instance:Az Tryz.prog 176 4 4:=⟨_,Tryz.underlying176,_,rfl,rfl,1,fun _=>by kernel_rfl,by decide⟩
instance:Az Tryz.prog 176 5 5:=⟨_,Tryz.underlying176,_,rfl,rfl,1,fun _=>by kernel_rfl,by decide⟩
instance:Az Tryz.prog 176 6 6:=⟨_,Tryz.underlying176,_,rfl,rfl,1,fun _=>by kernel_rfl,by decide⟩
instance:Az Tryz.prog 176 7 7:=⟨_,Tryz.underlying176,_,rfl,rfl,1,fun _=>by kernel_rfl,by decide⟩
instance:Az Tryz.prog 176 8 8:=⟨_,Tryz.underlying176,_,rfl,rfl,1,fun _=>by kernel_rfl,by decide⟩
instance:Az Tryz.prog 176 9 9:=⟨_,Tryz.underlying176,_,rfl,rfl,1,fun _=>by kernel_rfl,by decide⟩
instance:Au Tryz.prog 177 (.array 4 176):=⟨Tryz.underlying177⟩
instance:Bj Tryz.prog 179 9:=⟨fun _=>by kernel_rfl⟩
instance:Az Tryz.prog 179 0 0:=⟨_,Tryz.underlying179,_,rfl,rfl,1,fun _=>by kernel_rfl,by decide⟩
instance:Az Tryz.prog 179 1 1:=⟨_,Tryz.underlying179,_,rfl,rfl,1,fun _=>by kernel_rfl,by decide⟩
instance:Az Tryz.prog 179 2 2:=⟨_,Tryz.underlying179,_,rfl,rfl,1,fun _=>by kernel_rfl,by decide⟩
instance:Az Tryz.prog 179 3 3:=⟨_,Tryz.underlying179,_,rfl,rfl,1,fun _=>by kernel_rfl,by decide⟩
instance:Az Tryz.prog 179 4 4:=⟨_,Tryz.underlying179,_,rfl,rfl,1,fun _=>by kernel_rfl,by decide⟩
instance:Az Tryz.prog 179 5 5:=⟨_,Tryz.underlying179,_,rfl,rfl,1,fun _=>by kernel_rfl,by decide⟩
instance:Az Tryz.prog 179 6 6:=⟨_,Tryz.underlying179,_,rfl,rfl,1,fun _=>by kernel_rfl,by decide⟩
instance:Az Tryz.prog 179 7 7:=⟨_,Tryz.underlying179,_,rfl,rfl,1,fun _=>by kernel_rfl,by decide⟩
instance:Az Tryz.prog 179 8 8:=⟨_,Tryz.underlying179,_,rfl,rfl,1,fun _=>by kernel_rfl,by decide⟩
instance:Au Tryz.prog 180 (.array 4 179):=⟨Tryz.underlying180⟩
instance:Au Tryz.prog 181 (.slice 257):=⟨Tryz.underlying181⟩
instance:CD Tryz.prog 181:=⟨fun _=>by kernel_rfl,fun _=>by kernel_rfl⟩
instance:Au Tryz.prog 182 (.int .u64):=⟨Tryz.underlying182⟩
instance:CD Tryz.prog 182:=⟨fun _=>by kernel_rfl,fun _=>by kernel_rfl⟩
instance:BQ Tryz.prog 184 (.agg #[.int .i64 0,.int .i64 0,.int .u8 0,.int .u8 0,.int .u8 0,.int .u8 0,.int .u8 0,.int .u8 0,.int .u8 0,.int .u8 0,.int .u8 0,.int .u8 0,.int .u8 0,.int .u8 0,.int .u8 0,.int .u8 0,.int .u8 0,.int .u8 0,.int .u8 0,.int .u8 0,.int .u8 0,.int .u8 0,.int .u8 0,.int .u8 0,.int .u8 0,.int .u8 0,.int .u8 0,.int .u8 0,.int .u8 0,.int .u8 0,.int .u8 0,.int .u8 0,.int .u8 0,.int .u8 0,.int .u8 0,.int .u8 0,.int .u64 0,.int .i64 0,.int .u64 0,.bool false,.int .u64 0,.pointer none,.bool false,.slice none 0 0,.pointer none,.pointer none,.int .u64 0,.bool false,.bool false,.bool false,.bool false,.int .u64 0,.bool false,.slice none 0 0,.pointer none,.pointer none,.int .u64 0,.bool false,.bool false,.bool false,.bool false,.int .u64 0,.bool false,.slice none 0 0,.pointer none,.pointer none,.int .u64 0,.bool false,.bool false,.bool false,.bool false,.int .u64 0,.bool false,.slice none 0 0,.pointer none,.pointer none,.int .u64 0,.bool false,.bool false,.bool false,.bool false,.int .u64 0,.bool false,.slice none 0 0,.pointer none,.int .u64 0,.int .u64 0,.bool false,.bool false,.int .u64 0,.int .u64 0,.int .i64 0,.slice none 0 0,.pointer none,.int .u64 0,.int .u64 0,.bool false,.bool false,.int .u64 0,.int .u64 0,.int .i64 0,.slice none 0 0,.pointer none,.int .u64 0,.int .u64 0,.bool false,.bool false,.int .u64 0,.int .u64 0,.int .i64 0,.slice none 0 0,.pointer none,.int .u64 0,.int .u64 0,.bool false,.bool false,.int .u64 0,.int .u64 0,.int .i64 0,.slice none 0 0,.slice none 0 0,.int .u64 0,.int .u64 0]):=⟨Tryz.zeroValue184⟩
instance:Ee Tryz.prog 184 #[(0,2),(2,17),(19,17),(36,1),(37,1),(38,1),(39,1),(40,1),(41,1),(42,1),(43,40),(83,36),(119,1),(120,1),(121,1),(122,1)]:=⟨_,Tryz.underlying184,fun _=>by kernel_rfl⟩
instance:Az Tryz.prog 184 0 0:=⟨_,Tryz.underlying184,_,rfl,rfl,2,fun _=>by kernel_rfl,by decide⟩
instance:Az Tryz.prog 184 1 2:=⟨_,Tryz.underlying184,_,rfl,rfl,17,fun _=>by kernel_rfl,by decide⟩
instance:Az Tryz.prog 184 2 19:=⟨_,Tryz.underlying184,_,rfl,rfl,17,fun _=>by kernel_rfl,by decide⟩
instance:Az Tryz.prog 184 3 36:=⟨_,Tryz.underlying184,_,rfl,rfl,1,fun _=>by kernel_rfl,by decide⟩
instance:Az Tryz.prog 184 4 37:=⟨_,Tryz.underlying184,_,rfl,rfl,1,fun _=>by kernel_rfl,by decide⟩
instance:Az Tryz.prog 184 5 38:=⟨_,Tryz.underlying184,_,rfl,rfl,1,fun _=>by kernel_rfl,by decide⟩
instance:Az Tryz.prog 184 6 39:=⟨_,Tryz.underlying184,_,rfl,rfl,1,fun _=>by kernel_rfl,by decide⟩
instance:Az Tryz.prog 184 7 40:=⟨_,Tryz.underlying184,_,rfl,rfl,1,fun _=>by kernel_rfl,by decide⟩
instance:Az Tryz.prog 184 8 41:=⟨_,Tryz.underlying184,_,rfl,rfl,1,fun _=>by kernel_rfl,by decide⟩
instance:Az Tryz.prog 184 9 42:=⟨_,Tryz.underlying184,_,rfl,rfl,1,fun _=>by kernel_rfl,by decide⟩
instance:Az Tryz.prog 184 10 43:=⟨_,Tryz.underlying184,_,rfl,rfl,40,fun _=>by kernel_rfl,by decide⟩
instance:Az Tryz.prog 184 11 83:=⟨_,Tryz.underlying184,_,rfl,rfl,36,fun _=>by kernel_rfl,by decide⟩
instance:Az Tryz.prog 184 12 119:=⟨_,Tryz.underlying184,_,rfl,rfl,1,fun _=>by kernel_rfl,by decide⟩
instance:Az Tryz.prog 184 13 120:=⟨_,Tryz.underlying184,_,rfl,rfl,1,fun _=>by kernel_rfl,by decide⟩
instance:Az Tryz.prog 184 14 121:=⟨_,Tryz.underlying184,_,rfl,rfl,1,fun _=>by kernel_rfl,by decide⟩
instance:Az Tryz.prog 184 15 122:=⟨_,Tryz.underlying184,_,rfl,rfl,1,fun _=>by kernel_rfl,by decide⟩
instance:BQ Tryz.prog 191 (.pointer none):=⟨Tryz.zeroValue191⟩
instance:CD Tryz.prog 191:=⟨fun _=>by kernel_rfl,fun _=>by kernel_rfl⟩
instance:BQ Tryz.prog 196 (.agg #[.int .i64 0,.int .i64 0]):=⟨Tryz.zeroValue196⟩
instance:Ee Tryz.prog 196 #[(0,1),(1,1)]:=⟨_,Tryz.underlying196,fun _=>by kernel_rfl⟩
instance:Az Tryz.prog 196 0 0:=⟨_,Tryz.underlying196,_,rfl,rfl,1,fun _=>by kernel_rfl,by decide⟩
instance:Az Tryz.prog 196 1 1:=⟨_,Tryz.underlying196,_,rfl,rfl,1,fun _=>by kernel_rfl,by decide⟩
instance:Au Tryz.prog 211 (.slice 121):=⟨Tryz.underlying211⟩
instance:BQ Tryz.prog 227 (.agg #[.int .u64 0,.int .u64 0]):=⟨Tryz.zeroValue227⟩
instance:Bj Tryz.prog 227 2:=⟨fun _=>by kernel_rfl⟩
instance:FA Tryz.prog 227 16:=⟨Tryz.t227,Tryz.typeInfo227,by kernel_rfl⟩
instance:Ea Tryz.prog 227 2:=⟨fun _=>by kernel_rfl,fun _=>by kernel_rfl⟩
instance:Ee Tryz.prog 227 #[(0,1),(1,1)]:=⟨_,Tryz.underlying227,fun _=>by kernel_rfl⟩
instance:Az Tryz.prog 227 0 0:=⟨_,Tryz.underlying227,_,rfl,rfl,1,fun _=>by kernel_rfl,by decide⟩
instance:Az Tryz.prog 227 1 1:=⟨_,Tryz.underlying227,_,rfl,rfl,1,fun _=>by kernel_rfl,by decide⟩
instance:BQ Tryz.prog 236 (.agg #[.slice none 0 0,.int .u64 0,.int .i64 0]):=⟨Tryz.zeroValue236⟩
instance:Ee Tryz.prog 236 #[(0,1),(1,1),(2,1)]:=⟨_,Tryz.underlying236,fun _=>by kernel_rfl⟩
instance:Az Tryz.prog 236 0 0:=⟨_,Tryz.underlying236,_,rfl,rfl,1,fun _=>by kernel_rfl,by decide⟩
instance:Az Tryz.prog 236 1 1:=⟨_,Tryz.underlying236,_,rfl,rfl,1,fun _=>by kernel_rfl,by decide⟩
instance:Az Tryz.prog 236 2 2:=⟨_,Tryz.underlying236,_,rfl,rfl,1,fun _=>by kernel_rfl,by decide⟩
instance:BQ Tryz.prog 241 (.agg #[.pointer none,.pointer none,.int .u64 0]):=⟨Tryz.zeroValue241⟩
instance:Ea Tryz.prog 241 3:=⟨fun _=>by kernel_rfl,fun _=>by kernel_rfl⟩
instance:CD Tryz.prog 244:=⟨fun _=>by kernel_rfl,fun _=>by kernel_rfl⟩
instance:BQ Tryz.prog 253 (.pointer none):=⟨Tryz.zeroValue253⟩
instance:CD Tryz.prog 253:=⟨fun _=>by kernel_rfl,fun _=>by kernel_rfl⟩
instance:BQ Tryz.prog 257 (.agg #[.int .u64 0,.int .u64 0,.slice none 0 0]):=⟨Tryz.zeroValue257⟩
instance:Bj Tryz.prog 257 3:=⟨fun _=>by kernel_rfl⟩
instance:FA Tryz.prog 257 40:=⟨Tryz.t257,Tryz.typeInfo257,by kernel_rfl⟩
instance:Ea Tryz.prog 257 3:=⟨fun _=>by kernel_rfl,fun _=>by kernel_rfl⟩
instance:Ee Tryz.prog 257 #[(0,1),(1,1),(2,1)]:=⟨_,Tryz.underlying257,fun _=>by kernel_rfl⟩
instance:Az Tryz.prog 257 0 0:=⟨_,Tryz.underlying257,_,rfl,rfl,1,fun _=>by kernel_rfl,by decide⟩
instance:Az Tryz.prog 257 1 1:=⟨_,Tryz.underlying257,_,rfl,rfl,1,fun _=>by kernel_rfl,by decide⟩
instance:Az Tryz.prog 257 2 2:=⟨_,Tryz.underlying257,_,rfl,rfl,1,fun _=>by kernel_rfl,by decide⟩
instance:CD Tryz.prog 259:=⟨fun _=>by kernel_rfl,fun _=>by kernel_rfl⟩
instance:BQ Tryz.prog 265 (.agg #[.slice none 0 0,.slice none 0 0,.int .i64 0,.bool false]):=⟨Tryz.zeroValue265⟩
instance:Ee Tryz.prog 265 #[(0,1),(1,1),(2,1),(3,1)]:=⟨_,Tryz.underlying265,fun _=>by kernel_rfl⟩
instance:Az Tryz.prog 265 0 0:=⟨_,Tryz.underlying265,_,rfl,rfl,1,fun _=>by kernel_rfl,by decide⟩
instance:Az Tryz.prog 265 1 1:=⟨_,Tryz.underlying265,_,rfl,rfl,1,fun _=>by kernel_rfl,by decide⟩
instance:Az Tryz.prog 265 2 2:=⟨_,Tryz.underlying265,_,rfl,rfl,1,fun _=>by kernel_rfl,by decide⟩
instance:Az Tryz.prog 265 3 3:=⟨_,Tryz.underlying265,_,rfl,rfl,1,fun _=>by kernel_rfl,by decide⟩
instance :Au Tryz.prog 286 (.interface #[("As",288)]) :=⟨Tryz.underlying286⟩
instance :Au Tryz.prog 289 (.interface #[("Unwrap",149)]) :=⟨Tryz.underlying289⟩
instance :Au Tryz.prog 290 (.interface #[("Unwrap",292)]) :=⟨Tryz.underlying290⟩
instance :Au Tryz.prog 293 (.interface #[("Is",295)]) :=⟨Tryz.underlying293⟩
instance:CD Tryz.prog 300:=⟨fun _=>by kernel_rfl,fun _=>by kernel_rfl⟩
instance:CD Tryz.prog 308:=⟨fun _=>by kernel_rfl,fun _=>by kernel_rfl⟩
instance:CD Tryz.prog 309:=⟨fun _=>by kernel_rfl,fun _=>by kernel_rfl⟩
instance:CD Tryz.prog 310:=⟨fun _=>by kernel_rfl,fun _=>by kernel_rfl⟩
instance:BQ Tryz.prog 312 (.agg #[.nilFunc,.nilFunc,.nilFunc]):=⟨Tryz.zeroValue312⟩
instance:Ea Tryz.prog 312 3:=⟨fun _=>by kernel_rfl,fun _=>by kernel_rfl⟩
instance:Ee Tryz.prog 312 #[(0,1),(1,1),(2,1)]:=⟨_,Tryz.underlying312,fun _=>by kernel_rfl⟩
instance:Az Tryz.prog 312 0 0:=⟨_,Tryz.underlying312,_,rfl,rfl,1,fun _=>by kernel_rfl,by decide⟩
instance:Az Tryz.prog 312 1 1:=⟨_,Tryz.underlying312,_,rfl,rfl,1,fun _=>by kernel_rfl,by decide⟩
instance:Az Tryz.prog 312 2 2:=⟨_,Tryz.underlying312,_,rfl,rfl,1,fun _=>by kernel_rfl,by decide⟩
instance:Au Tryz.prog 313 (.array 8 5):=⟨Tryz.underlying313⟩
instance:BQ Tryz.prog 313 (.agg #[.int .u8 0,.int .u8 0,.int .u8 0,.int .u8 0,.int .u8 0,.int .u8 0,.int .u8 0,.int .u8 0]):=⟨Tryz.zeroValue313⟩
instance:Ea Tryz.prog 313 8:=⟨fun _=>by kernel_rfl,fun _=>by kernel_rfl⟩
instance:BQ Tryz.prog 318 (.agg #[.slice none 0 0,.int .i64 0]):=⟨Tryz.zeroValue318⟩
instance:Ee Tryz.prog 318 #[(0,1),(1,1)]:=⟨_,Tryz.underlying318,fun _=>by kernel_rfl⟩
instance:Az Tryz.prog 318 0 0:=⟨_,Tryz.underlying318,_,rfl,rfl,1,fun _=>by kernel_rfl,by decide⟩
instance:Az Tryz.prog 318 1 1:=⟨_,Tryz.underlying318,_,rfl,rfl,1,fun _=>by kernel_rfl,by decide⟩
instance:BQ Tryz.prog 320 (.agg #[]):=⟨Tryz.zeroValue320⟩
instance:Ea Tryz.prog 320 0:=⟨fun _=>by kernel_rfl,fun _=>by kernel_rfl⟩
instance:Ee Tryz.prog 320 #[]:=⟨_,Tryz.underlying320,fun _=>by kernel_rfl⟩
instance:CD Tryz.prog 336:=⟨fun _=>by kernel_rfl,fun _=>by kernel_rfl⟩
instance:Au Tryz.prog 347 (.array 4 37):=⟨Tryz.underlying347⟩
instance:BQ Tryz.prog 347 (.agg #[.int .u64 0,.int .u64 0,.int .u64 0,.int .u64 0]):=⟨Tryz.zeroValue347⟩
instance:Ea Tryz.prog 347 4:=⟨fun _=>by kernel_rfl,fun _=>by kernel_rfl⟩
instance:Ac Tryz.prog 12:=Aj Tryz.func12 (by kernel_rfl) rfl
instance:Ac Tryz.prog 13:=Aj Tryz.func13 (by kernel_rfl) rfl
instance:Ac Tryz.prog 14:=Aj Tryz.func14 (by kernel_rfl) rfl
instance:Ac Tryz.prog 16:=Aj Tryz.func16 (by kernel_rfl) rfl
instance:Ac Tryz.prog 23:=Aj Tryz.func23 (by kernel_rfl) rfl
instance:Ac Tryz.prog 24:=Aj Tryz.func24 (by kernel_rfl) rfl
instance:Ac Tryz.prog 25:=Aj Tryz.func25 (by kernel_rfl) rfl
instance:Ac Tryz.prog 26:=Aj Tryz.func26 (by kernel_rfl) rfl
instance:Ac Tryz.prog 34:=Aj Tryz.func34 (by kernel_rfl) rfl
instance:Ac Tryz.prog 35:=Aj Tryz.func35 (by kernel_rfl) rfl
instance:Ac Tryz.prog 36:=Aj Tryz.func36 (by kernel_rfl) rfl
instance:Ac Tryz.prog 39:=Aj Tryz.func39 (by kernel_rfl) rfl
instance:Ac Tryz.prog 40:=Aj Tryz.func40 (by kernel_rfl) rfl
instance:Ac Tryz.prog 44:=Aj Tryz.func44 (by kernel_rfl) rfl
instance:Ac Tryz.prog 54:=Aj Tryz.func54 (by kernel_rfl) rfl
instance:Ac Tryz.prog 55:=Aj Tryz.func55 (by kernel_rfl) rfl
instance:Ac Tryz.prog 56:=Aj Tryz.func56 (by kernel_rfl) rfl
instance:Ac Tryz.prog 70:=Aj Tryz.func70 (by kernel_rfl) rfl
instance:Ac Tryz.prog 71:=Aj Tryz.func71 (by kernel_rfl) rfl
instance:Ac Tryz.prog 72:=Aj Tryz.func72 (by kernel_rfl) rfl
instance:Ac Tryz.prog 73:=Aj Tryz.func73 (by kernel_rfl) rfl
instance:Ac Tryz.prog 74:=Aj Tryz.func74 (by kernel_rfl) rfl
instance:Ac Tryz.prog 75:=Aj Tryz.func75 (by kernel_rfl) rfl
instance:Ac Tryz.prog 76:=Aj Tryz.func76 (by kernel_rfl) rfl
instance:Ac Tryz.prog 79:=Aj Tryz.func79 (by kernel_rfl) rfl
instance:Ac Tryz.prog 80:=Aj Tryz.func80 (by kernel_rfl) rfl
instance:Ac Tryz.prog 88:=Aj Tryz.func88 (by kernel_rfl) rfl
instance:Ac Tryz.prog 89:=Aj Tryz.func89 (by kernel_rfl) rfl
instance:Ac Tryz.prog 90:=Aj Tryz.func90 (by kernel_rfl) rfl
instance:Ac Tryz.prog 91:=Aj Tryz.func91 (by kernel_rfl) rfl
instance:Ac Tryz.prog 92:=Aj Tryz.func92 (by kernel_rfl) rfl
instance:Ac Tryz.prog 93:=Aj Tryz.func93 (by kernel_rfl) rfl
instance:Ac Tryz.prog 94:=Aj Tryz.func94 (by kernel_rfl) rfl
instance:Ac Tryz.prog 95:=Aj Tryz.func95 (by kernel_rfl) rfl
instance:Ac Tryz.prog 96:=Aj Tryz.func96 (by kernel_rfl) rfl
instance:Ac Tryz.prog 97:=Aj Tryz.func97 (by kernel_rfl) rfl
instance:Ac Tryz.prog 98:=Aj Tryz.func98 (by kernel_rfl) rfl
instance:Ac Tryz.prog 123:=Aj Tryz.func123 (by kernel_rfl) rfl
instance:Ac Tryz.prog 125:=Aj Tryz.func125 (by kernel_rfl) rfl
instance:Ac Tryz.prog 130:=Aj Tryz.func130 (by kernel_rfl) rfl
instance:Ac Tryz.prog 131:=Aj Tryz.func131 (by kernel_rfl) rfl
instance:Ac Tryz.prog 132:=Aj Tryz.func132 (by kernel_rfl) rfl
instance:Ac Tryz.prog 133:=Aj Tryz.func133 (by kernel_rfl) rfl
instance:Ac Tryz.prog 134:=Aj Tryz.func134 (by kernel_rfl) rfl
instance:Ac Tryz.prog 135:=Aj Tryz.func135 (by kernel_rfl) rfl
instance:Ac Tryz.prog 136:=Aj Tryz.func136 (by kernel_rfl) rfl
instance:Ac Tryz.prog 137:=Aj Tryz.func137 (by kernel_rfl) rfl
instance:Ac Tryz.prog 138:=Aj Tryz.func138 (by kernel_rfl) rfl
instance:Ac Tryz.prog 139:=Aj Tryz.func139 (by kernel_rfl) rfl
instance:Ac Tryz.prog 140:=Aj Tryz.func140 (by kernel_rfl) rfl
instance:Ac Tryz.prog 141:=Aj Tryz.func141 (by kernel_rfl) rfl
instance:Ac Tryz.prog 142:=Aj Tryz.func142 (by kernel_rfl) rfl
instance:Ac Tryz.prog 143:=Aj Tryz.func143 (by kernel_rfl) rfl
instance:Ac Tryz.prog 144:=Aj Tryz.func144 (by kernel_rfl) rfl
instance:Ac Tryz.prog 145:=Aj Tryz.func145 (by kernel_rfl) rfl
instance:Ac Tryz.prog 146:=Aj Tryz.func146 (by kernel_rfl) rfl
instance:Ac Tryz.prog 147:=Aj Tryz.func147 (by kernel_rfl) rfl
instance:Ac Tryz.prog 148:=Aj Tryz.func148 (by kernel_rfl) rfl
instance:Ac Tryz.prog 149:=Aj Tryz.func149 (by kernel_rfl) rfl
instance:Ac Tryz.prog 161:=Aj Tryz.func161 (by kernel_rfl) rfl
instance:Ac Tryz.prog 162:=Aj Tryz.func162 (by kernel_rfl) rfl
instance:Ac Tryz.prog 163:=Aj Tryz.func163 (by kernel_rfl) rfl
instance:Ac Tryz.prog 164:=Aj Tryz.func164 (by kernel_rfl) rfl
instance:Ac Tryz.prog 165:=Aj Tryz.func165 (by kernel_rfl) rfl
instance:Ac Tryz.prog 166:=Aj Tryz.func166 (by kernel_rfl) rfl
instance:Ac Tryz.prog 167:=Aj Tryz.func167 (by kernel_rfl) rfl
instance:Ac Tryz.prog 168:=Aj Tryz.func168 (by kernel_rfl) rfl
instance:Ac Tryz.prog 169:=Aj Tryz.func169 (by kernel_rfl) rfl
instance:Ac Tryz.prog 170:=Aj Tryz.func170 (by kernel_rfl) rfl
instance:Ac Tryz.prog 171:=Aj Tryz.func171 (by kernel_rfl) rfl
instance:Ac Tryz.prog 172:=Aj Tryz.func172 (by kernel_rfl) rfl
instance:Ac Tryz.prog 173:=Aj Tryz.func173 (by kernel_rfl) rfl
instance:Ac Tryz.prog 174:=Aj Tryz.func174 (by kernel_rfl) rfl
instance:Ac Tryz.prog 175:=Aj Tryz.func175 (by kernel_rfl) rfl
instance:Ac Tryz.prog 176:=Aj Tryz.func176 (by kernel_rfl) rfl
instance:Ac Tryz.prog 177:=Aj Tryz.func177 (by kernel_rfl) rfl
instance:Ac Tryz.prog 178:=Aj Tryz.func178 (by kernel_rfl) rfl
instance:Ac Tryz.prog 179:=Aj Tryz.func179 (by kernel_rfl) rfl
instance:Ac Tryz.prog 180:=Aj Tryz.func180 (by kernel_rfl) rfl
instance:Ac Tryz.prog 181:=Aj Tryz.func181 (by kernel_rfl) rfl
instance:Ac Tryz.prog 182:=Aj Tryz.func182 (by kernel_rfl) rfl
instance:Ac Tryz.prog 183:=Aj Tryz.func183 (by kernel_rfl) rfl
instance:Ac Tryz.prog 184:=Aj Tryz.func184 (by kernel_rfl) rfl
instance:Ac Tryz.prog 187:=Aj Tryz.func187 (by kernel_rfl) rfl
instance:Ac Tryz.prog 188:=Aj Tryz.func188 (by kernel_rfl) rfl
instance:Ac Tryz.prog 189:=Aj Tryz.func189 (by kernel_rfl) rfl
instance:Ac Tryz.prog 190:=Aj Tryz.func190 (by kernel_rfl) rfl
instance:Ac Tryz.prog 191:=Aj Tryz.func191 (by kernel_rfl) rfl
instance:Ac Tryz.prog 192:=Aj Tryz.func192 (by kernel_rfl) rfl
instance:Ac Tryz.prog 193:=Aj Tryz.func193 (by kernel_rfl) rfl
instance:Ac Tryz.prog 194:=Aj Tryz.func194 (by kernel_rfl) rfl
instance:Ac Tryz.prog 195:=Aj Tryz.func195 (by kernel_rfl) rfl
instance:Ac Tryz.prog 196:=Aj Tryz.func196 (by kernel_rfl) rfl
instance:Ac Tryz.prog 197:=Aj Tryz.func197 (by kernel_rfl) rfl
instance:Ac Tryz.prog 198:=Aj Tryz.func198 (by kernel_rfl) rfl
instance:Ac Tryz.prog 199:=Aj Tryz.func199 (by kernel_rfl) rfl
instance:Ac Tryz.prog 200:=Aj Tryz.func200 (by kernel_rfl) rfl
instance:Ac Tryz.prog 201:=Aj Tryz.func201 (by kernel_rfl) rfl
instance:Ac Tryz.prog 202:=Aj Tryz.func202 (by kernel_rfl) rfl
instance:Ac Tryz.prog 203:=Aj Tryz.func203 (by kernel_rfl) rfl
instance:Ac Tryz.prog 204:=Aj Tryz.func204 (by kernel_rfl) rfl
instance:Ac Tryz.prog 205:=Aj Tryz.func205 (by kernel_rfl) rfl
instance:Ac Tryz.prog 206:=Aj Tryz.func206 (by kernel_rfl) rfl
instance:Ac Tryz.prog 207:=Aj Tryz.func207 (by kernel_rfl) rfl
instance:Ac Tryz.prog 208:=Aj Tryz.func208 (by kernel_rfl) rfl
instance:Ac Tryz.prog 212:=Aj Tryz.func212 (by kernel_rfl) rfl
instance:Ac Tryz.prog 213:=Aj Tryz.func213 (by kernel_rfl) rfl
instance:Ac Tryz.prog 214:=Aj Tryz.func214 (by kernel_rfl) rfl
instance:Ac Tryz.prog 215:=Aj Tryz.func215 (by kernel_rfl) rfl
instance:Ac Tryz.prog 217:=Aj Tryz.func217 (by kernel_rfl) rfl
instance:Ac Tryz.prog 218:=Aj Tryz.func218 (by kernel_rfl) rfl
instance:Ac Tryz.prog 219:=Aj Tryz.func219 (by kernel_rfl) rfl
instance:Ac Tryz.prog 220:=Aj Tryz.func220 (by kernel_rfl) rfl
instance:Ac Tryz.prog 221:=Aj Tryz.func221 (by kernel_rfl) rfl
instance:Ac Tryz.prog 222:=Aj Tryz.func222 (by kernel_rfl) rfl
instance:Ac Tryz.prog 223:=Aj Tryz.func223 (by kernel_rfl) rfl
instance:Ac Tryz.prog 224:=Aj Tryz.func224 (by kernel_rfl) rfl
instance:Ac Tryz.prog 226:=Aj Tryz.func226 (by kernel_rfl) rfl
instance:Ac Tryz.prog 227:=Aj Tryz.func227 (by kernel_rfl) rfl
instance:Ac Tryz.prog 249:=Aj Tryz.func249 (by kernel_rfl) rfl
theorem Dy:Tryz.prog.follows .mixedOrders=true:=by kernel_rfl
section
class GS(P:Program)(f:FuncId)(e:outParam (Array Value→Sem Value)):Prop where
 get:∀args w,(callFunc f args).run P w=((e args).run P w).andThen fun v w'=>.ok (.value v) w'
class I8(P:Program)(t:TypeId)(v:Value)(name:String)(f:outParam FuncId)(r:outParam Value):Prop where
 get:∀w,(method (P.types.size+Made.depth) t v name).run P w=.ok (f,r) w
theorem Vo{B:World}{H:HP}{b i:Nat}{v:Value}(h:B.cell? ⟨b,i,none⟩=some v):Rd B H b i v True:=⟨fun w hw _=>by
 have hb:b<B.heap.size:=by
  rcases Nat.lt_or_ge b B.heap.size with h1|h1
  ·exact h1
  ·simp [World.cell?,Array.getElem?_eq_none h1]at h
 have e:=hw.1.block b hb
 unfold World.cell? at h⊢
 rw [e];exact h⟩
section
variable{P:Program}{B:World}{n:Nat}{E:A2}{D:Bu}{H:HP}{d:Option Tmp}{T T' ty:TypeId}{pos:String}{af:Array Edge}{g:Option (Nat×Bool)}{x y z:Operand}{ats:Array TypeId}
theorem Im{f:FuncId}{e:Array Value→Sem Value}{xs:List Operand}{vs:List Value}{v:Value}[hf:GS P f e](hx:DR E xs=some vs)(he:∀w,Sat B H w→(e vs.toArray).run P w=.ok v w):
  Aa P B n ⟨d,.call ⟨.value (.func f),xs.toArray,ats⟩,ty,pos,af,g⟩ E H v:=by
 intro a w h1 hw;simp only [execOp,resolve,List.map_toArray,He h1 hx,Act.eval,Deferred.ofValue,Sem.run_bind,Sem.run_pure,Result.andThen_ok,invoke]
 have:=hf.get vs.toArray w
 rw [he w hw]at this;simpa using this
theorem LV{f:FuncId}{e:Array Value→Sem Value}{xs:List Operand}{vs:List Value}{Post:Value→HP→Prop}[hf:GS P f e](hx:DR E xs=some vs)
  (he:∀w,Sat B H w→∃v w' H',(e vs.toArray).run P w=.ok v w'∧Post v H'∧Sat B H' w'):
  CH P B n ⟨d,.call ⟨.value (.func f),xs.toArray,ats⟩,ty,pos,af,g⟩ E D H Post:=by
 intro a w h1 _ h3 K Q hk;obtain⟨v,w',H',hr,hp,hs⟩:=he w h3
 have hrun:(execOp a.eval ⟨d,.call ⟨.value (.func f),xs.toArray,ats⟩,ty,pos,af,g⟩).run P w=.ok (.value v) w':=by
  simp only [execOp,resolve,List.map_toArray,He h1 hx,Act.eval,Deferred.ofValue,Sem.run_bind,Sem.run_pure,Result.andThen_ok,invoke]
  have:=hf.get vs.toArray w
  rw [hr]at this;simpa using this
 simp only [Oper.wp,hrun,Oper.upon];exact hk v H' w' hp hs
theorem WJ{f:FuncId}{t:TypeId}{u r:Value}{name:String}[hm:I8 P t u name f r](vs:List Value)(w:World):
  (invoke (.fn (.method name) #[]) (#[.iface t u]++vs.toArray)).run P w=(callFunc f (r::vs).toArray).run P w:=by
 have h1:(#[Value.iface t u]++vs.toArray).extract 1 (#[Value.iface t u]++vs.toArray).size=vs.toArray:=by
  apply Array.toList_inj.1;simp
 have h2:(#[Value.iface t u]++vs.toArray)[0]?=some (.iface t u):=by simp
 simp only [invoke,h2,h1,callMethod,Sem.run_bind,run_program,Result.andThen_ok,hm.get];congr 2
 simp
theorem HL{f:FuncId}{t:TypeId}{u r v:Value}{name:String}{e:Array Value→Sem Value}{xs:List Operand}{vs:List Value}(hx:ev E x=some (.iface t u))[hm:I8 P t u name f r][hf:GS P f e]
  (hxs:DR E xs=some vs)(he:∀w,Sat B H w→(e (r::vs).toArray).run P w=.ok v w):
  Aa P B n ⟨d,.call ⟨.invoke x name,xs.toArray,ats⟩,ty,pos,af,g⟩ E H v:=by
 intro a w h1 hw;simp only [execOp,resolve,List.map_toArray,He h1 hxs,h1.ev hx,Sem.run_bind,Sem.run_pure,Result.andThen_ok,WJ (hm:=hm)];rw [hf.get,he w hw];rfl
theorem vI{f:FuncId}{t:TypeId}{u r:Value}{name:String}{xs:List Operand}{vs:List Value}{Post:Value→HP→Prop}(hx:ev E x=some (.iface t u))[hm:I8 P t u name f r][hf:Ac P f]
  (hxs:DR E xs=some vs)(hs:Fn P B f (r::vs) H Post):CH P B n ⟨d,.call ⟨.invoke x name,xs.toArray,ats⟩,ty,pos,af,g⟩ E D H Post:=by
 intro a w h1 _ h3 K Q hk
 have hrun:(execOp a.eval ⟨d,.call ⟨.invoke x name,xs.toArray,ats⟩,ty,pos,af,g⟩).run P w=.ok (.enter f (r::vs).toArray) w:=by
  simp only [execOp,resolve,List.map_toArray,He h1 hxs,h1.ev hx,Sem.run_bind,Sem.run_pure,Result.andThen_ok,WJ (hm:=hm)];rw [hf.get]
 simp only [Oper.wp,hrun,Oper.upon];refine(hs w h3).mono ?_;rintro e w' ⟨v,H',rfl,hp,hs'⟩;exact hk v H' w' hp hs'
theorem SF{u v:Value}{ok:Bool}(hx:ev E x=some u)(h:∀w,(Instr.typeAssert u T T' ok).run P w=.ok v w):Aa P B n ⟨d,.typeAssert x T T' ok,ty,pos,af,g⟩ E H v:=by
 intro a w he _;simp only [execOp,he.ev hx,Sem.run_bind,h,Result.andThen_ok,Sem.run_pure]
theorem J0{op:BinOp}{u v r:Value}(hx:ev E x=some u)(hy:ev E y=some v)(hg:∀w,(eqGuard op T x y u v).run P w=.ok () w)(h:∀w,(binOp op T u v).run P w=.ok r w):
  Aa P B n ⟨d,.binOp op T x y T',ty,pos,af,g⟩ E H r:=by
 intro a w he _;simp only [execOp,he.ev hx,he.ev hy,Sem.run_bind,hg,h,Result.andThen_ok,Sem.run_pure]
theorem eT{i:Int}(hx:ev E x=some (.int .i64 i))(h: -9223372036854775808<i∧i≤9223372036854775808):Aa P B n ⟨d,.unOp .neg T x,ty,pos,af,g⟩ E H (.int .i64 (-i)):=by
 intro a w he _
 have e:IntKind.i64.wrap (0-i)= -i:=by rw [Int.zero_sub];exact IntWalk.i64_in _ (by omega)
 simp only [execOp,he.ev hx,Op.unary,Sem.run_bind];have h2:(Op.intArith .sub .i64 0 i).run P w=.ok (.int .i64 (IntKind.i64.wrap (0-i))) w:=rfl;rw [h2,e];rfl
end
end
section
def FN(P:Program)(B:World)(f:FuncId)(args:List Value)(H:HP)(Post:Value→HP→Prop)(Px:List PanicEntry→HP→Prop):Prop:=
 ∀w,Sat B H w→Calls P f args.toArray w fun e w'=>(∃v H',e=.returned v∧Post v H'∧Sat B H' w')∨(∃c H',e=.panicked c∧Px c H'∧Sat B H' w')
theorem FN.mono{P:Program}{B:World}{f:FuncId}{args:List Value}{H:HP}{A C:Value→HP→Prop}{Ax Cx:List PanicEntry→HP→Prop}(h:FN P B f args H A Ax)
  (hc:∀v H',A v H'→C v H')(hx:∀c H',Ax c H'→Cx c H'):FN P B f args H C Cx:=
 fun w hw=>(h w hw).mono fun _ _ h=>h.imp (fun⟨v,H',e,a,s⟩=>⟨v,H',e,hc v H' a,s⟩) (fun⟨c,H',e,a,s⟩=>⟨c,H',e,hx c H' a,s⟩)
abbrev pn(v:Value):List PanicEntry:=[{v,recovered:=false}]
section
variable{P:Program}{B:World}{n:Nat}{E:A2}{D:Bu}{H R:HP}{d:Option Tmp}{T T' ty:TypeId}{pos:String}{af:Array Edge}{g:Option (Nat×Bool)}{x y z:Operand}
 {ops:Array Oper} {Q:Exit→Act→World→Prop} {rest:List Oper} {op:Op} {fuel last:Nat} {ls:Array Bool}
def Nk(P:Program)(B:World)(n:Nat)(o:Oper)(E:A2)(D:Bu)(H:HP)(Post:Value→HP→Prop)(Px:List PanicEntry→HP→Prop):Prop:=
 (∀c,o.op≠ .defer c)∧∀a w,CW n E a→a.defers=D.ds→Sat B H w→∀(K:Act→World→Prop) (Q:Exit→Act→World→Prop),
  (∀v H' w',Post v H'→Sat B H' w'→K (a.put o.dst v) w')→(∀c H' w',Px c H'→Sat B H' w'→Q (.panic c) a w')→o.wp P a w K Q
theorem Dk{t:Nat}{Post:Value→HP→Prop}{Px:List PanicEntry→HP→Prop}(he:Nk P B n ⟨some t,op,ty,pos,af,none⟩ E D H Post Px)(ht:Nat.blt t n=true)
  (next:∀v H',Post v H'→WL P B ops Q rest n ((t,v)::E) D H')(px:∀c H',Px c H'→BC B Q (.panic c) n E D H'):WL P B ops Q (⟨some t,op,ty,pos,af,none⟩::rest) n E D H:=by
 intro a w h1 h2 h3;unfold wpListIn;rw [if_pos (by simp [Region.wanted])];exact NO he.1 (he.2 a w h1 h2 h3 _ _ (fun v H' w' hp hs=>next v H' hp _ w' (h1.put (by simpa using ht) v) (by simp [Act.put,h2]) hs) (fun c H' w' hp hs=>px c H' hp a w' h1 h2 hs))
theorem xD{Post:Value→HP→Prop}{Px:List PanicEntry→HP→Prop}(he:Nk P B n ⟨none,op,ty,pos,af,none⟩ E D H Post Px)
  (next:∀v H',Post v H'→WL P B ops Q rest n E D H')(px:∀c H',Px c H'→BC B Q (.panic c) n E D H'):WL P B ops Q (⟨none,op,ty,pos,af,none⟩::rest) n E D H:=by
 intro a w h1 h2 h3;unfold wpListIn;rw [if_pos (by simp [Region.wanted])];exact NO he.1 (he.2 a w h1 h2 h3 _ _ (fun v H' w' hp hs=>next v H' hp _ w' h1 h2 hs) (fun c H' w' hp hs=>px c H' hp a w' h1 h2 hs))
theorem Gc{f:FuncId}{xs:List Operand}{vs:List Value}{ats:Array TypeId}{Post:Value→HP→Prop}{Px:List PanicEntry→HP→Prop}[hf:Ac P f](hx:DR E xs=some vs)(hs:FN P B f vs H Post Px):
  Nk P B n ⟨d,.call ⟨.value (.func f),xs.toArray,ats⟩,ty,pos,af,g⟩ E D H Post Px:=by
 refine⟨fun c h=>by simp at h,?_⟩;intro a w h1 _ h3 K Q hk hp
 have hrun:(execOp a.eval ⟨d,.call ⟨.value (.func f),xs.toArray,ats⟩,ty,pos,af,g⟩).run P w=.ok (.enter f vs.toArray) w:=by
  simp only [execOp,resolve,List.map_toArray,He h1 hx,Act.eval,Deferred.ofValue,Sem.run_bind,Sem.run_pure,Result.andThen_ok,invoke];simp [hf.get]
 simp only [Oper.wp,hrun,Oper.upon];refine(hs w h3).mono ?_;rintro e w' (⟨v,H',rfl,hq,hs'⟩|⟨c,H',rfl,hq,hs'⟩)
 ·exact hk v H' w' hq hs'
 ·exact hp c H' w' hq hs'
theorem o6{f:FuncId}{t:Operand}{xs:List Operand}{vs us:List Value}{ats:Array TypeId}{Post:Value→HP→Prop}{Px:List PanicEntry→HP→Prop}[hf:Ac P f]
  (ht:ev E t=some (.func (.func f) #[] us.toArray))(hx:DR E xs=some vs)(hs:FN P B f (vs++us) H Post Px):
  Nk P B n ⟨d,.call ⟨.value t,xs.toArray,ats⟩,ty,pos,af,g⟩ E D H Post Px:=by
 refine⟨fun c h=>by simp at h,?_⟩;intro a w h1 _ h3 K Q hk hp
 have hrun:(execOp a.eval ⟨d,.call ⟨.value t,xs.toArray,ats⟩,ty,pos,af,g⟩).run P w=.ok (.enter f (vs++us).toArray) w:=by
  simp only [execOp,resolve,List.map_toArray,He h1 hx,h1.ev ht,Deferred.ofValue,Sem.run_bind,Sem.run_pure,Result.andThen_ok,invoke];simp [hf.get]
 simp only [Oper.wp,hrun,Oper.upon];refine(hs w h3).mono ?_;rintro e w' (⟨v,H',rfl,hq,hs'⟩|⟨c,H',rfl,hq,hs'⟩)
 ·exact hk v H' w' hq hs'
 ·exact hp c H' w' hq hs'
theorem pQ{t:TypeId}{v:Value}{Post:Value→HP→Prop}(hx:ev E x=some (.iface t v)):Nk P B n ⟨d,.panic x,ty,pos,af,g⟩ E D H Post (fun c H'=>c=pn (.iface t v)∧H'=H):=by
 refine⟨fun c h=>by simp at h,?_⟩;intro a w h1 _ h3 K Q hk hp
 have hrun:(execOp a.eval ⟨d,.panic x,ty,pos,af,g⟩).run P w=.halt (.panic (.iface t v)) w:=by
  simp [execOp,h1.ev hx,Instr.panic]
 simp only [Oper.wp,hrun,Oper.upon];exact hp _ _ _ ⟨rfl,rfl⟩ h3
variable{c:List PanicEntry}
theorem lK{K:Act→World→Prop}(h:BC B Q (.panic c) n E D H):BC B (Exit.then K Q) (.panic c) n E D H:=h
theorem jS{id:Nat}(h:BC B Q (.panic c) n E D H):BC B (Exit.inBlock id Q) (.panic c) n E D H:=h
def K5(P:Program)(B:World)(fn:Func)(Post:Value→HP→Prop)(Px:List PanicEntry→HP→Prop):Exit→Act→World→Prop:=
 bodyPost P fn fun e w'=>(∃v H',e=.returned v∧Post v H'∧Sat B H' w')∨(∃c H',e=.panicked c∧Px c H'∧Sat B H' w')
instance{P:Program}{B:World}{fn:Func}{Post:Value→HP→Prop}{Px:List PanicEntry→HP→Prop}:PQ (K5 P B fn Post Px):=⟨by
 intro c a w d v h
 cases d<;>exact h,by rintro a w (⟨v,H',h,_⟩|⟨v,H',h,_⟩)<;>cases h⟩
theorem Hk{c:Code}{f:FuncId}{fn:Func}{args:List Value}{Post:Value→HP→Prop}{Px:List PanicEntry→HP→Prop}(hf:P.funcs[f]?=some fn)(hb:fn.body=some c)(hn:fn.ntmps=n)
  (ha:Nat.ble args.length n=true)(h:WP P B c (K5 P B fn Post Px) n (Ii 0 args) ⟨[],none⟩ H):FN P B f args H Post Px:=by
 intro w hw;refine calls_of_wp hf hb (wpIn_wide.1 (h _ w ⟨?_,?_⟩ rfl hw))
 ·have:args.length≤n:=by simpa using ha
  simp [hn];omega
 ·intro t v e;obtain⟨_,h2⟩:=LU args 0 t v e;simp only [Nat.sub_zero]at h2;have hlt:t<args.length:=(List.getElem?_eq_some_iff.1 h2).1;simp only [];rw [Array.getElem?_append_left (by simpa using hlt)];simpa using h2
theorem Lq{r:Option Nat}{fn:Func}{Post:Value→HP→Prop}{Px:List PanicEntry→HP→Prop}(hp:Px c H):BC B (K5 P B fn Post Px) (.panic c) n E ⟨[],r⟩ H:=
 fun _ w h1 h2 h3=>⟨h2,.inr ⟨_,_,rfl,hp,h3⟩⟩
theorem Fv{r:Option Nat}{fn:Func}{Post:Value→HP→Prop}{Px:List PanicEntry→HP→Prop}(H':HP)[hE:Bq B H H'](hp:Px c H'):BC B (K5 P B fn Post Px) (.panic c) n E ⟨[],r⟩ H:=
 fun _ w h1 h2 h3=>⟨h2,.inr ⟨_,_,rfl,hp,hE.get w h3⟩⟩
theorem Qg{r:Option Nat}{fn:Func}{Post:Value→HP→Prop}{Px:List PanicEntry→HP→Prop}{ts:List Nat}{vs:List Value}(hr:fn.results=(ts.map ResultVar.tmp).toArray)(hv:DR E (ts.map Operand.tmp)=some vs)
  (hp:Post (FH vs) H):BC B (K5 P B fn Post Px) .ret n E ⟨[],r⟩ H:=
 fun _ w h1 h2 h3=>⟨h2,_,JS hr h1 hv w,.inl ⟨_,_,rfl,hp,h3⟩⟩
theorem fK{r:Option Nat}{fn:Func}{Post:Value→HP→Prop}{Px:List PanicEntry→HP→Prop}{ts:List Nat}{vs:List Value}(H':HP)[hE:Bq B H H'](hr:fn.results=(ts.map ResultVar.tmp).toArray)(hv:DR E (ts.map Operand.tmp)=some vs)
  (hp:Post (FH vs) H'):BC B (K5 P B fn Post Px) .ret n E ⟨[],r⟩ H:=
 fun _ w h1 h2 h3=>⟨h2,_,JS hr h1 hv w,.inl ⟨_,_,rfl,hp,hE.get w h3⟩⟩
theorem Ni{r:Option Nat}{fn:Func}{Post:Value→HP→Prop}{Px:List PanicEntry→HP→Prop}{ts:List Nat}{vs:List Value}(hr:fn.results=(ts.map ResultVar.tmp).toArray)(hv:DR E (ts.map Operand.tmp)=some vs)
  (hp:Post (FH vs) H):BC B (K5 P B fn Post Px) .normal n E ⟨[],r⟩ H:=
 fun _ w h1 h2 h3=>⟨h2,_,JS hr h1 hv w,.inl ⟨_,_,rfl,hp,h3⟩⟩
theorem vE{t j tj:Nat}{want:Bool}(hj:(ops[j]?).bind (·.dst)=some tj)(hb:lk E tj=some undef)(ht:Nat.blt t n=true)
  (next:WL P B ops Q rest n ((t,undef)::E) D H):WL P B ops Q (⟨some t,op,ty,pos,af,some (j,want)⟩::rest) n E D H:=by
 intro a w h1 h2 h3
 have hy:yielded ops a.tmps j=none:=by
  have:=h1.2 _ _ hb
  unfold yielded;rw [hj,Option.bind_some,this];rfl
 unfold wpListIn;rw [if_neg (by simp [Region.wanted,hy])];exact⟨fun _ _=>trivial,next _ w (h1.put (by simpa using ht) undef) (by simp [Act.put,h2]) h3⟩
theorem oQ(i:Nat){t j tj:Nat}{want:Bool}(hi:ops[i]?=some ⟨some t,op,ty,pos,af,some (j,want)⟩)(hk:BT ops ls last i=true)[hq:PQ Q][hE:Bq B H R](ht:Nat.blt t n=true)
  (hj:(ops[j]?).bind (·.dst)=some tj)(hb:lk E tj=some undef)
  (next:WA P B ops Q R last fuel (ls.setIfInBounds i true) n ((t,undef)::E) D H):
  WA P B ops Q R last (fuel+1) ls n E D H:=by
 intro a w h1 h2 h3
 have hy:yielded ops a.tmps j=none:=by
  have:=h1.2 _ _ hb
  unfold yielded;rw [hj,Option.bind_some,this];rfl
 simp only [BT,Bool.and_eq_true]at hk;obtain⟨⟨⟨⟨hs,hf⟩,hr⟩,hl⟩,hcl⟩:=hk;refine QZ hi hs hl (fun c a w=>hq.get c a w _ _) fuel ls a w (Qj hcl) (Region.free_spec hi hf) (by simpa using hr) (.inr ⟨by simp [Region.wanted,hy],rfl⟩) (hE.get w h3) ?_;exact next _ w (h1.put (by simpa using ht) undef) (by simp [Act.put,h2]) h3
end
end
section
section
variable{P:Program}{B:World}{α:Type}[AC α]
theorem Rn(b o i:Nat)(xs:List α)(s:List Value):AB b o xs s=AB b o (xs.take i) (AD (xs.drop i)++s):=by
 unfold AB;rw [←List.append_assoc,←Er,List.take_append_drop]
def O'(p:Option Addr)(b o c:Nat)(xs:List α)(s:List Value)(R:HP)(ys:List α)(v:Value)(H':HP):Prop:=
 (xs.length+ys.length≤c∧v=.slice p (xs.length+ys.length) c∧H'=AB b o (xs++ys) (s.drop (ys.length*AC.sz α))*R)∨
 (c<xs.length+ys.length∧∃b' c' s',v=.slice (some ⟨b',0,none⟩) (xs.length+ys.length) c'∧xs.length+ys.length≤c'∧(xs.length+ys.length)*AC.sz α+s'.length=c'*AC.sz α∧H'=AB b' 0 (xs++ys) s'*(AB b o xs s*R))
theorem V0{R:HP}{b o:Nat}{p:Option Addr}{c:Nat}{xs ys:List α}{s:List Value}{sT xT:TypeId}{ats:Array TypeId}{e by_:Nat}{ty:TypeId}{x:Value}{w:World}{z:Value}
  (hT:P.underlying sT=some (.slice e))(ha0:ats[0]?=some sT)(ha1:ats[1]?=some xT)(hxT:∀k,P.underlying xT≠some (.int k))(hxT':∃d,P.underlying xT=some d)
  (hz:∀w,(sizeOf e).run P w=.ok (AC.sz α) w)(hi:∃i,(∀w,(typeInfo e).run P w=.ok i w)∧i.bytes=by_)(h0:∀w,(zeroValue e).run P w=.ok z w)(hzc:z.cells.size=AC.sz α)
  (hs:Sl p b o xs.length c)(hc:xs.length*AC.sz α+s.length=c*AC.sz α)
  (hlen:(Builtin.lenOf x).run P w=.ok ys.length w)
  (hx':∀w',Sat B (AB b o xs s*R) w'→(Builtin.firstCells (AC.sz α) ys.length x).run P w'=.ok (AD ys).toArray w')
  (hb:(xs.length+ys.length)*by_≤140737488355328)(hby:0<by_)(hw:Sat B (AB b o xs s*R) w):
  ∃v w',(Builtin.append_ ats ty #[.slice p xs.length c,x]).run P w=.ok v w'∧∃H',O' p b o c xs s R ys v H'∧Sat B H' w':=by
 have hcells:=hx' w hw;obtain⟨dx,hdx⟩:=hxT';obtain⟨inf,hinf,rfl⟩:=hi;have hdx':∀k,dx≠ .int k:=fun k h=>hxT k (by rw [hdx,h])
 have hzero:(match dx with| .int _=>true|_=>false)=false:=by cases dx<;>first|rfl|exact absurd rfl (hdx' _)
 by_cases hn:xs.length+ys.length≤c
 ·by_cases hc0:c=0
  ·have hx0:xs=[]:=List.length_eq_zero_iff.1 (by omega);have hy0:ys=[]:=List.length_eq_zero_iff.1 (by omega);subst hx0 hy0 hc0
   have hrun:(Builtin.append_ ats ty #[.slice p ([]:List α).length 0,x]).run P w=.ok (.slice p 0 0) w:=by
    simp only [Builtin.append_,ha0,ha1];simp only [List.length_nil,Nat.add_zero]at*;simp [Bk hT,Bk hdx,hz,hlen,hcells,AD];cases p<;>simp [storeCells]
   exact⟨_,w,hrun,_,.inl ⟨by simp,rfl,rfl⟩,by simpa using hw⟩
  ·obtain rfl:=hs.1.resolve_left hc0;have hcm:=Nat.mul_le_mul_right (AC.sz α) hn;rw [Nat.add_mul]at hcm
   have hw2:Sat B (HP.AA b (o+xs.length*AC.sz α+0) s*(HP.AA b o (AD xs)*R)) w:=by
    rw [HP.CI,←HP.assoc,Nat.add_zero,←Bp,←HP.FM];exact hw
   obtain⟨w',h1,h2⟩:=Sat.JW (P:=P) (AD ys) (o+xs.length*AC.sz α) 0 s _ w (by rw [Bp];omega) (KA ys) hw2
   have ha:Addr.add ⟨b,o,none⟩ (xs.length*AC.sz α)=⟨b,o+xs.length*AC.sz α,none⟩:=by
    by_cases e2:xs.length*AC.sz α=0<;>simp [Addr.add,e2]
   have hrun:(Builtin.append_ ats ty #[.slice (some ⟨b,o,none⟩) xs.length c,x]).run P w=.ok (.slice (some ⟨b,o,none⟩) (xs.length+ys.length) c) w':=by
    simp only [Builtin.append_,ha0,ha1];simp [Bk hT,Bk hdx,hz,hlen,hn,hcells,ha,h1]
   refine⟨_,w',hrun,_,.inl ⟨hn,rfl,rfl⟩,?_⟩;unfold AB;rw [Er,List.append_assoc,HP.FM,HP.assoc,HP.CI,Bp xs,←Nat.add_zero (o+xs.length*AC.sz α)];rw [Bp]at h2;exact h2
 ·have hby0:¬inf.bytes=0:=by omega
  have hg:¬281474976710656<Builtin.nextslicecap (xs.length+ys.length) c*inf.bytes:=by
   have:=growslice_fits (old:=c) (by omega) hb;omega
  have hfo:(Question.appendCap (xs.length+ys.length) c e).forced=false:=rfl
  have hold:(Builtin.firstCells (AC.sz α) xs.length (.slice p xs.length c)).run P w.drew=.ok (AD xs).toArray w.drew:=by
   have hwd:Sat B (AB b o xs s*R) w.drew:=hw.II;rcases hs.1 with h1|rfl
   ·have hx0:xs=[]:=List.length_eq_zero_iff.1 (by have:=hs.2;omega);subst hx0;cases p<;>simp [Builtin.firstCells,AD,loadCells,loadCellsFrom]
   ·simp only [Builtin.firstCells];exact Ad.run (H:=AB b o xs s*R) inferInstance hwd
  have hnew:=hx' w.drew hw.II
  obtain⟨N,hN⟩:∃N,N=(Question.appendCap (xs.length+ys.length) c e).cut (w.tape w.drawn (Question.appendCap (xs.length+ys.length) c e)):=⟨_,rfl⟩
  have hle:xs.length+ys.length≤N:=by rw [hN];simp [Question.cut]
  have hrun:(Builtin.append_ ats ty #[.slice p xs.length c,x]).run P w=.ok (.slice (some ⟨w.heap.size,0,none⟩) (xs.length+ys.length) N)
    (w.drew.alloc (.cells ((AD xs).toArray++((AD ys).toArray++Builtin.zeroCells z.cells (N-(xs.length+ys.length)))) e)):=by
   simp only [Builtin.append_,ha0,ha1];simp [Bk hT,Bk hdx,hz,hlen,hn,hinf,hby0,hg,hfo,hold,hnew,h0,newRow,←hN]
  have hcm:=Nat.mul_le_mul_right (AC.sz α) hle;have hall:=(show Sat B (AB b o xs s*R) w.drew from hw.II).alloc ((AD xs).toArray++((AD ys).toArray++Builtin.zeroCells z.cells (N-(xs.length+ys.length)))) e;refine⟨_,_,hrun,_,.inr ⟨by omega,w.heap.size,N,(Builtin.zeroCells z.cells (N-(xs.length+ys.length))).toList,rfl,hle,?_,rfl⟩,?_⟩
  ·have e1:(Builtin.zeroCells z.cells (N-(xs.length+ys.length))).toList.length=(N-(xs.length+ys.length))*AC.sz α:=by rw [←hzc];simp [Builtin.zeroCells]
   rw [e1,Nat.sub_mul];omega
  ·have e2:((AD xs).toArray++((AD ys).toArray++Builtin.zeroCells z.cells (N-(xs.length+ys.length)))).toList=AD xs++(AD ys++(Builtin.zeroCells z.cells (N-(xs.length+ys.length))).toList):=by simp
   rw [e2]at hall;unfold AB at hall⊢;rw [Er,List.append_assoc];exact hall
theorem X0{n:Nat}{E:A2}{D:Bu}{R:HP}{d:Option Tmp}{sT xT ty e by_:Nat}{pos:String}{af:Array Edge}{g:Option (Nat×Bool)}{x y:Operand}{b o bb oo cc c:Nat}{p pp:Option Addr}
  {xs ys:List α}{s:List Value}{z:Value}[hT:Au P sT (.slice e)][hT2:Au P xT (.slice e)][hz:Bj P e (AC.sz α)][hi:FA P e by_][h0:BQ P e z]
  (hx:ev E x=some (.slice p xs.length c))(hs:Sl p b o xs.length c)(hc:xs.length*AC.sz α+s.length=c*AC.sz α)
  (hy:ev E y=some (.slice pp ys.length cc))(hs2:Sl pp bb oo ys.length cc)(hr:Ad B (AB b o xs s*R) bb oo ys)(hzc:z.cells.size=AC.sz α)
  (hb:(xs.length+ys.length)*by_≤140737488355328)(hby:0<by_):
  CH P B n ⟨d,.call ⟨.builtin .append,#[x,y],#[sT,xT]⟩,ty,pos,af,g⟩ E D (AB b o xs s*R) (fun v H'=>O' p b o c xs s R ys v H'):=by
 intro a w h1 _ h3 K Q hk
 have hf:∀w',Sat B (AB b o xs s*R) w'→(Builtin.firstCells (AC.sz α) ys.length (.slice pp ys.length cc)).run P w'=.ok (AD ys).toArray w':=by
  intro w' hw';rcases hs2.1 with h4|rfl
  ·have hx0:ys=[]:=List.length_eq_zero_iff.1 (by have:=hs2.2;omega);subst hx0;cases pp<;>simp [Builtin.firstCells,AD,loadCells,loadCellsFrom]
  ·simp only [Builtin.firstCells];exact hr.run hw'
 obtain⟨v,w',hrun,H',hH,hw'⟩:=V0 (P:=P) (B:=B) (R:=R) (b:=b) (o:=o) (p:=p) (c:=c) (xs:=xs) (ys:=ys) (s:=s) (sT:=sT) (xT:=xT) (ats:= #[sT,xT]) (e:=e) (by_:=by_) (ty:=ty)
  (x:=.slice pp ys.length cc) (w:=w) (z:=z) hT.get rfl rfl (fun k h=>by rw [hT2.get]at h;cases h) ⟨_,hT2.get⟩ hz.get hi.get h0.get hzc hs hc rfl
  (fun w2 hw2=>hf w2 hw2) hb hby h3
 have hrun2:(execOp a.eval ⟨d,.call ⟨.builtin .append,#[x,y],#[sT,xT]⟩,ty,pos,af,g⟩).run P w=.ok (.value v) w':=by
  simp [execOp,resolve,h1.ev hx,h1.ev hy,invoke,builtin,hrun]
 simp only [Oper.wp,hrun2,Oper.upon];exact hk v H' w' hH hw'
theorem TK{n:Nat}{E:A2}{D:Bu}{R:HP}{d:Option Tmp}{sT xT ty e by_:Nat}{pos:String}{af:Array Edge}{g:Option (Nat×Bool)}{x y:Operand}{b o bb oo cc c:Nat}{p pp:Option Addr}
  {xs ys:List α}{s:List Value}{z:Value}[hT:Au P sT (.slice e)][hT2:Au P xT (.slice e)][hz:Bj P e (AC.sz α)][hi:FA P e by_][h0:BQ P e z]
  (hx:ev E x=some (.slice p xs.length c))(hs:Sl p b o xs.length c)(hc:xs.length*AC.sz α+s.length=c*AC.sz α)
  (hy:ev E y=some (.slice pp ys.length cc))(hs2:Sl pp bb oo ys.length cc)(hr:Ad B (AB b o xs s*R) bb oo ys)(hzc:z.cells.size=AC.sz α)
  (hb:(xs.length+ys.length)*by_≤140737488355328)(hby:0<by_)(hin:xs.length+ys.length≤c):
  CH P B n ⟨d,.call ⟨.builtin .append,#[x,y],#[sT,xT]⟩,ty,pos,af,g⟩ E D (AB b o xs s*R) (fun v H'=>v=.slice p (xs.length+ys.length) c∧H'=AB b o (xs++ys) (s.drop (ys.length*AC.sz α))*R):=by
 intro a w h1 h2 h3 K Q hk;refine X0 (hT:=hT) (hT2:=hT2) (hz:=hz) (hi:=hi) (h0:=h0) hx hs hc hy hs2 hr hzc hb hby a w h1 h2 h3 K Q fun v H' w' hp hw'=>?_;rcases hp with⟨_,rfl,rfl⟩|⟨h,_⟩
 ·exact hk _ _ w' ⟨rfl,rfl⟩ hw'
 ·omega
end
section
variable{P:Program}{B:World}{n:Nat}{E:A2}{D:Bu}{H:HP}{d:Option Tmp}{T T' ty:TypeId}{pos:String}{af:Array Edge}{g:Option (Nat×Bool)}{x y z u:Operand}
theorem wE{p:Option Addr}{k c sz l h m:Nat}{e:TypeId}{ik jk mk:IntKind}[hT:Au P T (.slice e)][hz:Bj P e sz](hx:ev E x=some (.slice p k c))(hy:ev E y=some (.int ik l))(hz':ev E z=some (.int jk h))(hu:ev E u=some (.int mk m))
  (hc:l≤h∧h≤m∧m≤c):Aa P B n ⟨d,.slice T x (some y) (some z) (some u),ty,pos,af,g⟩ E H (.slice (sp p m l sz) (h-l) (m-l)):=by
 intro a w he _;simp only [execOp,he.ev hx,Option.map_some,he.ev hy,he.ev hz',he.ev hu,Instr.sliceAt,Instr.slice,Instr.sliceBounds,Sem.run_bind,Bk hT.get,Result.andThen_ok,Sem.run_pure,F0 hc.1,F0 hc.2.1,F0 hc.2.2,hz.get,Option.isSome_some];rfl
theorem Th{zc:Array Value}{n sz:Nat}(h:zc.size=sz):(Builtin.zeroCells zc n).toList.length=n*sz:=by rw [←h];simp [Builtin.zeroCells]
theorem lJ{zc:Array Value}{n:Nat}(h:∀v∈zc.toList,v.oneCell'=true):∀v∈(Builtin.zeroCells zc n).toList,v.oneCell'=true:=by
 intro v hv;simp only [Builtin.zeroCells,Array.toList_map,Array.toList_range,List.mem_map,List.mem_range]at hv;obtain⟨i,hi,rfl⟩:=hv
 have hpos:0<zc.size:=by
  rcases Nat.eq_zero_or_pos zc.size with h0|h0
  ·rw [h0]at hi;simp at hi
  ·exact h0
 have hm:i%zc.size<zc.size:=Nat.mod_lt _ hpos;rw [getElem!_pos zc _ hm];exact h _ (by rw [←Array.getElem_toList];exact List.getElem_mem _)
theorem tY{sT e b o k c sz:Nat}{p:Option Addr}{l:List Value}{R:HP}{zv:Value}[hT:Au P sT (.slice e)][hz:Bj P e sz][h0:BQ P e zv]
  (hx:ev E x=some (.slice p k c))(hs:Sl p b o k c)(hl:k*sz≤l.length)(hzc:zv.cells.size=sz)(hone:∀v∈zv.cells.toList,v.oneCell'=true):
  CH P B n ⟨none,.call ⟨.builtin .clear,#[x],#[sT]⟩,ty,pos,af,g⟩ E D (HP.AA b o l*R) (fun v H'=>∃l',l'.length=l.length∧l'.drop (k*sz)=l.drop (k*sz)∧H'=HP.AA b o l'*R):=by
 intro a w h1 _ h3 K Q hk;by_cases hk0:k=0
 ·subst hk0
  have hrun:(execOp a.eval ⟨none,.call ⟨.builtin .clear,#[x],#[sT]⟩,ty,pos,af,g⟩).run P w=.ok (.value (.tuple #[])) w:=by
   cases p<;>simp [execOp,resolve,h1.ev hx,invoke,builtin,Builtin.clear_,Bk hT.get]
  simp only [Oper.wp,hrun,Oper.upon];exact hk _ _ w ⟨l,rfl,rfl,rfl⟩ h3
 ·obtain rfl:=hs.1.resolve_left (by have:=hs.2;omega);have hlen:=Th (n:=k) hzc;obtain⟨w',k1,k2⟩:=Sat.JW (P:=P) (Builtin.zeroCells zv.cells k).toList o 0 l R w (by rw [hlen];exact hl) (lJ hone) h3
  have hrun:(execOp a.eval ⟨none,.call ⟨.builtin .clear,#[x],#[sT]⟩,ty,pos,af,g⟩).run P w=.ok (.value (.tuple #[])) w':=by
   obtain⟨k',rfl⟩:∃k',k=k'+1:=⟨k-1,by omega⟩
   simp [execOp,resolve,h1.ev hx,invoke,builtin,Builtin.clear_,Bk hT.get,h0.get,k1]
  simp only [Oper.wp,hrun,Oper.upon];exact hk _ _ w' ⟨_,by rw [List.length_append,List.length_drop,hlen];omega,by rw [List.drop_left' hlen,hlen],rfl⟩ k2
end
end
section
theorem JR{α:Type}{φ:α→HP→Prop}{v:α}{H:HP}(k:φ v H):∀v' H',v'=v∧H'=H→φ v' H':=by rintro _ _ ⟨rfl,rfl⟩;exact k
section
variable{P:Program}{B:World}{n:Nat}{E:A2}{D:Bu}{H:HP}{ops:Array Oper}{Q:Exit→Act→World→Prop}{l:List Oper}{c:Code}{e:Exit}{d:Option Tmp}{ty:TypeId}{pos:String}{af:Array Edge}{g:Option (Nat×Bool)}{v:Value}
theorem tA(h:WL P B ops Q l n E D H):WL P B ops Q l n E D H:=h
theorem vW(h:WP P B c Q n E D H):WP P B c Q n E D H:=h
theorem fG(h:BC B Q e n E D H):BC B Q e n E D H:=h
theorem gH{x:Operand}(h:WL P B ops Q (⟨d,.move x,ty,pos,af,g⟩::l) n E D H):WL P B ops Q (⟨d,.move x,ty,pos,af,g⟩::l) n E D H:=h
theorem B_{x:Operand}(h:Aa P B n ⟨d,.move x,ty,pos,af,g⟩ E H v):Aa P B n ⟨d,.move x,ty,pos,af,g⟩ E H v:=h
theorem nJ{x:Operand}(h:WL P B ops Q (⟨d,.assign x,ty,pos,af,g⟩::l) n E D H):WL P B ops Q (⟨d,.assign x,ty,pos,af,g⟩::l) n E D H:=h
theorem H? {x:Operand}(h:Aa P B n ⟨d,.assign x,ty,pos,af,g⟩ E H v):Aa P B n ⟨d,.assign x,ty,pos,af,g⟩ E H v:=h
theorem xG{T:TypeId}{x:Operand}{f:Nat}(h:WL P B ops Q (⟨d,.fieldAddr T x f,ty,pos,af,g⟩::l) n E D H):WL P B ops Q (⟨d,.fieldAddr T x f,ty,pos,af,g⟩::l) n E D H:=h
theorem A! {T:TypeId}{x:Operand}{f:Nat}(h:Aa P B n ⟨d,.fieldAddr T x f,ty,pos,af,g⟩ E H v):Aa P B n ⟨d,.fieldAddr T x f,ty,pos,af,g⟩ E H v:=h
theorem fT{T:TypeId}{x:Operand}(h:WL P B ops Q (⟨d,.load T x,ty,pos,af,g⟩::l) n E D H):WL P B ops Q (⟨d,.load T x,ty,pos,af,g⟩::l) n E D H:=h
theorem I_{T:TypeId}{x:Operand}(h:Aa P B n ⟨d,.load T x,ty,pos,af,g⟩ E H v):Aa P B n ⟨d,.load T x,ty,pos,af,g⟩ E H v:=h
theorem nP{x:Operand}(h:WL P B ops Q (⟨d,.nilCheck x,ty,pos,af,g⟩::l) n E D H):WL P B ops Q (⟨d,.nilCheck x,ty,pos,af,g⟩::l) n E D H:=h
theorem x5{x:Operand}(h:Aa P B n ⟨d,.nilCheck x,ty,pos,af,g⟩ E H v):Aa P B n ⟨d,.nilCheck x,ty,pos,af,g⟩ E H v:=h
theorem wW{x:Operand}{i:Nat}(h:WL P B ops Q (⟨d,.extract x i,ty,pos,af,g⟩::l) n E D H):WL P B ops Q (⟨d,.extract x i,ty,pos,af,g⟩::l) n E D H:=h
theorem J_{x:Operand}{i:Nat}(h:Aa P B n ⟨d,.extract x i,ty,pos,af,g⟩ E H v):Aa P B n ⟨d,.extract x i,ty,pos,af,g⟩ E H v:=h
theorem pJ{b:Builtin}{xs:Array Operand}{ts:Array TypeId}(h:WL P B ops Q (⟨d,.call ⟨.builtin b,xs,ts⟩,ty,pos,af,g⟩::l) n E D H):WL P B ops Q (⟨d,.call ⟨.builtin b,xs,ts⟩,ty,pos,af,g⟩::l) n E D H:=h
theorem C! {b:Builtin}{xs:Array Operand}{ts:Array TypeId}(h:Aa P B n ⟨d,.call ⟨.builtin b,xs,ts⟩,ty,pos,af,g⟩ E H v):Aa P B n ⟨d,.call ⟨.builtin b,xs,ts⟩,ty,pos,af,g⟩ E H v:=h
theorem pH{T T1:TypeId}{x y:Operand}(h:WL P B ops Q (⟨d,.binOp .lss T x y T1,ty,pos,af,g⟩::l) n E D H):WL P B ops Q (⟨d,.binOp .lss T x y T1,ty,pos,af,g⟩::l) n E D H:=h
theorem y8{T T1:TypeId}{x y:Operand}(h:Aa P B n ⟨d,.binOp .lss T x y T1,ty,pos,af,g⟩ E H v):Aa P B n ⟨d,.binOp .lss T x y T1,ty,pos,af,g⟩ E H v:=h
theorem uQ{x y z:Operand}(h:WL P B ops Q (⟨d,.pick x y z,ty,pos,af,g⟩::l) n E D H):WL P B ops Q (⟨d,.pick x y z,ty,pos,af,g⟩::l) n E D H:=h
theorem A? {x y z:Operand}(h:Aa P B n ⟨d,.pick x y z,ty,pos,af,g⟩ E H v):Aa P B n ⟨d,.pick x y z,ty,pos,af,g⟩ E H v:=h
theorem wU{T:TypeId}{x:Operand}(h:WL P B ops Q (⟨d,.unOp .not T x,ty,pos,af,g⟩::l) n E D H):WL P B ops Q (⟨d,.unOp .not T x,ty,pos,af,g⟩::l) n E D H:=h
theorem D_{T:TypeId}{x:Operand}(h:Aa P B n ⟨d,.unOp .not T x,ty,pos,af,g⟩ E H v):Aa P B n ⟨d,.unOp .not T x,ty,pos,af,g⟩ E H v:=h
theorem tQ{T:TypeId}{x y:Operand}(h:WL P B ops Q (⟨d,.indexAddr T x y,ty,pos,af,g⟩::l) n E D H):WL P B ops Q (⟨d,.indexAddr T x y,ty,pos,af,g⟩::l) n E D H:=h
theorem E! {T:TypeId}{x y:Operand}(h:Aa P B n ⟨d,.indexAddr T x y,ty,pos,af,g⟩ E H v):Aa P B n ⟨d,.indexAddr T x y,ty,pos,af,g⟩ E H v:=h
theorem fN{T T1:TypeId}{x y:Operand}(h:WL P B ops Q (⟨d,.binOp .add T x y T1,ty,pos,af,g⟩::l) n E D H):WL P B ops Q (⟨d,.binOp .add T x y T1,ty,pos,af,g⟩::l) n E D H:=h
theorem x8{T T1:TypeId}{x y:Operand}(h:Aa P B n ⟨d,.binOp .add T x y T1,ty,pos,af,g⟩ E H v):Aa P B n ⟨d,.binOp .add T x y T1,ty,pos,af,g⟩ E H v:=h
theorem rL{T:TypeId}{x y:Operand}(h:WL P B ops Q (⟨d,.store T x y,ty,pos,af,g⟩::l) n E D H):WL P B ops Q (⟨d,.store T x y,ty,pos,af,g⟩::l) n E D H:=h
theorem gF{i:Nat}(h:WP P B (.region i ops false) Q n E D H):WP P B (.region i ops false) Q n E D H:=h
end
structure B9(p:Prop):Prop where
 get:p
theorem J1{G' G:Prop}(k:G')(h:B9 G'→G:=by
 intro k
 (first
  |((with_reducible refine tA ?_);(first
   |(with_reducible refine sF ?_)
   |((with_reducible refine gH ?_);refine Fl (Q6 rfl) rfl ?_)
   |((with_reducible refine xG ?_);refine Fl (TA rfl) rfl ?_)
   |((with_reducible refine fT ?_);(first|refine Fl (Fk rfl (by first|trivial|omega)) rfl ?_|refine Fl (Ds rfl rfl) rfl ?_))
   |((with_reducible refine nP ?_);refine Fl (UQ rfl) rfl ?_)
   |((with_reducible refine nJ ?_);refine Fl (Fe rfl) rfl ?_)
   |((with_reducible refine wW ?_);refine Fl (Wl rfl rfl) rfl ?_)
   |((with_reducible refine pJ ?_);(first|refine Fl (bN rfl) rfl ?_|refine Fl (Xf rfl) rfl ?_|refine Fl (iF rfl) rfl ?_))
   |((with_reducible refine pH ?_);refine Fl (D4 rfl rfl) rfl ?_)
   |((with_reducible refine uQ ?_);refine Fl (xH rfl rfl rfl) rfl ?_)
   |((with_reducible refine wU ?_);refine Fl (gT rfl) rfl ?_)
   |((with_reducible refine tQ ?_);refine Fl (Ub rfl rfl (by omega)) rfl ?_)
   |((with_reducible refine fN ?_);refine Fl (Gx rfl rfl (by omega)) rfl ?_)
   |((with_reducible refine rL ?_);refine Bi (Eh rfl rfl rfl (by first|trivial|omega)) (JR ?_))))
  |((with_reducible refine vW ?_);(first
   |(with_reducible refine iE ?_)
   |((with_reducible refine gF ?_);refine nV rfl ?_)
   |(with_reducible refine uV ?_)
   |(with_reducible refine nN ?_)
   |(with_reducible refine uI ?_)
   |(with_reducible refine qP ?_)))
  |((with_reducible refine fG ?_);(first
   |(with_reducible refine Yj ?_)
   |(with_reducible refine Zc ?_)
   |(with_reducible refine XE ?_)
   |(with_reducible refine ZV ?_)
   |(with_reducible refine WE ?_)
   |(with_reducible refine VT ?_)
   |(with_reducible refine Vi ?_)
   |(with_reducible refine bA ?_)
   |refine xL rfl ?_
   |refine Yj ?_
   |refine Zc ?_
   |refine XE ?_
   |refine ZV ?_
   |refine WE ?_
   |refine VT ?_
   |refine Vi ?_
   |refine bA ?_)))
 exact k.get):G:=h ⟨k⟩
theorem J2{G' G:Prop}(k:G')(h:B9 G'→G:=by intro k;(iterate 2 refine J1 ?_);exact k.get):G:=h ⟨k⟩
theorem J3{G' G:Prop}(k:G')(h:B9 G'→G:=by intro k;(iterate 3 refine J1 ?_);exact k.get):G:=h ⟨k⟩
theorem J4{G' G:Prop}(k:G')(h:B9 G'→G:=by intro k;(iterate 4 refine J1 ?_);exact k.get):G:=h ⟨k⟩
theorem J5{G' G:Prop}(k:G')(h:B9 G'→G:=by intro k;(iterate 5 refine J1 ?_);exact k.get):G:=h ⟨k⟩
theorem J6{G' G:Prop}(k:G')(h:B9 G'→G:=by intro k;(iterate 6 refine J1 ?_);exact k.get):G:=h ⟨k⟩
theorem J7{G' G:Prop}(k:G')(h:B9 G'→G:=by intro k;(iterate 7 refine J1 ?_);exact k.get):G:=h ⟨k⟩
theorem J8{G' G:Prop}(k:G')(h:B9 G'→G:=by intro k;(iterate 8 refine J1 ?_);exact k.get):G:=h ⟨k⟩
theorem J9{G' G:Prop}(k:G')(h:B9 G'→G:=by intro k;(iterate 9 refine J1 ?_);exact k.get):G:=h ⟨k⟩
theorem CB{G' G:Prop}(k:G')(h:B9 G'→G:=by intro k;(iterate 10 refine J1 ?_);exact k.get):G:=h ⟨k⟩
theorem Bt{G' G:Prop}(k:G')(h:B9 G'→G:=by intro k;(iterate 11 refine J1 ?_);exact k.get):G:=h ⟨k⟩
theorem DP{G' G:Prop}(k:G')(h:B9 G'→G:=by intro k;(iterate 12 refine J1 ?_);exact k.get):G:=h ⟨k⟩
theorem F5z{G' G:Prop}(k:G')(h:B9 G'→G:=by intro k;(iterate 13 refine J1 ?_);exact k.get):G:=h ⟨k⟩
theorem Gt{G' G:Prop}(k:G')(h:B9 G'→G:=by intro k;(iterate 14 refine J1 ?_);exact k.get):G:=h ⟨k⟩
theorem PE{G' G:Prop}(k:G')(h:B9 G'→G:=by intro k;(iterate 15 refine J1 ?_);exact k.get):G:=h ⟨k⟩
theorem cU{G' G:Prop}(k:G')(h:B9 G'→G:=by intro k;(iterate 16 refine J1 ?_);exact k.get):G:=h ⟨k⟩
theorem oX{G' G:Prop}(k:G')(h:B9 G'→G:=by intro k;(iterate 17 refine J1 ?_);exact k.get):G:=h ⟨k⟩
theorem B? {G' G:Prop}(k:G')(h:B9 G'→G:=by intro k;(iterate 18 refine J1 ?_);exact k.get):G:=h ⟨k⟩
theorem G? {G' G:Prop}(k:G')(h:B9 G'→G:=by intro k;(iterate 19 refine J1 ?_);exact k.get):G:=h ⟨k⟩
theorem F_{G' G:Prop}(k:G')(h:B9 G'→G:=by intro k;(iterate 20 refine J1 ?_);exact k.get):G:=h ⟨k⟩
theorem Uw{G' G:Prop}(k:G')(h:B9 G'→G:=by intro k;(iterate 21 refine J1 ?_);exact k.get):G:=h ⟨k⟩
theorem I? {G' G:Prop}(k:G')(h:B9 G'→G:=by intro k;(iterate 22 refine J1 ?_);exact k.get):G:=h ⟨k⟩
theorem zI{G' G:Prop}(k:G')(h:B9 G'→G:=by intro k;(iterate 23 refine J1 ?_);exact k.get):G:=h ⟨k⟩
theorem sM{G' G:Prop}(k:G')(h:B9 G'→G:=by intro k;(iterate 24 refine J1 ?_);exact k.get):G:=h ⟨k⟩
theorem A_{G' G:Prop}(k:G')(h:B9 G'→G:=by intro k;(iterate 25 refine J1 ?_);exact k.get):G:=h ⟨k⟩
theorem x7{G' G:Prop}(k:G')(h:B9 G'→G:=by intro k;(iterate 26 refine J1 ?_);exact k.get):G:=h ⟨k⟩
theorem E_{G' G:Prop}(k:G')(h:B9 G'→G:=by intro k;(iterate 27 refine J1 ?_);exact k.get):G:=h ⟨k⟩
theorem u9{G' G:Prop}(k:G')(h:B9 G'→G:=by intro k;(iterate 28 refine J1 ?_);exact k.get):G:=h ⟨k⟩
theorem B! {G' G:Prop}(k:G')(h:B9 G'→G:=by intro k;(iterate 29 refine J1 ?_);exact k.get):G:=h ⟨k⟩
theorem D! {G' G:Prop}(k:G')(h:B9 G'→G:=by intro k;(iterate 30 refine J1 ?_);exact k.get):G:=h ⟨k⟩
theorem C_{G' G:Prop}(k:G')(h:B9 G'→G:=by intro k;(iterate 31 refine J1 ?_);exact k.get):G:=h ⟨k⟩
theorem u6{G' G:Prop}(k:G')(h:B9 G'→G:=by intro k;(iterate 32 refine J1 ?_);exact k.get):G:=h ⟨k⟩
theorem D? {G' G:Prop}(k:G')(h:B9 G'→G:=by intro k;(iterate 33 refine J1 ?_);exact k.get):G:=h ⟨k⟩
theorem u7{G' G:Prop}(k:G')(h:B9 G'→G:=by intro k;(iterate 34 refine J1 ?_);exact k.get):G:=h ⟨k⟩
theorem H_{G' G:Prop}(k:G')(h:B9 G'→G:=by intro k;(iterate 35 refine J1 ?_);exact k.get):G:=h ⟨k⟩
theorem E? {G' G:Prop}(k:G')(h:B9 G'→G:=by intro k;(iterate 36 refine J1 ?_);exact k.get):G:=h ⟨k⟩
theorem H! {G' G:Prop}(k:G')(h:B9 G'→G:=by intro k;(iterate 37 refine J1 ?_);exact k.get):G:=h ⟨k⟩
theorem F? {G' G:Prop}(k:G')(h:B9 G'→G:=by intro k;(iterate 38 refine J1 ?_);exact k.get):G:=h ⟨k⟩
theorem x6{G' G:Prop}(k:G')(h:B9 G'→G:=by intro k;(iterate 39 refine J1 ?_);exact k.get):G:=h ⟨k⟩
theorem C? {G' G:Prop}(k:G')(h:B9 G'→G:=by intro k;(iterate 40 refine J1 ?_);exact k.get):G:=h ⟨k⟩
section
variable{P:Program}{B:World}{n:Nat}{E:A2}{D:Bu}{H R:HP}{ops:Array Oper}{Q:Exit→Act→World→Prop}{fuel last:Nat}{ls:Array Bool}{op:Op}{ty:TypeId}{pos:String}{af:Array Edge}{rest:List Oper}
theorem JT(i:Nat){t:Nat}{v:Value}(hi:ops[i]?=some ⟨some t,op,ty,pos,af,none⟩)(hv:Aa P B n ⟨some t,op,ty,pos,af,none⟩ E R v)
  (next:WA P B ops Q R last fuel (ls.setIfInBounds i true) n ((t,v)::E) D H)[hq:PQ Q][hE:Bq B H R](hk:BT ops ls last i=true:=by kernel_rfl)(ht:Nat.blt t n=true:=by rfl):
  WA P B ops Q R last (fuel+1) ls n E D H:=Jt i hi hk ht hv next
theorem Jm(i:Nat){t:Nat}{x:Operand}{v:Value}(next:WA P B ops Q R last fuel (ls.setIfInBounds i true) n ((t,v)::E) D H)[hq:PQ Q][hE:Bq B H R]
  (hi:ops[i]?=some ⟨some t,.move x,ty,pos,af,none⟩:=by rfl)(hx:ev E x=some v:=by rfl)(hk:BT ops ls last i=true:=by kernel_rfl)(ht:Nat.blt t n=true:=by rfl):
  WA P B ops Q R last (fuel+1) ls n E D H:=Jt i hi hk ht (Q6 hx) next
theorem Ja(i:Nat){t:Nat}{x:Operand}{v:Value}(next:WA P B ops Q R last fuel (ls.setIfInBounds i true) n ((t,v)::E) D H)[hq:PQ Q][hE:Bq B H R]
  (hi:ops[i]?=some ⟨some t,.assign x,ty,pos,af,none⟩:=by rfl)(hx:ev E x=some v:=by rfl)(hk:BT ops ls last i=true:=by kernel_rfl)(ht:Nat.blt t n=true:=by rfl):
  WA P B ops Q R last (fuel+1) ls n E D H:=Jt i hi hk ht (Fe hx) next
theorem Jf(i:Nat){t:Nat}{T:TypeId}{x:Operand}{f k b o:Nat}(next:WA P B ops Q R last fuel (ls.setIfInBounds i true) n ((t,.pointer (some ⟨b,o+k,none⟩))::E) D H)[hq:PQ Q][hE:Bq B H R]
  (hi:ops[i]?=some ⟨some t,.fieldAddr T x f,ty,pos,af,none⟩:=by rfl)(hx:ev E x=some (.pointer (some ⟨b,o,none⟩)):=by rfl)[hf:Az P T f k](hk:BT ops ls last i=true:=by kernel_rfl)(ht:Nat.blt t n=true:=by rfl):
  WA P B ops Q R last (fuel+1) ls n E D H:=Jt i hi hk ht (TA hx) next
theorem Jn(i:Nat){t:Nat}{x:Operand}{p:Addr}(next:WA P B ops Q R last fuel (ls.setIfInBounds i true) n ((t,.pointer (some p))::E) D H)[hq:PQ Q][hE:Bq B H R]
  (hi:ops[i]?=some ⟨some t,.nilCheck x,ty,pos,af,none⟩:=by rfl)(hx:ev E x=some (.pointer (some p)):=by rfl)(hk:BT ops ls last i=true:=by kernel_rfl)(ht:Nat.blt t n=true:=by rfl):
  WA P B ops Q R last (fuel+1) ls n E D H:=Jt i hi hk ht (UQ hx) next
theorem Jd(i:Nat){t:Nat}{T:TypeId}{x:Operand}{b o:Nat}{v:Value}(next:WA P B ops Q R last fuel (ls.setIfInBounds i true) n ((t,v)::E) D H)[hq:PQ Q][hE:Bq B H R]
  (hi:ops[i]?=some ⟨some t,.load T x,ty,pos,af,none⟩:=by rfl)(hx:ev E x=some (.pointer (some ⟨b,o,none⟩)):=by rfl)[hT:CD P T][hr:Rd B R b o v True](hk:BT ops ls last i=true:=by kernel_rfl)(ht:Nat.blt t n=true:=by rfl):
  WA P B ops Q R last (fuel+1) ls n E D H:=Jt i hi hk ht (Fk hx trivial) next
theorem JN(i:Nat){t j tj:Nat}{b want:Bool}(hi:ops[i]?=some ⟨some t,op,ty,pos,af,some (j,want)⟩)(hw:b= !want)(next:WA P B ops Q R last fuel (ls.setIfInBounds i true) n ((t,undef)::E) D H)[hq:PQ Q][hE:Bq B H R]
  (hj:(ops[j]?).bind (·.dst)=some tj:=by rfl)(hb:lk E tj=some (.bool b):=by rfl)(hk:BT ops ls last i=true:=by kernel_rfl)(ht:Nat.blt t n=true:=by rfl):
  WA P B ops Q R last (fuel+1) ls n E D H:=EW i hi hk ht hj hb hw next
theorem JU(i:Nat){t j tj:Nat}{want:Bool}(next:WA P B ops Q R last fuel (ls.setIfInBounds i true) n ((t,undef)::E) D H)[hq:PQ Q][hE:Bq B H R]
  (hi:ops[i]?=some ⟨some t,op,ty,pos,af,some (j,want)⟩:=by rfl)(hj:(ops[j]?).bind (·.dst)=some tj:=by rfl)(hb:lk E tj=some undef:=by rfl)(hk:BT ops ls last i=true:=by kernel_rfl)(ht:Nat.blt t n=true:=by rfl):
  WA P B ops Q R last (fuel+1) ls n E D H:=oQ i hi hk ht hj hb next
theorem JY(i:Nat){t j tj:Nat}{v:Value}{b want:Bool}(hi:ops[i]?=some ⟨some t,op,ty,pos,af,some (j,want)⟩)(hw:b=want)(hv:Aa P B n ⟨some t,op,ty,pos,af,none⟩ E R v)
  (next:WA P B ops Q R last fuel (ls.setIfInBounds i true) n ((t,v)::E) D H)[hq:PQ Q][hE:Bq B H R](hj:(ops[j]?).bind (·.dst)=some tj:=by rfl)(hb:lk E tj=some (.bool b):=by rfl)(hk:BT ops ls last i=true:=by kernel_rfl)(ht:Nat.blt t n=true:=by rfl):
  WA P B ops Q R last (fuel+1) ls n E D H:=Ak i hi hk ht hj hb hw hv next
theorem JL{t:Nat}{v:Value}(hv:Aa P B n ⟨some t,op,ty,pos,af,none⟩ E H v)(next:WL P B ops Q rest n ((t,v)::E) D H)(ht:Nat.blt t n=true:=by rfl):
  WL P B ops Q (⟨some t,op,ty,pos,af,none⟩::rest) n E D H:=Fl hv ht next
theorem JG{t j tj:Nat}{b want:Bool}(hw:b=want)(yes:WL P B ops Q (⟨some t,op,ty,pos,af,none⟩::rest) n E D H)(hj:(ops[j]?).bind (·.dst)=some tj:=by rfl)(hb:lk E tj=some (.bool b):=by rfl)(ht:Nat.blt t n=true:=by rfl):
  WL P B ops Q (⟨some t,op,ty,pos,af,some (j,want)⟩::rest) n E D H:=U0 hj hb ht hw yes
theorem JH{t j tj:Nat}{b want:Bool}(hw:b= !want)(no:WL P B ops Q rest n ((t,undef)::E) D H)(hj:(ops[j]?).bind (·.dst)=some tj:=by rfl)(hb:lk E tj=some (.bool b):=by rfl)(ht:Nat.blt t n=true:=by rfl):
  WL P B ops Q (⟨some t,op,ty,pos,af,some (j,want)⟩::rest) n E D H:=bJ hj hb ht hw no
theorem JD(h:BC B Q .normal n E D H)(hr:Region.ready .any ops ls=[]:=by kernel_rfl):WA P B ops Q R last fuel ls n E D H:=tC hr h
end
section
variable{P:Program}{B:World}{n:Nat}{E:A2}{D:Bu}{H:HP}{ops:Array Oper}{Q:Exit→Act→World→Prop}{rest:List Oper}{op:Op}{ty:TypeId}{pos:String}{af:Array Edge}{t:Nat}{Post:Value→HP→Prop}{x y:Code}{u:Operand}{r:Option Nat}{fn:Func}{ts:List Nat}{vs:List Value}
theorem mI{f:FuncId}{args:List Value}{c:Code}(h1:P.funcs[f]?=some fn)(h:WP P B c (Hl P B fn Post) n (Ii 0 args) {ds:=[]} H)(h2:fn.body=some c:=by rfl)(h3:fn.ntmps=n:=by rfl)(h4:args.length.ble n=true:=by rfl):Fn P B f args H Post:=eY h1 h2 h3 h4 h
theorem mE{f:FuncId}{xs:List Operand}{ats:Array TypeId}[hf:Ac P f](hx:DR E xs=some vs)(hc:Fn P B f vs H Post)(k:∀(v:Value) (H':HP),Post v H'→WL P B ops Q rest n ((t,v)::E) D H')(ht:t.blt n=true:=by rfl):
  WL P B ops Q ({dst:=some t,op:=Op.call {callee:=Callee.value (Operand.func f),args:=xs.toArray,argTypes:=ats},type:=ty,pos:=pos,after:=af,guard:=none}::rest) n E D H:=Ag (BJ hx hc) ht k
theorem mC{p:Prop}[inst:Decidable p](h1:p→WP P B x Q n E D H)(h2:¬p→WP P B y Q n E D H)(h:ev E u=some (Value.bool (decide p)):=by rfl):WP P B (Code.cond u x y) Q n E D H:=p8 h h1 h2
theorem mc{b:Bool}(h1:b=true→WP P B x Q n E D H)(h2:b=false→WP P B y Q n E D H)(h:ev E u=some (Value.bool b):=by rfl):WP P B (Code.cond u x y) Q n E D H:=Oy h h1 h2
theorem mR(ts:List Nat)(H':HP)(hr:fn.results=(List.map ResultVar.tmp ts).toArray)(hv:DR E (List.map Operand.tmp ts)=some vs)[hE:Bq B H H'](h:Post (FH vs) H'):BC B (Hl P B fn Post) Exit.ret n E {ds:=[],r:=r} H:=tH H' hr hv h
theorem mr(ts:List Nat)(hr:fn.results=(List.map ResultVar.tmp ts).toArray)(hv:DR E (List.map Operand.tmp ts)=some vs)(h:Post (FH vs) H):BC B (Hl P B fn Post) Exit.ret n E {ds:=[],r:=r} H:=Zg hr hv h
theorem mA{id:Nat}(last k:Nat)[hq:PQ Q](h:WA P B ops Q H last k (Array.replicate k false) n E D H)(h1:P.follows Departure.mixedOrders=true:=by exact Dy)(h2:ops.size=k:=by rfl)(h3:JP ops=true:=by kernel_rfl):WP P B (Code.region id ops true) Q n E D H:=xE last k h1 h2 h3 h
end
end
end Go.Proofs.YtgfdlpcdjklcoaaGreatDoor
