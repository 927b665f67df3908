/- Steps of this proof; no condition. -/
import Derived.Test.YtgfdlpcdjklcoaaGreatDoorP2
import Derived.Test.YtgfdlpcdjklcoaaGreatDoorProg
import Derived.KernelRfl
import Derived.Laws.Externs
namespace Go.Proofs.YtgfdlpcdjklcoaaGreatDoor
open Go Go.RowKit Tryz HP Oper Sat
open _root_.List renaming length→aa
set_option linter.all false
variable{x y:Operand}{T T1:TypeId}{t b i j tj:Nat}{f:FuncId}{Post:Value→HP→Prop}{v u r:Value}{Px:List PanicEntry→HP→Prop}{vs args s:List Value}{fn:Func}{xs:List Operand}{want:Bool}{p:Option Addr}{P:Program}{name:String}{ats:Array TypeId}{d:Option Tmp}{g:Option (Nat×Bool)}{e:Array Value→Sem Value}{ts:List Nat}
set_option maxRecDepth 20000
theorem Aj{c}(hf :P.funcs[f]? =some fn)(G :(fn.name == "runtime.NumGoroutine") =false :=by kernel_rfl)(hb :fn.body =some c :=by rfl):Aa P f :=
 ⟨λargs w=>by simp only[callFunc,bn,run_program,b0,hf,G,hb];rfl,λn D args w=>by simp only[callFunc,BL,Qj,true_and];show Al n D P _ w;simp only[hf,G,hb];trivial⟩
def CL{p:Prop}(h:p:=by exact⟨λ_=>by kernel_rfl,λ_=>by kernel_rfl⟩):p:=h
theorem A0{f k fs}{g:Field}(m)(q:P.underlying t=some (.struct fs))(S:fs[f]?=some g:=by rfl)(Z:g.offset=k:=by rfl)(hm:∀w,(sizeOf g.type).run P w=.ok m w:=by exactλ_=>by kernel_rfl)(h0:m≠0:=by decide):Ay P t f k:=⟨_,q,_,S,Z,m,hm,h0⟩
instance:Aw prog 3 (.int .i64):=⟨underlying3⟩
instance:Bh prog 3 (.int .i64 0):=⟨zeroValue3,by rfl⟩
instance:DC prog 3:=CL
instance:Aw prog 4 (.bool):=⟨underlying4⟩
instance:Bh prog 4 (.bool false):=⟨zeroValue4,by rfl⟩
instance:CG prog 4 1:=⟨λ_=>by kernel_rfl⟩
instance:Ft prog 4 1:=⟨t4,typeInfo4,by kernel_rfl⟩
instance:DC prog 4:=CL
instance:Aw prog 5 (.int .u8):=⟨underlying5⟩
instance:Bh prog 5 (.int .u8 0):=⟨zeroValue5,by rfl⟩
instance:CG prog 5 1:=⟨λ_=>by kernel_rfl⟩
instance:Ft prog 5 1:=⟨t5,typeInfo5,by kernel_rfl⟩
instance:DC prog 5:=CL
instance:Aw prog 9 (.string):=⟨underlying9⟩
instance:Bh prog 9 (.string {data:= #[]}):=⟨zeroValue9,by rfl⟩
instance:CG prog 9 1:=⟨λ_=>by kernel_rfl⟩
instance:Ft prog 9 16:=⟨t9,typeInfo9,by kernel_rfl⟩
instance:DC prog 9:=CL
instance:Aw prog 24 (.array 16 5):=⟨underlying24⟩
instance:GN prog 24 16:=CL
instance:GN prog 35 2:=CL
instance:Ay prog 35 0 0:=A0 1 underlying35
instance:Ay prog 35 1 1:=A0 1 underlying35
instance:Aw prog 36 (.slice 39):=⟨underlying36⟩
instance:DC prog 36:=CL
instance:Aw prog 37 (.int .u64):=⟨underlying37⟩
instance:Bh prog 37 (.int .u64 0):=⟨zeroValue37,by rfl⟩
instance:CG prog 37 1:=⟨λ_=>by kernel_rfl⟩
instance:Ft prog 37 8:=⟨t37,typeInfo37,by kernel_rfl⟩
instance:DC prog 37:=CL
instance:Bh prog 39 (.agg #[.int .i64 0,.int .i64 0,.int .i64 0,.int .u64 0,.string {data:= #[]}]):=⟨zeroValue39,by rfl⟩
instance:CG prog 39 5:=⟨λ_=>by kernel_rfl⟩
instance:Ft prog 39 48:=⟨t39,typeInfo39,by kernel_rfl⟩
instance:GN prog 39 5:=CL
instance:Ay prog 39 0 0:=A0 1 underlying39
instance:Ay prog 39 1 1:=A0 1 underlying39
instance:Ay prog 39 2 2:=A0 1 underlying39
instance:Ay prog 39 3 3:=A0 1 underlying39
instance:Ay prog 39 4 4:=A0 1 underlying39
instance:Aw prog 40 (.pointer 184):=⟨underlying40⟩
instance:DC prog 40:=CL
instance:Aw prog 41 (.int .i64):=⟨underlying41⟩
instance:Bh prog 41 (.int .i64 0):=⟨zeroValue41,by rfl⟩
instance:DC prog 41:=CL
instance:Aw prog 44 (.pointer 116):=⟨underlying44⟩
instance:Aw prog 47 (.slice 53):=⟨underlying47⟩
instance:Aw prog 51 (.slice 9):=⟨underlying51⟩
instance:DC prog 51:=CL
instance:Bh prog 53 (.agg #[.int .i64 0,.int .i64 0,.int .i64 0,.int .u64 0,.string {data:= #[]},.slice none 0 0]):=⟨zeroValue53,by rfl⟩
instance:CG prog 53 6:=⟨λ_=>by kernel_rfl⟩
instance:Ft prog 53 72:=⟨t53,typeInfo53,by kernel_rfl⟩
instance:GN prog 53 6:=CL
instance:GM prog 53 #[(0,1),(1,1),(2,1),(3,1),(4,1),(5,1)]:=⟨_,underlying53,λ_=>by kernel_rfl⟩
instance:Ay prog 53 0 0:=A0 1 underlying53
instance:Ay prog 53 1 1:=A0 1 underlying53
instance:Ay prog 53 2 2:=A0 1 underlying53
instance:Ay prog 53 3 3:=A0 1 underlying53
instance:Ay prog 53 4 4:=A0 1 underlying53
instance:Ay prog 53 5 5:=A0 1 underlying53
instance:Aw prog 62 (.slice 37):=⟨underlying62⟩
instance:DC prog 62:=CL
instance:Aw prog 77 (.slice 4):=⟨underlying77⟩
instance:DC prog 77:=CL
instance:Aw prog 92 (.slice 158):=⟨underlying92⟩
instance:Bh prog 92 (.slice none 0 0):=⟨zeroValue92,by rfl⟩
instance:DC prog 92:=CL
instance:Bh prog 106 (.nilIface):=⟨zeroValue106,by rfl⟩
instance:DC prog 106:=CL
instance:DC prog 110:=CL
instance:Aw prog 112 (.slice 117):=⟨underlying112⟩
instance:DC prog 112:=CL
instance:Aw prog 113 (.slice 120):=⟨underlying113⟩
instance:DC prog 113:=CL
instance:Aw prog 114 (.slice 206):=⟨underlying114⟩
instance:DC prog 114:=CL
instance:Bh prog 116 (.agg #[.int .i64 0,.int .i64 0,AT,AT,AT,AT,AT,AT,AT,AT,AT,AT,AT,AT,AT,AT,AT,AT,.int .i64 0,.int .i64 0,.int .u64 0,.bool false,.int .u64 0,.pointer none,.pointer none,.slice none 0 0,.slice none 0 0,.slice none 0 0,.slice none 0 0]):=⟨zeroValue116,by rfl⟩
instance:GM prog 116 #[(0,2),(2,16),(18,1),(19,1),(20,1),(21,1),(22,1),(23,1),(24,1),(25,1),(26,1),(27,1),(28,1)]:=⟨_,underlying116,λ_=>by kernel_rfl⟩
instance:Ay prog 116 0 0:=A0 2 underlying116
instance:Ay prog 116 1 2:=A0 16 underlying116
instance:Ay prog 116 2 18:=A0 1 underlying116
instance:Ay prog 116 3 19:=A0 1 underlying116
instance:Ay prog 116 4 20:=A0 1 underlying116
instance:Ay prog 116 5 21:=A0 1 underlying116
instance:Ay prog 116 6 22:=A0 1 underlying116
instance:Ay prog 116 7 23:=A0 1 underlying116
instance:Ay prog 116 8 24:=A0 1 underlying116
instance:Ay prog 116 9 25:=A0 1 underlying116
instance:Ay prog 116 10 26:=A0 1 underlying116
instance:Ay prog 116 11 27:=A0 1 underlying116
instance:Ay prog 116 12 28:=A0 1 underlying116
instance:Bh prog 117 (.pointer none):=⟨zeroValue117,by rfl⟩
instance:CG prog 117 1:=⟨λ_=>by kernel_rfl⟩
instance:Ft prog 117 8:=⟨t117,typeInfo117,by kernel_rfl⟩
instance:DC prog 117:=CL
instance:Bh prog 119 (.agg #[.string {data:= #[]},.pointer none,.bool false,.bool false,.int .u64 0,.int .u64 0,.int .u64 0]):=⟨zeroValue119,by rfl⟩
instance:GM prog 119 #[(0,1),(1,1),(2,1),(3,1),(4,1),(5,1),(6,1)]:=⟨_,underlying119,λ_=>by kernel_rfl⟩
instance:Ay prog 119 0 0:=A0 1 underlying119
instance:Ay prog 119 1 1:=A0 1 underlying119
instance:Ay prog 119 2 2:=A0 1 underlying119
instance:Ay prog 119 3 3:=A0 1 underlying119
instance:Ay prog 119 4 4:=A0 1 underlying119
instance:Ay prog 119 5 5:=A0 1 underlying119
instance:Ay prog 119 6 6:=A0 1 underlying119
instance:Bh prog 120 (.pointer none):=⟨zeroValue120,by rfl⟩
instance:CG prog 120 1:=⟨λ_=>by kernel_rfl⟩
instance:Ft prog 120 8:=⟨t120,typeInfo120,by kernel_rfl⟩
instance:DC prog 120:=CL
instance:Aw prog 121 (.slice 5):=⟨underlying121⟩
instance:Bh prog 121 (.slice none 0 0):=⟨zeroValue121,by rfl⟩
instance:CG prog 121 1:=⟨λ_=>by kernel_rfl⟩
instance:Ft prog 121 24:=⟨t121,typeInfo121,by kernel_rfl⟩
instance:DC prog 121:=CL
instance:Bh prog 123 (.agg #[.slice none 0 0,.slice none 0 0,.int .u64 0,.int .u64 0,.bool false,.bool false,.int .u64 0,.int .u64 0,.int .i64 0]):=⟨zeroValue123,by rfl⟩
instance:GM prog 123 #[(0,1),(1,1),(2,1),(3,1),(4,1),(5,1),(6,1),(7,1),(8,1)]:=⟨_,underlying123,λ_=>by kernel_rfl⟩
instance:Ay prog 123 0 0:=A0 1 underlying123
instance:Ay prog 123 1 1:=A0 1 underlying123
instance:Ay prog 123 2 2:=A0 1 underlying123
instance:Ay prog 123 3 3:=A0 1 underlying123
instance:Ay prog 123 4 4:=A0 1 underlying123
instance:Ay prog 123 5 5:=A0 1 underlying123
instance:Ay prog 123 6 6:=A0 1 underlying123
instance:Ay prog 123 7 7:=A0 1 underlying123
instance:Ay prog 123 8 8:=A0 1 underlying123
instance:Aw prog 124 (.chan .both 39):=⟨underlying124⟩
instance:Bh prog 124 (.chan none):=⟨zeroValue124,by rfl⟩
instance:DC prog 124:=CL
instance:Aw prog 125 (.chan .recv 128):=⟨underlying125⟩
instance:Bh prog 128 (.agg #[.nilIface,.int .i64 0,.int .u64 0,.string {data:= #[]},.slice none 0 0]):=⟨zeroValue128,by rfl⟩
instance:Ft prog 128 72:=⟨t128,typeInfo128,by kernel_rfl⟩
instance:GN prog 128 5:=CL
instance:GM prog 128 #[(0,1),(1,1),(2,1),(3,1),(4,1)]:=⟨_,underlying128,λ_=>by kernel_rfl⟩
instance:Ay prog 128 0 0:=A0 1 underlying128
instance:Ay prog 128 1 1:=A0 1 underlying128
instance:Ay prog 128 2 2:=A0 1 underlying128
instance:Ay prog 128 3 3:=A0 1 underlying128
instance:Ay prog 128 4 4:=A0 1 underlying128
instance:Aw prog 142 (.slice 227):=⟨underlying142⟩
instance:DC prog 142:=CL
instance:Bh prog 144 (.agg #[.slice none 0 0,.int .u64 0,.int .i64 0]):=⟨zeroValue144,by rfl⟩
instance:GM prog 144 #[(0,1),(1,1),(2,1)]:=⟨_,underlying144,λ_=>by kernel_rfl⟩
instance:Ay prog 144 0 0:=A0 1 underlying144
instance:Ay prog 144 1 1:=A0 1 underlying144
instance:Ay prog 144 2 2:=A0 1 underlying144
instance:Bh prog 158 (.agg #[.int .i64 0,.int .i64 0,.int .u64 0,.int .u64 0,.bool false,.string {data:= #[]},.slice none 0 0]):=⟨zeroValue158,by rfl⟩
instance:CG prog 158 7:=⟨λ_=>by kernel_rfl⟩
instance:Ft prog 158 80:=⟨t158,typeInfo158,by kernel_rfl⟩
instance:GN prog 158 7:=CL
instance:GM prog 158 #[(0,1),(1,1),(2,1),(3,1),(4,1),(5,1),(6,1)]:=⟨_,underlying158,λ_=>by kernel_rfl⟩
instance:Ay prog 158 0 0:=A0 1 underlying158
instance:Ay prog 158 1 1:=A0 1 underlying158
instance:Ay prog 158 2 2:=A0 1 underlying158
instance:Ay prog 158 3 3:=A0 1 underlying158
instance:Ay prog 158 4 4:=A0 1 underlying158
instance:Ay prog 158 5 5:=A0 1 underlying158
instance:Ay prog 158 6 6:=A0 1 underlying158
instance:Bh prog 171 (.agg #[AT,AT,AT,AT,AT,AT,AT,AT,AT,AT,AT,AT,AT,AT,AT,AT,AT]):=⟨zeroValue171,by rfl⟩
instance:GN prog 171 17:=CL
instance:GM prog 171 #[(0,16),(16,1)]:=⟨_,underlying171,λ_=>by kernel_rfl⟩
instance:Ay prog 171 0 0:=A0 16 underlying171
instance:Ay prog 171 1 16:=A0 1 underlying171
instance:DC prog 173:=CL
instance:CG prog 176 10:=⟨λ_=>by kernel_rfl⟩
instance:Ay prog 176 0 0:=A0 1 underlying176
instance:Ay prog 176 1 1:=A0 1 underlying176
instance:Ay prog 176 2 2:=A0 1 underlying176
instance:Ay prog 176 3 3:=A0 1 underlying176
instance:Ay prog 176 4 4:=A0 1 underlying176
instance:Ay prog 176 5 5:=A0 1 underlying176
instance:Ay prog 176 6 6:=A0 1 underlying176
instance:Ay prog 176 7 7:=A0 1 underlying176
instance:Ay prog 176 8 8:=A0 1 underlying176
instance:Ay prog 176 9 9:=A0 1 underlying176
instance:Aw prog 177 (.array 4 176):=⟨underlying177⟩
instance:CG prog 179 9:=⟨λ_=>by kernel_rfl⟩
instance:Ay prog 179 0 0:=A0 1 underlying179
instance:Ay prog 179 1 1:=A0 1 underlying179
instance:Ay prog 179 2 2:=A0 1 underlying179
instance:Ay prog 179 3 3:=A0 1 underlying179
instance:Ay prog 179 4 4:=A0 1 underlying179
instance:Ay prog 179 5 5:=A0 1 underlying179
instance:Ay prog 179 6 6:=A0 1 underlying179
instance:Ay prog 179 7 7:=A0 1 underlying179
instance:Ay prog 179 8 8:=A0 1 underlying179
instance:Aw prog 180 (.array 4 179):=⟨underlying180⟩
instance:Aw prog 181 (.slice 257):=⟨underlying181⟩
instance:DC prog 181:=CL
instance:Aw prog 182 (.int .u64):=⟨underlying182⟩
instance:DC prog 182:=CL
instance:Bh prog 184 (.agg #[.int .i64 0,.int .i64 0,AT,AT,AT,AT,AT,AT,AT,AT,AT,AT,AT,AT,AT,AT,AT,AT,AT,AT,AT,AT,AT,AT,AT,AT,AT,AT,AT,AT,AT,AT,AT,AT,AT,AT,.int .u64 0,.int .i64 0,.int .u64 0,.bool false,.int .u64 0,.pointer none,.bool false,.slice none 0 0,.pointer none,.pointer none,.int .u64 0,.bool false,.bool false,.bool false,.bool false,.int .u64 0,.bool false,.slice none 0 0,.pointer none,.pointer none,.int .u64 0,.bool false,.bool false,.bool false,.bool false,.int .u64 0,.bool false,.slice none 0 0,.pointer none,.pointer none,.int .u64 0,.bool false,.bool false,.bool false,.bool false,.int .u64 0,.bool false,.slice none 0 0,.pointer none,.pointer none,.int .u64 0,.bool false,.bool false,.bool false,.bool false,.int .u64 0,.bool false,.slice none 0 0,.pointer none,.int .u64 0,.int .u64 0,.bool false,.bool false,.int .u64 0,.int .u64 0,.int .i64 0,.slice none 0 0,.pointer none,.int .u64 0,.int .u64 0,.bool false,.bool false,.int .u64 0,.int .u64 0,.int .i64 0,.slice none 0 0,.pointer none,.int .u64 0,.int .u64 0,.bool false,.bool false,.int .u64 0,.int .u64 0,.int .i64 0,.slice none 0 0,.pointer none,.int .u64 0,.int .u64 0,.bool false,.bool false,.int .u64 0,.int .u64 0,.int .i64 0,.slice none 0 0,.slice none 0 0,.int .u64 0,.int .u64 0]):=⟨zeroValue184,by rfl⟩
instance:GM prog 184 #[(0,2),(2,17),(19,17),(36,1),(37,1),(38,1),(39,1),(40,1),(41,1),(42,1),(43,40),(83,36),(119,1),(120,1),(121,1),(122,1)]:=⟨_,underlying184,λ_=>by kernel_rfl⟩
instance:Ay prog 184 0 0:=A0 2 underlying184
instance:Ay prog 184 1 2:=A0 17 underlying184
instance:Ay prog 184 2 19:=A0 17 underlying184
instance:Ay prog 184 3 36:=A0 1 underlying184
instance:Ay prog 184 4 37:=A0 1 underlying184
instance:Ay prog 184 5 38:=A0 1 underlying184
instance:Ay prog 184 6 39:=A0 1 underlying184
instance:Ay prog 184 7 40:=A0 1 underlying184
instance:Ay prog 184 8 41:=A0 1 underlying184
instance:Ay prog 184 9 42:=A0 1 underlying184
instance:Ay prog 184 10 43:=A0 40 underlying184
instance:Ay prog 184 11 83:=A0 36 underlying184
instance:Ay prog 184 12 119:=A0 1 underlying184
instance:Ay prog 184 13 120:=A0 1 underlying184
instance:Ay prog 184 14 121:=A0 1 underlying184
instance:Ay prog 184 15 122:=A0 1 underlying184
instance:Aw prog 185 (.chan .recv 39):=⟨underlying185⟩
instance:DC prog 185:=CL
instance:Aw prog 186 (.chan .both 128):=⟨underlying186⟩
instance:Bh prog 186 (.chan none):=⟨zeroValue186,by rfl⟩
instance:DC prog 186:=CL
instance:Aw prog 187 (.map 3 189):=⟨underlying187⟩
instance:Bh prog 187 (.map none):=⟨zeroValue187,by rfl⟩
instance:DC prog 187:=CL
instance:Bh prog 189 (.nilFunc):=⟨zeroValue189,by rfl⟩
instance:Bh prog 191 (.pointer none):=⟨zeroValue191,by rfl⟩
instance:DC prog 191:=CL
instance:Bh prog 196 (.agg #[.int .i64 0,.int .i64 0]):=⟨zeroValue196,by rfl⟩
instance:GM prog 196 #[(0,1),(1,1)]:=⟨_,underlying196,λ_=>by kernel_rfl⟩
instance:Ay prog 196 0 0:=A0 1 underlying196
instance:Ay prog 196 1 1:=A0 1 underlying196
instance:Bh prog 206 (.agg #[.int .u64 0,.slice none 0 0]):=⟨zeroValue206,by rfl⟩
instance:CG prog 206 2:=⟨λ_=>by kernel_rfl⟩
instance:Ft prog 206 32:=⟨t206,typeInfo206,by kernel_rfl⟩
instance:GM prog 206 #[(0,1),(1,1)]:=⟨_,underlying206,λ_=>by kernel_rfl⟩
instance:Ay prog 206 0 0:=A0 1 underlying206
instance:Ay prog 206 1 1:=A0 1 underlying206
instance:Aw prog 211 (.slice 121):=⟨underlying211⟩
instance:Bh prog 227 (.agg #[.int .u64 0,.int .u64 0]):=⟨zeroValue227,by rfl⟩
instance:CG prog 227 2:=⟨λ_=>by kernel_rfl⟩
instance:Ft prog 227 16:=⟨t227,typeInfo227,by kernel_rfl⟩
instance:GN prog 227 2:=CL
instance:GM prog 227 #[(0,1),(1,1)]:=⟨_,underlying227,λ_=>by kernel_rfl⟩
instance:Ay prog 227 0 0:=A0 1 underlying227
instance:Ay prog 227 1 1:=A0 1 underlying227
instance:Bh prog 231 (.agg #[.slice none 0 0,.int .i64 0,.bool false]):=⟨zeroValue231,by rfl⟩
instance:GM prog 231 #[(0,1),(1,1),(2,1)]:=⟨_,underlying231,λ_=>by kernel_rfl⟩
instance:Ay prog 231 0 0:=A0 1 underlying231
instance:Ay prog 231 1 1:=A0 1 underlying231
instance:Ay prog 231 2 2:=A0 1 underlying231
instance:Bh prog 236 (.agg #[.slice none 0 0,.int .u64 0,.int .i64 0]):=⟨zeroValue236,by rfl⟩
instance:GM prog 236 #[(0,1),(1,1),(2,1)]:=⟨_,underlying236,λ_=>by kernel_rfl⟩
instance:Ay prog 236 0 0:=A0 1 underlying236
instance:Ay prog 236 1 1:=A0 1 underlying236
instance:Ay prog 236 2 2:=A0 1 underlying236
instance:Bh prog 237 (.nilFunc):=⟨zeroValue237,by rfl⟩
instance:DC prog 237:=CL
instance:Bh prog 241 (.agg #[.pointer none,.pointer none,.int .u64 0]):=⟨zeroValue241,by rfl⟩
instance:GN prog 241 3:=CL
instance:DC prog 244:=CL
instance:Bh prog 253 (.pointer none):=⟨zeroValue253,by rfl⟩
instance:DC prog 253:=CL
instance:Bh prog 257 (.agg #[.int .u64 0,.int .u64 0,.slice none 0 0]):=⟨zeroValue257,by rfl⟩
instance:CG prog 257 3:=⟨λ_=>by kernel_rfl⟩
instance:Ft prog 257 40:=⟨t257,typeInfo257,by kernel_rfl⟩
instance:GN prog 257 3:=CL
instance:GM prog 257 #[(0,1),(1,1),(2,1)]:=⟨_,underlying257,λ_=>by kernel_rfl⟩
instance:Ay prog 257 0 0:=A0 1 underlying257
instance:Ay prog 257 1 1:=A0 1 underlying257
instance:Ay prog 257 2 2:=A0 1 underlying257
instance:DC prog 259:=CL
instance:Bh prog 265 (.agg #[.slice none 0 0,.slice none 0 0,.int .i64 0,.bool false]):=⟨zeroValue265,by rfl⟩
instance:GM prog 265 #[(0,1),(1,1),(2,1),(3,1)]:=⟨_,underlying265,λ_=>by kernel_rfl⟩
instance:Ay prog 265 0 0:=A0 1 underlying265
instance:Ay prog 265 1 1:=A0 1 underlying265
instance:Ay prog 265 2 2:=A0 1 underlying265
instance:Ay prog 265 3 3:=A0 1 underlying265
instance :Aw prog 286 (.interface #[("As",288)]) :=⟨underlying286⟩
instance :Aw prog 289 (.interface #[("Unwrap",149)]) :=⟨underlying289⟩
instance :Aw prog 290 (.interface #[("Unwrap",292)]) :=⟨underlying290⟩
instance :Aw prog 293 (.interface #[("Is",295)]) :=⟨underlying293⟩
instance:DC prog 300:=CL
instance:DC prog 308:=CL
instance:DC prog 309:=CL
instance:DC prog 310:=CL
instance:Bh prog 312 (.agg #[.nilFunc,.nilFunc,.nilFunc]):=⟨zeroValue312,by rfl⟩
instance:GN prog 312 3:=CL
instance:GM prog 312 #[(0,1),(1,1),(2,1)]:=⟨_,underlying312,λ_=>by kernel_rfl⟩
instance:Ay prog 312 0 0:=A0 1 underlying312
instance:Ay prog 312 1 1:=A0 1 underlying312
instance:Ay prog 312 2 2:=A0 1 underlying312
instance:Aw prog 313 (.array 8 5):=⟨underlying313⟩
instance:Bh prog 313 (.agg #[AT,AT,AT,AT,AT,AT,AT,AT]):=⟨zeroValue313,by rfl⟩
instance:GN prog 313 8:=CL
instance:Bh prog 318 (.agg #[.slice none 0 0,.int .i64 0]):=⟨zeroValue318,by rfl⟩
instance:GM prog 318 #[(0,1),(1,1)]:=⟨_,underlying318,λ_=>by kernel_rfl⟩
instance:Ay prog 318 0 0:=A0 1 underlying318
instance:Ay prog 318 1 1:=A0 1 underlying318
instance:Bh prog 320 (.agg #[]):=⟨zeroValue320,by rfl⟩
instance:GN prog 320 0:=CL
instance:GM prog 320 #[]:=⟨_,underlying320,λ_=>by kernel_rfl⟩
instance:Aw prog 329 (.array 4 37):=⟨underlying329⟩
instance:Bh prog 329 (.agg #[.int .u64 0,.int .u64 0,.int .u64 0,.int .u64 0]):=⟨zeroValue329,by rfl⟩
instance:GN prog 329 4:=CL
instance:DC prog 336:=CL
instance:Aw prog 347 (.array 4 37):=⟨underlying347⟩
instance:Bh prog 347 (.agg #[.int .u64 0,.int .u64 0,.int .u64 0,.int .u64 0]):=⟨zeroValue347,by rfl⟩
instance:GN prog 347 4:=CL
instance:Aa prog 16:=Aj func16
instance:Aa prog 17:=Aj func17
instance:Aa prog 18:=Aj func18
instance:Aa prog 19:=Aj func19
instance:Aa prog 20:=Aj func20
instance:Aa prog 21:=Aj func21
instance:Aa prog 22:=Aj func22
instance:Aa prog 39:=Aj func39
instance:Aa prog 40:=Aj func40
instance:Aa prog 41:=Aj func41
instance:Aa prog 42:=Aj func42
instance:Aa prog 43:=Aj func43
instance:Aa prog 44:=Aj func44
instance:Aa prog 45:=Aj func45
instance:Aa prog 46:=Aj func46
instance:Aa prog 47:=Aj func47
instance:Aa prog 48:=Aj func48
instance:Aa prog 49:=Aj func49
instance:Aa prog 50:=Aj func50
instance:Aa prog 51:=Aj func51
instance:Aa prog 52:=Aj func52
instance:Aa prog 53:=Aj func53
instance:Aa prog 63:=Aj func63
instance:Aa prog 65:=Aj func65
instance:Aa prog 67:=Aj func67
instance:Aa prog 75:=Aj func75
instance:Aa prog 76:=Aj func76
instance:Aa prog 77:=Aj func77
instance:Aa prog 78:=Aj func78
instance:Aa prog 79:=Aj func79
instance:Aa prog 80:=Aj func80
instance:Aa prog 81:=Aj func81
instance:Aa prog 82:=Aj func82
instance:Aa prog 83:=Aj func83
instance:Aa prog 84:=Aj func84
instance:Aa prog 85:=Aj func85
instance:Aa prog 86:=Aj func86
instance:Aa prog 87:=Aj func87
instance:Aa prog 88:=Aj func88
instance:Aa prog 89:=Aj func89
instance:Aa prog 90:=Aj func90
instance:Aa prog 91:=Aj func91
instance:Aa prog 92:=Aj func92
instance:Aa prog 94:=Aj func94
instance:Aa prog 95:=Aj func95
instance:Aa prog 96:=Aj func96
instance:Aa prog 97:=Aj func97
instance:Aa prog 104:=Aj func104
instance:Aa prog 105:=Aj func105
instance:Aa prog 106:=Aj func106
instance:Aa prog 107:=Aj func107
instance:Aa prog 108:=Aj func108
instance:Aa prog 109:=Aj func109
instance:Aa prog 110:=Aj func110
instance:Aa prog 111:=Aj func111
instance:Aa prog 112:=Aj func112
instance:Aa prog 113:=Aj func113
instance:Aa prog 114:=Aj func114
instance:Aa prog 115:=Aj func115
instance:Aa prog 116:=Aj func116
instance:Aa prog 117:=Aj func117
instance:Aa prog 118:=Aj func118
instance:Aa prog 119:=Aj func119
instance:Aa prog 123:=Aj func123
instance:Aa prog 125:=Aj func125
instance:Aa prog 126:=Aj func126
instance:Aa prog 127:=Aj func127
instance:Aa prog 128:=Aj func128
instance:Aa prog 129:=Aj func129
instance:Aa prog 130:=Aj func130
instance:Aa prog 131:=Aj func131
instance:Aa prog 132:=Aj func132
instance:Aa prog 133:=Aj func133
instance:Aa prog 134:=Aj func134
instance:Aa prog 135:=Aj func135
instance:Aa prog 136:=Aj func136
instance:Aa prog 137:=Aj func137
instance:Aa prog 138:=Aj func138
instance:Aa prog 139:=Aj func139
instance:Aa prog 140:=Aj func140
instance:Aa prog 141:=Aj func141
instance:Aa prog 142:=Aj func142
instance:Aa prog 143:=Aj func143
instance:Aa prog 144:=Aj func144
instance:Aa prog 145:=Aj func145
instance:Aa prog 146:=Aj func146
instance:Aa prog 147:=Aj func147
instance:Aa prog 148:=Aj func148
instance:Aa prog 149:=Aj func149
instance:Aa prog 153:=Aj func153
instance:Aa prog 154:=Aj func154
instance:Aa prog 155:=Aj func155
instance:Aa prog 156:=Aj func156
instance:Aa prog 157:=Aj func157
instance:Aa prog 158:=Aj func158
instance:Aa prog 161:=Aj func161
instance:Aa prog 162:=Aj func162
instance:Aa prog 163:=Aj func163
instance:Aa prog 164:=Aj func164
instance:Aa prog 165:=Aj func165
instance:Aa prog 166:=Aj func166
instance:Aa prog 167:=Aj func167
instance:Aa prog 168:=Aj func168
instance:Aa prog 169:=Aj func169
instance:Aa prog 170:=Aj func170
instance:Aa prog 171:=Aj func171
instance:Aa prog 172:=Aj func172
instance:Aa prog 173:=Aj func173
instance:Aa prog 174:=Aj func174
instance:Aa prog 175:=Aj func175
instance:Aa prog 176:=Aj func176
instance:Aa prog 177:=Aj func177
instance:Aa prog 178:=Aj func178
instance:Aa prog 179:=Aj func179
instance:Aa prog 180:=Aj func180
instance:Aa prog 181:=Aj func181
instance:Aa prog 182:=Aj func182
instance:Aa prog 183:=Aj func183
instance:Aa prog 184:=Aj func184
instance:Aa prog 185:=Aj func185
instance:Aa prog 186:=Aj func186
instance:Aa prog 187:=Aj func187
instance:Aa prog 188:=Aj func188
instance:Aa prog 189:=Aj func189
instance:Aa prog 190:=Aj func190
instance:Aa prog 191:=Aj func191
instance:Aa prog 192:=Aj func192
instance:Aa prog 193:=Aj func193
instance:Aa prog 194:=Aj func194
instance:Aa prog 195:=Aj func195
instance:Aa prog 196:=Aj func196
instance:Aa prog 197:=Aj func197
instance:Aa prog 198:=Aj func198
instance:Aa prog 199:=Aj func199
instance:Aa prog 200:=Aj func200
instance:Aa prog 201:=Aj func201
instance:Aa prog 202:=Aj func202
instance:Aa prog 203:=Aj func203
instance:Aa prog 204:=Aj func204
instance:Aa prog 205:=Aj func205
instance:Aa prog 206:=Aj func206
instance:Aa prog 207:=Aj func207
instance:Aa prog 208:=Aj func208
instance:Aa prog 212:=Aj func212
instance:Aa prog 213:=Aj func213
instance:Aa prog 214:=Aj func214
instance:Aa prog 215:=Aj func215
instance:Aa prog 216:=Aj func216
instance:Aa prog 217:=Aj func217
instance:Aa prog 218:=Aj func218
instance:Aa prog 219:=Aj func219
instance:Aa prog 220:=Aj func220
instance:Aa prog 221:=Aj func221
instance:Aa prog 222:=Aj func222
instance:Aa prog 223:=Aj func223
instance:Aa prog 224:=Aj func224
instance:Aa prog 226:=Aj func226
instance:Aa prog 227:=Aj func227
instance:Aa prog 249:=Aj func249
def EO:prog.follows .mixedOrders=true:=by kernel_rfl
section
class Hz(P:Program)(f:FuncId)(e:outParam (Array Value→Sem Value)):Prop where
 get:∀args w,(callFunc f args).run P w=((e args).run P w).andThen λv w'=>.ok (.value v) w'
 Ez:∀n D args w,Al n D P (e args) w→Al n D P (callFunc f args) w
theorem Jo{P :Program}{f}{fn :Func}{e :Array Value → Sem Value}(hf :P.funcs[f]? =some fn)(h :(fn.name == "runtime.NumGoroutine") =false)(hb:fn.body.isNone=true)(G:Extern.findNext fn=none)(N:Extern.find fn=some e):Hz P f e:=
 ⟨run_callFunc_extern hf h hb G N,λn D args w A=>by
  have O :fn.name ≠ "runtime.NumGoroutine" :=by simpa using h
  have U:fn.body=none:=by simpa using hb
  simp only[callFunc,BL,Qj,true_and];show Al n D P _ w;simp[hf,O,U,G,N,mark,Al,Sem.run,NK];exact A⟩
class K5(P:Program)(t:TypeId)(v:Value)(name:String)(f:outParam FuncId)(r:outParam Value):Prop where
 get:∀w,(method (P.types.size+Made.depth) t v name).run P w=.ok (f,r) w
 Ez:∀n D w,Al n D P (method (P.types.size+Made.depth) t v name) w
theorem cP{B:World}{H}(h:B.cell? ⟨b,i,none⟩=some v)(S:live v=true:=by rfl):Rd B H b i v True:=⟨λw a _=>by
 have q:b<B.heap.size:=by
  obtain O|O:=ff b B.heap.size
  ·exact O
  simp[World.cell?,n3 O]at h
 have e:=a.1.block b q;unfold World.cell? at h⊢;rw[e];exact h,λ_ _ _=>S⟩
section
variable{P:Program}{B:World}{n:Nat}{E:A8}{D:CW}{H:HP}{d:Option Tmp}{T T' ty:TypeId}{pos:String}{af:Array Edge}{g:Option (Nat×Bool)}{x y z:Operand}{ats:Array TypeId}
def LO[hf:Hz P f e](F:Dw E xs=some vs)(N:∀w,Sat B H w→(e vs.toArray).run P w=.ok v w)(ht:∀w,Sat B H w→A9 B.heap.size P (e vs.toArray) w:=by intro w _;exact of_eq_true (by kernel_rfl)):
  AY P B n ⟨d,.call ⟨.value (.func f),xs.toArray,ats⟩,ty,pos,af,g⟩ E H v:=by
 intro a w O h;refine⟨?_,?_⟩
 ·simp only[A9,BL,Dp,CT,DQ,EP,EX,Ej,B3,BX,true_and,and_true,and_self,execOp,resolve,hI,Fy O F,Act.eval,Deferred.ofValue,bp,invoke];exact hf.Ez _ _ _ _ (by simpa using ht w h)
 simp only[execOp,resolve,hI,Fy O F,Act.eval,Deferred.ofValue,bn,bp,b0,invoke];have:=hf.get vs.toArray w;rw[N w h]at this;simpa using this
def OG[hf:Hz P f e](F:Dw E xs=some vs)(N:∀w,Sat B H w→∃v V S,(e vs.toArray).run P w=.ok v V∧Post v S∧Sat B S V)(ht:∀w,Sat B H w→A9 B.heap.size P (e vs.toArray) w:=by intro w _;exact of_eq_true (by kernel_rfl)):
  DT P B n ⟨d,.call ⟨.value (.func f),xs.toArray,ats⟩,ty,pos,af,g⟩ E D H Post:=by
 intro a w O _ M K Q Z;obtain⟨v,V,S,h,J,C⟩:=N w M;have q:(execOp a.eval ⟨d,.call ⟨.value (.func f),xs.toArray,ats⟩,ty,pos,af,g⟩).run P w=.ok (.value v) V:=by
  simp only[execOp,resolve,hI,Fy O F,Act.eval,Deferred.ofValue,bn,bp,b0,invoke];have:=hf.get vs.toArray w;rw[h]at this;simpa using this
 refine Gg ?_ q (Z v S V J C);simp only[A9,BL,Dp,CT,DQ,EP,EX,Ej,B3,BX,true_and,and_true,and_self,execOp,resolve,hI,Fy O F,Act.eval,Deferred.ofValue,bp,invoke];exact hf.Ez _ _ _ _ (by simpa using ht w M)
def eD{t}[hm:K5 P t u name f r](vs:List Value)(w):
  (invoke (.fn (.method name) #[]) (#[.iface t u]++vs.toArray)).run P w=(callFunc f (r::vs).toArray).run P w:=by
 have O:(#[Value.iface t u]++vs.toArray).extract 1 (#[Value.iface t u]++vs.toArray).size=vs.toArray:=by
  apply Akg.1;simp
 have U:(#[Value.iface t u]++vs.toArray)[0]?=some (.iface t u):=by simp
 simp only[invoke,U,O,callMethod,bn,run_program,b0,hm.get];congr 2;simp
def wH{t}[hm:K5 P t u name f r]{m q}(vs:List Value)(w)(h:Al m q P (callFunc f (r::vs).toArray) w):
  Al m q P (invoke (.fn (.method name) #[]) (#[.iface t u]++vs.toArray)) w:=by
 have O:(#[Value.iface t u]++vs.toArray).extract 1 (#[Value.iface t u]++vs.toArray).size=vs.toArray:=by
  apply Akg.1;simp
 have U:(#[Value.iface t u]++vs.toArray)[0]?=some (.iface t u):=by simp
 simp only[invoke,U,O,callMethod,BL,Qj,true_and];show Al m q P _ w∧_;refine⟨hm.Ez _ _ _,?_⟩;show NK (Sem.run P (method (P.types.size+Made.depth) t u name) w) _;rw[hm.get,BX];simpa using h
def JF{t}(F:ev E x=some (.iface t u))[hm:K5 P t u name f r][hf:Hz P f e](A:Dw E xs=some vs)(N:∀w,Sat B H w→(e (r::vs).toArray).run P w=.ok v w)(ht:∀w,Sat B H w→A9 B.heap.size P (e (r::vs).toArray) w:=by intro w _;exact of_eq_true (by kernel_rfl)):
  AY P B n ⟨d,.call ⟨.invoke x name,xs.toArray,ats⟩,ty,pos,af,g⟩ E H v:=by
 intro a w O h;refine⟨?_,?_⟩
 ·simp only[A9,BL,Dp,CT,DQ,EP,EX,Ej,B3,BX,true_and,and_true,and_self,execOp,resolve,hI,Fy O A,O.ev F,bp];exact wH (hm:=hm) _ _ (hf.Ez _ _ _ _ (ht w h))
 simp only[execOp,resolve,hI,Fy O A,O.ev F,bn,bp,b0,eD (hm:=hm)];rw[hf.get,N w h];rfl
def Ab4{t}(F:ev E x=some (.iface t u))[hm:K5 P t u name f r][hf:Aa P f](A:Dw E xs=some vs)(C:Fn P B f (r::vs) H Post):DT P B n ⟨d,.call ⟨.invoke x name,xs.toArray,ats⟩,ty,pos,af,g⟩ E D H Post:=by
 intro a w O _ M K Q Z;have q:(execOp a.eval ⟨d,.call ⟨.invoke x name,xs.toArray,ats⟩,ty,pos,af,g⟩).run P w=.ok (.enter f (r::vs).toArray) w:=by
  simp only[execOp,resolve,hI,Fy O A,O.ev F,bn,bp,b0,eD (hm:=hm)];rw[hf.get]
 refine QB ?_ q (C w M) (λv V N=>?_) (λc V N=>?_) (λV N=>?_)
 ·simp only[A9,BL,Dp,CT,DQ,EP,EX,Ej,B3,BX,true_and,and_true,and_self,execOp,resolve,hI,Fy O A,O.ev F,bp];exact wH (hm:=hm) _ _ (hf.Ez _ _ _ _)
 ·obtain⟨L,S,e,J,U⟩:=N;cases e;exact Z v S V J U
 ·obtain⟨L,S,e,_⟩:=N;cases e
 obtain⟨L,S,e,_⟩:=N;cases e
def wl{P:Program}{m D}(u T T' w):Al m D P (Instr.typeAssert u T T' true) w:=by
 unfold Instr.typeAssert;simp only[BL,CT,true_and,if_true];cases(underlying T').run P w with
 |halt h w=>trivial
 |ok d V=>
  simp only[BX];have J:∀w,Al m D P (do pure (Value.tuple #[←zeroValue T',.bool false]):Sem Value) w:=λw=>by
   simp only[BL,EX,true_and];cases(zeroValue T').run P w<;>trivial
  split
  ·exact J _
  ·simp only[BL,EP,true_and];cases(typeInfo _).run P V with
   |halt h w=>trivial
   |ok i a=>
    simp only[BX];split
    ·trivial
    exact J _
  ·exact J _
  ·split
   ·trivial
   exact J _
  trivial
def WY{ok}(F:ev E x=some u)(h:∀w,(Instr.typeAssert u T T' ok).run P w=.ok v w)(ht:∀n D w,Al n D P (Instr.typeAssert u T T' ok) w:=by intro n D w;first|exact wl _ _ _ _|exact of_eq_true (by kernel_rfl)):AY P B n ⟨d,.typeAssert x T T' ok,ty,pos,af,g⟩ E H v:=by
 intro a w N _;simp only[A9,BL,Dp,CT,DQ,EP,EX,Ej,B3,BX,true_and,and_true,and_self,execOp,N.ev F,bn,h,b0,bp];exact ht _ _ _
def Mk{op}(F:ev E x=some u)(G:ev E y=some v)(S:∀w,(eqGuard op T x y u v).run P w=.ok () w)(h:∀w,(binOp op T u v).run P w=.ok r w)(J:∀n D w,Al n D P (eqGuard op T x y u v) w:=by intro n D w;exact of_eq_true (by kernel_rfl))(ht:∀n D w,Al n D P (binOp op T u v) w:=by intro n D w;exact of_eq_true (by kernel_rfl)):
  AY P B n ⟨d,.binOp op T x y T',ty,pos,af,g⟩ E H r:=by
 intro a w N _;simp only[A9,BL,Dp,CT,DQ,EP,EX,Ej,B3,BX,true_and,and_true,and_self,execOp,N.ev F,N.ev G,bn,S,h,J,ht,b0,bp]
def t3{i:Int}(F:ev E x=some (.int .i64 i))(h: -9223372036854775808<i∧i≤9223372036854775808):AY P B n ⟨d,.unOp .neg T x,ty,pos,af,g⟩ E H (.int .i64 (-i)):=by
 intro a w N _;have e:IntKind.i64.wrap (0-i)= -i:=by rw[Int.zero_sub];exact IntWalk.i64_in _ (by omega)
 simp only[execOp,N.ev F,Op.unary,bn];have U:(Op.intArith .sub .i64 0 i).run P w=.ok (.int .i64 (IntKind.i64.wrap (0-i))) w:=rfl;rw[U,e];exact⟨trivial,I⟩
end
end
section
def RX(B:World)(Post:Value→HP→Prop)(Px:List PanicEntry→HP→Prop)(e:Ending)(w':World):Prop:=(∃v S,e=.returned v∧Post v S∧Sat B S w')∨(∃c S,e=.panicked c∧Px c S∧Sat B S w')
def HI(P:Program)(B:World)(f:FuncId)(args:List Value)(H:HP)(Post:Value→HP→Prop)(Px:List PanicEntry→HP→Prop):Prop:=
 ∀w,Sat B H w→IT P B.heap.size f args.toArray w (RX B Post Px)
def HI.mono{B H}{A C:Value→HP→Prop}{m o:List PanicEntry→HP→Prop}(h:HI P B f args H A m)(W:∀v S,A v S→C v S)(F:∀c S,m c S→o c S):HI P B f args H C o:=
 λw q=>(h w q).mono λ_ _ h=>h.imp (λ⟨v,S,e,a,s⟩=>⟨v,S,e,W v S a,s⟩) (λ⟨c,S,e,a,s⟩=>⟨c,S,e,F c S a,s⟩)
abbrev pn(v:Value):List PanicEntry:=[{v,recovered:=false}]
section
variable{P:Program}{B:World}{n:Nat}{E:A8}{D:CW}{H R:HP}{d:Option Tmp}{T T' ty:TypeId}{pos:String}{af:Array Edge}{g:Option (Nat×Bool)}{x y z:Operand}
 {ops:Array Oper} {Q:Exit→Act→World→Prop} {rest:List Oper} {op:Op} {fuel last:Nat} {ls:Array Bool}
def Qr(P:Program)(B:World)(n:Nat)(o:Oper)(E:A8)(D:CW)(H:HP)(Post:Value→HP→Prop)(Px:List PanicEntry→HP→Prop):Prop:=
 (∀c,o.op≠ .defer c)∧∀a w,DZ n E a→a.defers=D.ds→Sat B H w→∀(K:Act→World→Prop) (Q:Exit→Act→World→Prop),
  (∀v S V,Post v S→Sat B S V→K (a.put o.dst v) V)→(∀c S V,Px c S→Sat B S V→Q (.panic c) a V)→Oper.co P B.heap.size o a w K Q
def FE(N:Qr P B n ⟨some t,op,ty,pos,af,none⟩ E D H Post Px)(ht:Nat.blt t n=true)(next:∀v S,Post v S→WL P B ops Q rest n ((t,v)::E) D S)(h:∀c S,Px c S→BZ B Q (.panic c) n E D S):WL P B ops Q (⟨some t,op,ty,pos,af,none⟩::rest) n E D H:=by
 intro a w O U M;unfold Hw;rw[AJ (by simp[Region.wanted])];exact⟨λc _=>N.1 c,λW _=>N.2 a _ O U (M.EU (.pad w W)) _ _ (λv S V J C=>next v S J _ V (O.put (by simpa using ht) v) (by simp[Act.put,U]) C) (λc S V J C=>h c S J a V O U C)⟩
def Acd(N:Qr P B n ⟨none,op,ty,pos,af,none⟩ E D H Post Px)(next:∀v S,Post v S→WL P B ops Q rest n E D S)(h:∀c S,Px c S→BZ B Q (.panic c) n E D S):WL P B ops Q (⟨none,op,ty,pos,af,none⟩::rest) n E D H:=by
 intro a w O U M;unfold Hw;rw[AJ (by simp[Region.wanted])];exact⟨λc _=>N.1 c,λW _=>N.2 a _ O U (M.EU (.pad w W)) _ _ (λv S V J C=>next v S J _ V O U C) (λc S V J C=>h c S J a V O U C)⟩
def IZ[hf:Aa P f](F:Dw E xs=some vs)(C:HI P B f vs H Post Px):
  Qr P B n ⟨d,.call ⟨.value (.func f),xs.toArray,ats⟩,ty,pos,af,g⟩ E D H Post Px:=by
 refine⟨λc h=>by simp at h,?_⟩;intro a w O _ M K Q Z J;have q:(execOp a.eval ⟨d,.call ⟨.value (.func f),xs.toArray,ats⟩,ty,pos,af,g⟩).run P w=.ok (.enter f vs.toArray) w:=by
  simp only[execOp,resolve,hI,Fy O F,Act.eval,Deferred.ofValue,bn,bp,b0,invoke];simp[hf.get]
 refine QB ?_ q (C w M) (λv V N=>?_) (λc V N=>?_) (λV N=>?_)
 ·simp only[A9,BL,Dp,CT,DQ,EP,EX,Ej,B3,BX,true_and,and_true,and_self,execOp,resolve,hI,Fy O F,Act.eval,Deferred.ofValue,bp,invoke];exact hf.Ez _ _ _ _
 ·rcases N with⟨L,S,e,m,U⟩|⟨c,S,e,_⟩<;>cases e;exact Z _ S V m U
 ·rcases N with⟨L,S,e,_⟩|⟨c,S,e,m,U⟩<;>cases e;exact J _ S V m U
 rcases N with⟨L,S,e,_⟩|⟨c,S,e,_⟩<;>cases e
def Afs{t}{us:List Value}[hf:Aa P f](ht:ev E t=some (.func (.func f) #[] us.toArray))(F:Dw E xs=some vs)(C:HI P B f (vs++us) H Post Px):
  Qr P B n ⟨d,.call ⟨.value t,xs.toArray,ats⟩,ty,pos,af,g⟩ E D H Post Px:=by
 refine⟨λc h=>by simp at h,?_⟩;intro a w O _ M K Q Z J;have q:(execOp a.eval ⟨d,.call ⟨.value t,xs.toArray,ats⟩,ty,pos,af,g⟩).run P w=.ok (.enter f (vs++us).toArray) w:=by
  simp only[execOp,resolve,hI,Fy O F,O.ev ht,Deferred.ofValue,bn,bp,b0,invoke];simp[hf.get]
 refine QB ?_ q (C w M) (λv V N=>?_) (λc V N=>?_) (λV N=>?_)
 ·simp only[A9,BL,Dp,CT,DQ,EP,EX,Ej,B3,BX,true_and,and_true,and_self,execOp,resolve,hI,Fy O F,O.ev ht,Deferred.ofValue,bp,invoke];exact hf.Ez _ _ _ _
 ·rcases N with⟨L,S,e,m,U⟩|⟨c,S,e,_⟩<;>cases e;exact Z _ S V m U
 ·rcases N with⟨L,S,e,_⟩|⟨c,S,e,m,U⟩<;>cases e;exact J _ S V m U
 rcases N with⟨L,S,e,_⟩|⟨c,S,e,_⟩<;>cases e
def sc{t}(F:ev E x=some (.iface t v)):Qr P B n ⟨d,.panic x,ty,pos,af,g⟩ E D H Post (λc S=>c=pn (.iface t v)∧S=H):=by
 refine⟨λc h=>by simp at h,?_⟩;intro a w O _ M K Q Z J;have q:(execOp a.eval ⟨d,.panic x,ty,pos,af,g⟩).run P w=.halt (.panic (.iface t v)) w:=by
  simp[execOp,O.ev F,Instr.panic]
 refine⟨?_,?_⟩
 ·simp[execOp,O.ev F,Instr.panic]
 rw[q];exact J _ _ _ ⟨I,I⟩ M
variable{c:List PanicEntry}
def iy{K:Act→World→Prop}(h:BZ B Q (.panic c) n E D H):BZ B (Exit.then K Q) (.panic c) n E D H:=h
def cu{id}(h:BZ B Q (.panic c) n E D H):BZ B (Exit.inBlock id Q) (.panic c) n E D H:=h
def N7(P:Program)(B:World)(fn:Func)(Post:Value→HP→Prop)(Px:List PanicEntry→HP→Prop):Exit→Act→World→Prop:=
 RS P B.heap.size fn (RX B Post Px)
instance{P:Program}{B:World}{fn:Func}{Post:Value→HP→Prop}{Px:List PanicEntry→HP→Prop}:PQ (N7 P B fn Post Px):=⟨by
 intro c a w d v h;cases d<;>exact h,λa w h=>h⟩
def Jt{c}(hf:P.funcs[f]?=some fn)(hb:fn.body=some c)(G:fn.ntmps=n)(a:Nat.ble (aa args) n=true)(h:WP P B c (N7 P B fn Post Px) n (IL 0 args) ⟨[],none⟩ H):HI P B f args H Post Px:=by
 intro w m;refine cS hf hb (h _ w ⟨?_,?_⟩ I m)
 ·have:aa args≤n:=by simpa using a
  simp[G];omega
 intro t v e;obtain⟨_,U⟩:=NI args 0 t v e;simp only[H0]at U;have L:t<aa args:=(Lk.1 U).1;simp only[];rw[Aif (by simpa using L)];simpa using U
def OV{r}(J:Px c H):BZ B (N7 P B fn Post Px) (.panic c) n E ⟨[],r⟩ H:=
 λ_ w O U M=>⟨U,.inr ⟨_,_,I,J,M⟩⟩
def Hy{r}(H')[hE:CM B H H'](J:Px c H'):BZ B (N7 P B fn Post Px) (.panic c) n E ⟨[],r⟩ H:=
 λ_ w O U M=>⟨U,.inr ⟨_,_,I,J,hE.get w M⟩⟩
def UU{r}(hr:fn.results=(ts.map ResultVar.tmp).toArray)(S:Dw E (ts.map Operand.tmp)=some vs)(J:Post (FH vs) H):BZ B (N7 P B fn Post Px) .ret n E ⟨[],r⟩ H:=
 λ_ w O U M=>⟨U,K8 (R:=RX B Post Px) hr O S M λv C=>.inl ⟨_,_,I,J,C⟩⟩
def x8{r}(H')[hE:CM B H H'](hr:fn.results=(ts.map ResultVar.tmp).toArray)(S:Dw E (ts.map Operand.tmp)=some vs)(J:Post (FH vs) H'):BZ B (N7 P B fn Post Px) .ret n E ⟨[],r⟩ H:=
 λ_ w O U M=>⟨U,K8 (R:=RX B Post Px) hr O S M λv C=>.inl ⟨_,_,I,J,hE.get v C⟩⟩
def Qo{r}(hr:fn.results=(ts.map ResultVar.tmp).toArray)(S:Dw E (ts.map Operand.tmp)=some vs)(J:Post (FH vs) H):BZ B (N7 P B fn Post Px) .normal n E ⟨[],r⟩ H:=
 λ_ w O U M=>⟨U,K8 (R:=RX B Post Px) hr O S M λv C=>.inl ⟨_,_,I,J,C⟩⟩
def Aax(W:(ops[j]?).bind (·.dst)=some tj)(hb:lk E tj=some undef)(ht:Nat.blt t n=true)(next:WL P B ops Q rest n ((t,undef)::E) D H):WL P B ops Q (⟨some t,op,ty,pos,af,some (j,want)⟩::rest) n E D H:=by
 intro a w O U M;have G:yielded ops a.tmps j=none:=by
  have:=O.2 _ _ hb;unfold yielded;rw[W,Option.bind_some,this];rfl
 unfold Hw;rw[AF (by simp[Region.wanted,G])];exact next _ w (O.put (by simpa using ht) undef) (by simp[Act.put,U]) M
def kY(i)(hi:ops[i]?=some ⟨some t,op,ty,pos,af,some (j,want)⟩)(Z:B1 ops ls last i=true)[N:PQ Q][hE:CM B H R](ht:Nat.blt t n=true)(W:(ops[j]?).bind (·.dst)=some tj)(hb:lk E tj=some undef)(next:WA P B ops Q R last fuel (ls.setIfInBounds i true) n ((t,undef)::E) D H):
  WA P B ops Q R last (fuel+1) ls n E D H:=by
 intro a w O U M;have G:yielded ops a.tmps j=none:=by
  have:=O.2 _ _ hb;unfold yielded;rw[W,Option.bind_some,this];rfl
 simp only[B1,Ajr]at Z;obtain⟨⟨⟨⟨C,V⟩,m⟩,J⟩,L⟩:=Z;refine IH.first hi C J (λc a w=>N.get c a w _ _) (λ_ _ o h=>h.EU o) fuel ls a w (UZ L) (Ald hi V) (by simpa using m) (.inr ⟨by simp[Region.wanted,G],I⟩) (hE.get w M) ?_
 exact next _ w (O.put (by simpa using ht) undef) (by simp[Act.put,U]) M
end
end
section
section
variable{P:Program}{B:World}{α:Type}[AB α]
def Vz(b o i)(xs:List α)(s):AC b o xs s=AC b o (xs.take i) (AE (xs.drop i)++s):=by
 unfold AC;rw[←c5,←GH,px]
def Ss(p:Option Addr)(b o c:Nat)(xs:List α)(s:List Value)(R:HP)(ys:List α)(v:Value)(H':HP):Prop:=
 (aa xs+aa ys≤c∧v=.slice p (aa xs+aa ys) c∧H'=AC b o (xs++ys) (s.drop (aa ys*AB.sz α))*R)∨
 (c<aa xs+aa ys∧∃V G K,v=.slice (some ⟨V,0,none⟩) (aa xs+aa ys) G∧aa xs+aa ys≤G∧(aa xs+aa ys)*AB.sz α+aa K=G*AB.sz α∧H'=AC V 0 (xs++ys) K*(AC b o xs s*R))
def dI{R o c}{xs ys:List α}{sT xT e by_ ty x w}{z:Value}(hT:P.underlying sT=some (.slice e))(A:ats[0]?=some sT)(Z:ats[1]?=some xT)(hxT:∀k,P.underlying xT≠some (.int k))(hxT':∃d,P.underlying xT=some d)(hz:∀w,(sizeOf e).run P w=.ok (AB.sz α) w)(hi:∃i,(∀w,(typeInfo e).run P w=.ok i w)∧i.bytes=by_)(h0:∀w,(zeroValue e).run P w=.ok z w)(hzc:z.cells.size=AB.sz α)(hzl:z.cells.toList.all live=true)(C:Sl p b o (aa xs) c)(hc:aa xs*AB.sz α+aa s=c*AB.sz α)(L:(Builtin.lenOf x).run P w=.ok (aa ys) w)(hx':∀V,Sat B (AC b o xs s*R) V→(Builtin.firstCells (AB.sz α) (aa ys) x).run P V=.ok (AE ys).toArray V)(hxt:∀V,Sat B (AC b o xs s*R) V→∀m D,Al m D P (Builtin.firstCells (AB.sz α) (aa ys) x) V)(hb:(aa xs+aa ys)*by_≤140737488355328)(hby:0<by_)(hw:Sat B (AC b o xs s*R) w):
  ∃v V,(Builtin.append_ ats ty #[.slice p (aa xs) c,x]).run P w=.ok v V∧(∃S,Ss p b o c xs s R ys v S∧Sat B S V)∧∀m D,Al m D P (Builtin.append_ ats ty #[.slice p (aa xs) c,x]) w:=by
 have a:=hx' w hw;have htc:=hxt w hw;obtain⟨dx,hdx⟩:=hxT';obtain⟨W,hinf,rfl⟩:=hi;have hdx':∀k,dx≠ .int k:=λk h=>hxT k (by rw[hdx,h]);have hzero:(match dx with| .int _=>true|_=>false)=false:=by cases dx<;>first|rfl|exact absurd I (hdx' _)
 by_cases G:aa xs+aa ys≤c
 ·by_cases hc0:c=0
  ·have J:xs=[]:=hU.1 (by omega);have hy0:ys=[]:=hU.1 (by omega);subst J hy0 hc0;have q:(Builtin.append_ ats ty #[.slice p (aa ([]:List α)) 0,x]).run P w=.ok (.slice p 0 0) w:=by
    simp only[Builtin.append_,A,Z];simp only[ss,kv]at*;simp[A6 hT,A6 hdx,hz,L,a,AE];cases p<;>simp[storeCells]
   refine⟨_,w,q,⟨_,.inl ⟨by simp,I,I⟩,by simpa using hw⟩,λm D=>?_⟩;simp only[Builtin.append_,A,Z];simp only[ss,kv]at*;simp[A6 hT,A6 hdx,hz,L,a,AE,htc];cases p<;>simp[storeCells]
  obtain rfl:=C.1.resolve_left hc0;have hcm:=ta (AB.sz α) G;rw[u2]at hcm;have hw2:Sat B (AA b (o+aa xs*AB.sz α+0) s*(AA b o (AE xs)*R)) w:=by
   rw[EM,←HP.assoc,kv,←CV,←HF];exact hw
  obtain⟨V,O,h2,h3⟩:=ME (P:=P) (AE ys) (o+aa xs*AB.sz α) 0 s _ w (by rw[CV];omega) (Lr ys) hw2;have ha:Addr.add ⟨b,o,none⟩ (aa xs*AB.sz α)=⟨b,o+aa xs*AB.sz α,none⟩:=by
   by_cases M:aa xs*AB.sz α=0<;>simp[Addr.add,M]
  have q:(Builtin.append_ ats ty #[.slice (some ⟨b,o,none⟩) (aa xs) c,x]).run P w=.ok (.slice (some ⟨b,o,none⟩) (aa xs+aa ys) c) V:=by
   simp only[Builtin.append_,A,Z];simp[A6 hT,A6 hdx,hz,L,G,a,ha,O]
  refine⟨_,V,q,⟨_,.inl ⟨G,I,I⟩,?_⟩,λm D=>?_⟩
  ·unfold AC;rw[GH,c5,HF,HP.assoc,EM,CV xs,←kv (o+aa xs*AB.sz α)];rw[CV]at h2;exact h2
  simp only[Builtin.append_,A,Z];simp[A6 hT,A6 hdx,hz,L,G,a,ha,O,htc,h3]
 have hby0:¬W.bytes=0:=by omega
 have hg:¬281474976710656<Builtin.nextslicecap (aa xs+aa ys) c*W.bytes:=by
  have:=growslice_fits (old:=c) (by omega) hb;omega
 have hfo:(Question.appendCap (aa xs+aa ys) c e).forced=false:=rfl;have U:(Builtin.firstCells (AB.sz α) (aa xs) (.slice p (aa xs) c)).run P w.drew=.ok (AE xs).toArray w.drew:=by
  have hwd:Sat B (AC b o xs s*R) w.drew:=hw.IS;obtain O|rfl:=C.1
  ·have J:xs=[]:=hU.1 (by have:=C.2;omega);subst J;cases p<;>simp[Builtin.firstCells,AE,loadCells,loadCellsFrom]
  simp only[Builtin.firstCells];exact AZ.run (H:=AC b o xs s*R) AH hwd
 have K:∀m D,Al m D P (Builtin.firstCells (AB.sz α) (aa xs) (.slice p (aa xs) c)) w.drew:=λm D=>by
  have hwd:Sat B (AC b o xs s*R) w.drew:=hw.IS;obtain O|rfl:=C.1
  ·have J:xs=[]:=hU.1 (by have:=C.2;omega);subst J;cases p<;>simp[Builtin.firstCells,loadCells,loadCellsFrom]
  simp only[Builtin.firstCells];exact AZ.Ez (H:=AC b o xs s*R) AH hwd m D
 have hnew:=hx' w.drew hw.IS;have hnew2:=hxt w.drew hw.IS;obtain⟨N,hN⟩:∃N,N=(Question.appendCap (aa xs+aa ys) c e).cut (w.tape w.drawn (Question.appendCap (aa xs+aa ys) c e)):=⟨_,I⟩
 have hle:aa xs+aa ys≤N:=by rw[hN];simp[Question.cut]
 have q:(Builtin.append_ ats ty #[.slice p (aa xs) c,x]).run P w=.ok (.slice (some ⟨w.heap.size,0,none⟩) (aa xs+aa ys) N)
   (w.drew.alloc (.cells ((AE xs).toArray++((AE ys).toArray++Builtin.zeroCells z.cells (N-(aa xs+aa ys)))) e)):=by
  simp only[Builtin.append_,A,Z];simp[A6 hT,A6 hdx,hz,L,G,hinf,hby0,hg,hfo,U,hnew,h0,newRow,←hN]
 have hcm:=ta (AB.sz α) hle;have F:=(show Sat B (AC b o xs s*R) w.drew from hw.IS).alloc ((AE xs).toArray++((AE ys).toArray++Builtin.zeroCells z.cells (N-(aa xs+aa ys)))) e (eG hzl _);refine⟨_,_,q,⟨_,.inr ⟨by omega,w.heap.size,N,(Builtin.zeroCells z.cells (N-(aa xs+aa ys))).toList,I,hle,?_,I⟩,?_⟩,λm D=>?_⟩
 ·have e1:(Builtin.zeroCells z.cells (N-(aa xs+aa ys))).toList.length=(N-(aa xs+aa ys))*AB.sz α:=by rw[←hzc];simp[Builtin.zeroCells]
  rw[e1,Nat.sub_mul];omega
 ·have M:((AE xs).toArray++((AE ys).toArray++Builtin.zeroCells z.cells (N-(aa xs+aa ys)))).toList=AE xs++(AE ys++(Builtin.zeroCells z.cells (N-(aa xs+aa ys))).toList):=by simp
  rw[M]at F;unfold AC at F⊢;rw[GH,c5];exact F
 simp only[Builtin.append_,A,Z];simp[A6 hT,A6 hdx,hz,L,G,hinf,hby0,hg,hfo,U,K,hnew,hnew2,h0,newRow,←hN]
def lN{n E D R sT xT ty e by_ pos af o bb oo cc c pp}{xs ys:List α}{z:Value}[hT:Aw P sT (.slice e)][hT2:Aw P xT (.slice e)][hz:CG P e (AB.sz α)][hi:Ft P e by_][h0:Bh P e z](F:ev E x=some (.slice p (aa xs) c))(C:Sl p b o (aa xs) c)(W:aa xs*AB.sz α+aa s=c*AB.sz α)(G:ev E y=some (.slice pp (aa ys) cc))(hs2:Sl pp bb oo (aa ys) cc)(hr:AZ B (AC b o xs s*R) bb oo ys)(N:z.cells.size=AB.sz α)(hb:(aa xs+aa ys)*by_≤140737488355328)(hby:0<by_):
  DT P B n ⟨d,.call ⟨.builtin .append,#[x,y],#[sT,xT]⟩,ty,pos,af,g⟩ E D (AC b o xs s*R) (λv S=>Ss p b o c xs s R ys v S):=by
 intro a w O _ M K Q Z;have hf:∀V,Sat B (AC b o xs s*R) V→(Builtin.firstCells (AB.sz α) (aa ys) (.slice pp (aa ys) cc)).run P V=.ok (AE ys).toArray V:=by
  intro V L;obtain h4|rfl:=hs2.1
  ·have J:ys=[]:=hU.1 (by have:=hs2.2;omega);subst J;cases pp<;>simp[Builtin.firstCells,AE,loadCells,loadCellsFrom]
  simp only[Builtin.firstCells];exact hr.run L
 have hft:∀V,Sat B (AC b o xs s*R) V→∀m D,Al m D P (Builtin.firstCells (AB.sz α) (aa ys) (.slice pp (aa ys) cc)) V:=by
  intro V L m D;obtain h4|rfl:=hs2.1
  ·have J:ys=[]:=hU.1 (by have:=hs2.2;omega);subst J;cases pp<;>simp[Builtin.firstCells,loadCells,loadCellsFrom]
  simp only[Builtin.firstCells];exact hr.Ez L m D
 obtain⟨v,V,q,⟨S,hH,L⟩,A⟩:=dI (P:=P) (B:=B) (R:=R) (b:=b) (o:=o) (p:=p) (c:=c) (xs:=xs) (ys:=ys) (s:=s) (sT:=sT) (xT:=xT) (ats:= #[sT,xT]) (e:=e) (by_:=by_) (ty:=ty)
  (x:=.slice pp (aa ys) cc) (w:=w) (z:=z) hT.get I I (λk h=>by rw[hT2.get]at h;cases h) ⟨_,hT2.get⟩ hz.get hi.get h0.get N h0.live C W I
  (λw2 U=>hf w2 U) hft hb hby M
 have hrun2:(execOp a.eval ⟨d,.call ⟨.builtin .append,#[x,y],#[sT,xT]⟩,ty,pos,af,g⟩).run P w=.ok (.value v) V:=by
  simp[execOp,resolve,O.ev F,O.ev G,invoke,builtin,q]
 refine Gg ?_ hrun2 (Z v S V hH L);simp[execOp,resolve,O.ev F,O.ev G,invoke,builtin,A]
def X9{n E D R sT xT ty e by_ pos af o bb oo cc c pp}{xs ys:List α}{z:Value}[hT:Aw P sT (.slice e)][hT2:Aw P xT (.slice e)][hz:CG P e (AB.sz α)][hi:Ft P e by_][h0:Bh P e z](F:ev E x=some (.slice p (aa xs) c))(C:Sl p b o (aa xs) c)(W:aa xs*AB.sz α+aa s=c*AB.sz α)(G:ev E y=some (.slice pp (aa ys) cc))(m:Sl pp bb oo (aa ys) cc)(hr:AZ B (AC b o xs s*R) bb oo ys)(N:z.cells.size=AB.sz α)(hb:(aa xs+aa ys)*by_≤140737488355328)(q:0<by_)(A:aa xs+aa ys≤c):
  DT P B n ⟨d,.call ⟨.builtin .append,#[x,y],#[sT,xT]⟩,ty,pos,af,g⟩ E D (AC b o xs s*R) (λv S=>v=.slice p (aa xs+aa ys) c∧S=AC b o (xs++ys) (s.drop (aa ys*AB.sz α))*R):=by
 intro a w O U M K Q Z;refine lN (hT:=hT) (hT2:=hT2) (hz:=hz) (hi:=hi) (h0:=h0) F C W G m hr N hb q a w O U M K Q λv S V J L=>?_;obtain⟨_,rfl,rfl⟩|⟨h,_⟩:=J
 ·exact Z _ _ V ⟨I,I⟩ L
 omega
end
section
variable{P:Program}{B:World}{n:Nat}{E:A8}{D:CW}{H:HP}{d:Option Tmp}{T T' ty:TypeId}{pos:String}{af:Array Edge}{g:Option (Nat×Bool)}{x y z u:Operand}
def Abx{k c sz l h m:Nat}{e:TypeId}{J o mk:IntKind}[hT:Aw P T (.slice e)][hz:CG P e sz](F:ev E x=some (.slice p k c))(G:ev E y=some (.int J l))(C:ev E z=some (.int o h))(q:ev E u=some (.int mk m))
  (W:l≤h∧h≤m∧m≤c):AY P B n ⟨d,.slice T x (some y) (some z) (some u),ty,pos,af,g⟩ E H (.slice (sp p m l sz) (h-l) (m-l)):=by
 intro a w N _;simp only[A9,BL,Dp,CT,DQ,EP,EX,Ej,B3,BX,true_and,and_true,and_self,IY W.1,IY W.2.1,IY W.2.2,execOp,N.ev F,i',N.ev G,N.ev C,N.ev q,Instr.sliceAt,Instr.slice,Instr.sliceBounds,bn,A6 hT.get,b0,bp,IQ W.1,IQ W.2.1,IQ W.2.2,hz.get,Option.isSome_some];rfl
def Yl{a:Array Value}{n sz}(h:a.size=sz):(Builtin.zeroCells a n).toList.length=n*sz:=by rw[←h];simp[Builtin.zeroCells]
def ix{a:Array Value}{n}(h:∀v∈a.toList,v.oneCell'=true):∀v∈(Builtin.zeroCells a n).toList,v.oneCell'=true:=by
 intro v S;simp only[Builtin.zeroCells,Ajs,Array.toList_range,g9,Ak3]at S;obtain⟨i,M,rfl⟩:=S;have C:0<a.size:=by
  obtain A|A:=Akv a.size
  ·rw[A]at M;simp at M
  exact A
 have W:i%a.size<a.size:=Alu _ C;rw[getElem!_pos a _ W];exact h _ (by rw[←Array.getElem_toList];exact rv _)
def Aa5{sT e o k c sz}{l:List Value}{R}{G:Value}[hT:Aw P sT (.slice e)][hz:CG P e sz][h0:Bh P e G](F:ev E x=some (.slice p k c))(C:Sl p b o k c)(J:k*sz≤aa l)(N:G.cells.size=sz)(h:∀v∈G.cells.toList,v.oneCell'=true):
  DT P B n ⟨none,.call ⟨.builtin .clear,#[x],#[sT]⟩,ty,pos,af,g⟩ E D (AA b o l*R) (λv S=>∃W,aa W=aa l∧W.drop (k*sz)=l.drop (k*sz)∧S=AA b o W*R):=by
 intro a w O _ M K Q Z;by_cases A:k=0
 ·subst A;have q:(execOp a.eval ⟨none,.call ⟨.builtin .clear,#[x],#[sT]⟩,ty,pos,af,g⟩).run P w=.ok (.value (.tuple #[])) w:=by
   cases p<;>simp[execOp,resolve,O.ev F,invoke,builtin,Builtin.clear_,A6 hT.get]
  refine Gg ?_ q (Z _ _ w ⟨l,I,I,I⟩ M);cases p<;>simp[execOp,resolve,O.ev F,invoke,builtin,Builtin.clear_,A6 hT.get]
 obtain rfl:=C.1.resolve_left (by have:=C.2;omega);have L:=Yl (n:=k) N;obtain⟨V,m,k2,k3⟩:=ME (P:=P) (Builtin.zeroCells G.cells k).toList o 0 l R w (by rw[L];exact J) (ix h) M;have q:(execOp a.eval ⟨none,.call ⟨.builtin .clear,#[x],#[sT]⟩,ty,pos,af,g⟩).run P w=.ok (.value (.tuple #[])) V:=by
  obtain⟨U,rfl⟩:∃U,k=U+1:=⟨k-1,by omega⟩
  simp[execOp,resolve,O.ev F,invoke,builtin,Builtin.clear_,A6 hT.get,h0.get,m]
 refine Gg ?_ q (Z _ _ V ⟨_,by rw[a5,di,L];omega,by rw[Akr L,L],I⟩ k2);obtain⟨U,rfl⟩:∃U,k=U+1:=⟨k-1,by omega⟩
 simp[execOp,resolve,O.ev F,invoke,builtin,Builtin.clear_,A6 hT.get,h0.get,m,k3]
end
end
section
def JR{α:Type}{a:α→HP→Prop}{v:α}{H}(k:a v H):∀L S,L=v∧S=H→a L S:=by rintro _ _ ⟨rfl,rfl⟩;exact k
section
variable{P:Program}{B:World}{n:Nat}{E:A8}{D:CW}{H:HP}{ops:Array Oper}{Q:Exit→Act→World→Prop}{l:List Oper}{c:Code}{e:Exit}{d:Option Tmp}{ty:TypeId}{pos:String}{af:Array Edge}{g:Option (Nat×Bool)}{v:Value}
def qC(h:WL P B ops Q l n E D H):WL P B ops Q l n E D H:=h
def Abh(h:WP P B c Q n E D H):WP P B c Q n E D H:=h
def w9(h:BZ B Q e n E D H):BZ B Q e n E D H:=h
def I? (h:WL P B ops Q (⟨d,.move x,ty,pos,af,g⟩::l) n E D H):WL P B ops Q (⟨d,.move x,ty,pos,af,g⟩::l) n E D H:=h
def mx(h:AY P B n ⟨d,.move x,ty,pos,af,g⟩ E H v):AY P B n ⟨d,.move x,ty,pos,af,g⟩ E H v:=h
def md(h:WL P B ops Q (⟨d,.assign x,ty,pos,af,g⟩::l) n E D H):WL P B ops Q (⟨d,.assign x,ty,pos,af,g⟩::l) n E D H:=h
def kAs(h:AY P B n ⟨d,.assign x,ty,pos,af,g⟩ E H v):AY P B n ⟨d,.assign x,ty,pos,af,g⟩ E H v:=h
def iFa{f}(h:WL P B ops Q (⟨d,.fieldAddr T x f,ty,pos,af,g⟩::l) n E D H):WL P B ops Q (⟨d,.fieldAddr T x f,ty,pos,af,g⟩::l) n E D H:=h
def jj{f}(h:AY P B n ⟨d,.fieldAddr T x f,ty,pos,af,g⟩ E H v):AY P B n ⟨d,.fieldAddr T x f,ty,pos,af,g⟩ E H v:=h
def C! (h:WL P B ops Q (⟨d,.load T x,ty,pos,af,g⟩::l) n E D H):WL P B ops Q (⟨d,.load T x,ty,pos,af,g⟩::l) n E D H:=h
def kLd(h:AY P B n ⟨d,.load T x,ty,pos,af,g⟩ E H v):AY P B n ⟨d,.load T x,ty,pos,af,g⟩ E H v:=h
def mo(h:WL P B ops Q (⟨d,.nilCheck x,ty,pos,af,g⟩::l) n E D H):WL P B ops Q (⟨d,.nilCheck x,ty,pos,af,g⟩::l) n E D H:=h
def au(h:AY P B n ⟨d,.nilCheck x,ty,pos,af,g⟩ E H v):AY P B n ⟨d,.nilCheck x,ty,pos,af,g⟩ E H v:=h
def iEx(h:WL P B ops Q (⟨d,.extract x i,ty,pos,af,g⟩::l) n E D H):WL P B ops Q (⟨d,.extract x i,ty,pos,af,g⟩::l) n E D H:=h
def kEx(h:AY P B n ⟨d,.extract x i,ty,pos,af,g⟩ E H v):AY P B n ⟨d,.extract x i,ty,pos,af,g⟩ E H v:=h
def qx{b xs ts}(h:WL P B ops Q (⟨d,.call ⟨.builtin b,xs,ts⟩,ty,pos,af,g⟩::l) n E D H):WL P B ops Q (⟨d,.call ⟨.builtin b,xs,ts⟩,ty,pos,af,g⟩::l) n E D H:=h
def rq{b xs ts}(h:AY P B n ⟨d,.call ⟨.builtin b,xs,ts⟩,ty,pos,af,g⟩ E H v):AY P B n ⟨d,.call ⟨.builtin b,xs,ts⟩,ty,pos,af,g⟩ E H v:=h
def qv(h:WL P B ops Q (⟨d,.binOp .lss T x y T1,ty,pos,af,g⟩::l) n E D H):WL P B ops Q (⟨d,.binOp .lss T x y T1,ty,pos,af,g⟩::l) n E D H:=h
def fi(h:AY P B n ⟨d,.binOp .lss T x y T1,ty,pos,af,g⟩ E H v):AY P B n ⟨d,.binOp .lss T x y T1,ty,pos,af,g⟩ E H v:=h
def iPk{z}(h:WL P B ops Q (⟨d,.pick x y z,ty,pos,af,g⟩::l) n E D H):WL P B ops Q (⟨d,.pick x y z,ty,pos,af,g⟩::l) n E D H:=h
def me{z}(h:AY P B n ⟨d,.pick x y z,ty,pos,af,g⟩ E H v):AY P B n ⟨d,.pick x y z,ty,pos,af,g⟩ E H v:=h
def iNt(h:WL P B ops Q (⟨d,.unOp .not T x,ty,pos,af,g⟩::l) n E D H):WL P B ops Q (⟨d,.unOp .not T x,ty,pos,af,g⟩::l) n E D H:=h
def tx(h:AY P B n ⟨d,.unOp .not T x,ty,pos,af,g⟩ E H v):AY P B n ⟨d,.unOp .not T x,ty,pos,af,g⟩ E H v:=h
def y'(h:WL P B ops Q (⟨d,.indexAddr T x y,ty,pos,af,g⟩::l) n E D H):WL P B ops Q (⟨d,.indexAddr T x y,ty,pos,af,g⟩::l) n E D H:=h
def wx(h:AY P B n ⟨d,.indexAddr T x y,ty,pos,af,g⟩ E H v):AY P B n ⟨d,.indexAddr T x y,ty,pos,af,g⟩ E H v:=h
def y7(h:WL P B ops Q (⟨d,.binOp .add T x y T1,ty,pos,af,g⟩::l) n E D H):WL P B ops Q (⟨d,.binOp .add T x y T1,ty,pos,af,g⟩::l) n E D H:=h
def du(h:AY P B n ⟨d,.binOp .add T x y T1,ty,pos,af,g⟩ E H v):AY P B n ⟨d,.binOp .add T x y T1,ty,pos,af,g⟩ E H v:=h
def oN(h:WL P B ops Q (⟨d,.store T x y,ty,pos,af,g⟩::l) n E D H):WL P B ops Q (⟨d,.store T x y,ty,pos,af,g⟩::l) n E D H:=h
def I! (h:WP P B (.region i ops false) Q n E D H):WP P B (.region i ops false) Q n E D H:=h
end
structure YH(p:Prop):Prop where
 get:p
def J1{a G:Prop}(k:a)(h:YH a→G:=by
 intro k
 (first
  |((with_reducible refine qC ?_);(first
   |(with_reducible refine Xv ?_)
   |((with_reducible refine I? ?_);refine D9 (NB I) I ?_)
   |((with_reducible refine iFa ?_);refine D9 (Xs I) I ?_)
   |((with_reducible refine C! ?_);(first|refine D9 (Hp I (by first|trivial|omega)) I ?_|refine D9 (Et I I) I ?_))
   |((with_reducible refine mo ?_);refine D9 (Uh I) I ?_)
   |((with_reducible refine md ?_);refine D9 (Fw I) I ?_)
   |((with_reducible refine iEx ?_);refine D9 (Sc I I) I ?_)
   |((with_reducible refine qx ?_);(first|refine D9 (UO I) I ?_|refine D9 (TA I) I ?_|refine D9 (cJ I) I ?_))
   |((with_reducible refine qv ?_);refine D9 (ID I I) I ?_)
   |((with_reducible refine iPk ?_);refine D9 (uV I I I) I ?_)
   |((with_reducible refine iNt ?_);refine D9 (Pd I) I ?_)
   |((with_reducible refine y' ?_);refine D9 (Uk I I (by omega)) I ?_)
   |((with_reducible refine y7 ?_);refine D9 (LT I I (by omega)) I ?_)
   |((with_reducible refine oN ?_);refine Bl (Eu I I I (by first|trivial|omega)) (JR ?_))))
  |((with_reducible refine Abh ?_);(first
   |(with_reducible refine W_ ?_)
   |((with_reducible refine I! ?_);refine NX I ?_)
   |(with_reducible refine Aao ?_)
   |(with_reducible refine ml ?_)
   |(with_reducible refine Aaf ?_)
   |(with_reducible refine vh ?_)))
  |((with_reducible refine w9 ?_);(first
   |(with_reducible refine oB ?_)
   |(with_reducible refine rR ?_)
   |(with_reducible refine iA ?_)
   |(with_reducible refine rN ?_)
   |(with_reducible refine dX ?_)
   |(with_reducible refine bN ?_)
   |(with_reducible refine cG ?_)
   |(with_reducible refine uU ?_)
   |refine Acl I ?_
   |refine oB ?_
   |refine rR ?_
   |refine iA ?_
   |refine rN ?_
   |refine dX ?_
   |refine bN ?_
   |refine cG ?_
   |refine uU ?_)))
 exact k.get):G:=h ⟨k⟩
section
variable{P:Program}{B:World}{n:Nat}{E:A8}{D:CW}{H R:HP}{ops:Array Oper}{Q:Exit→Act→World→Prop}{fuel last:Nat}{ls:Array Bool}{op:Op}{ty:TypeId}{pos:String}{af:Array Edge}{rest:List Oper}
def JT(i)(hi:ops[i]?=some ⟨some t,op,ty,pos,af,none⟩)(S:AY P B n ⟨some t,op,ty,pos,af,none⟩ E R v)(next:WA P B ops Q R last fuel (ls.setIfInBounds i true) n ((t,v)::E) D H)[N:PQ Q][hE:CM B H R](Z:B1 ops ls last i=true:=by kernel_rfl)(ht:Nat.blt t n=true:=by rfl):
  WA P B ops Q R last (fuel+1) ls n E D H:=Ll i hi Z ht S next
def Jm(i)(next:WA P B ops Q R last fuel (ls.setIfInBounds i true) n ((t,v)::E) D H)[N:PQ Q][hE:CM B H R](hi:ops[i]?=some ⟨some t,.move x,ty,pos,af,none⟩:=by rfl)(F:ev E x=some v:=by rfl)(Z:B1 ops ls last i=true:=by kernel_rfl)(ht:Nat.blt t n=true:=by rfl):
  WA P B ops Q R last (fuel+1) ls n E D H:=Ll i hi Z ht (NB F) next
def Ja(i)(next:WA P B ops Q R last fuel (ls.setIfInBounds i true) n ((t,v)::E) D H)[N:PQ Q][hE:CM B H R](hi:ops[i]?=some ⟨some t,.assign x,ty,pos,af,none⟩:=by rfl)(F:ev E x=some v:=by rfl)(Z:B1 ops ls last i=true:=by kernel_rfl)(ht:Nat.blt t n=true:=by rfl):
  WA P B ops Q R last (fuel+1) ls n E D H:=Ll i hi Z ht (Fw F) next
def Jf(i){f k o}(next:WA P B ops Q R last fuel (ls.setIfInBounds i true) n ((t,.pointer (some ⟨b,o+k,none⟩))::E) D H)[N:PQ Q][hE:CM B H R](hi:ops[i]?=some ⟨some t,.fieldAddr T x f,ty,pos,af,none⟩:=by rfl)(F:ev E x=some (.pointer (some ⟨b,o,none⟩)):=by rfl)[hf:Ay P T f k](Z:B1 ops ls last i=true:=by kernel_rfl)(ht:Nat.blt t n=true:=by rfl):
  WA P B ops Q R last (fuel+1) ls n E D H:=Ll i hi Z ht (Xs F) next
def Jn(i){p}(next:WA P B ops Q R last fuel (ls.setIfInBounds i true) n ((t,.pointer (some p))::E) D H)[N:PQ Q][hE:CM B H R](hi:ops[i]?=some ⟨some t,.nilCheck x,ty,pos,af,none⟩:=by rfl)(F:ev E x=some (.pointer (some p)):=by rfl)(Z:B1 ops ls last i=true:=by kernel_rfl)(ht:Nat.blt t n=true:=by rfl):
  WA P B ops Q R last (fuel+1) ls n E D H:=Ll i hi Z ht (Uh F) next
def Jd(i){o}(next:WA P B ops Q R last fuel (ls.setIfInBounds i true) n ((t,v)::E) D H)[N:PQ Q][hE:CM B H R](hi:ops[i]?=some ⟨some t,.load T x,ty,pos,af,none⟩:=by rfl)(F:ev E x=some (.pointer (some ⟨b,o,none⟩)):=by rfl)[hT:DC P T][hr:Rd B R b o v True](Z:B1 ops ls last i=true:=by kernel_rfl)(ht:Nat.blt t n=true:=by rfl):
  WA P B ops Q R last (fuel+1) ls n E D H:=Ll i hi Z ht (Hp F trivial) next
def JN(i){b}(hi:ops[i]?=some ⟨some t,op,ty,pos,af,some (j,want)⟩)(hw:b= !want)(next:WA P B ops Q R last fuel (ls.setIfInBounds i true) n ((t,undef)::E) D H)[N:PQ Q][hE:CM B H R](W:(ops[j]?).bind (·.dst)=some tj:=by rfl)(hb:lk E tj=some (.bool b):=by rfl)(Z:B1 ops ls last i=true:=by kernel_rfl)(ht:Nat.blt t n=true:=by rfl):
  WA P B ops Q R last (fuel+1) ls n E D H:=kT i hi Z ht W hb hw next
def JU(i)(next:WA P B ops Q R last fuel (ls.setIfInBounds i true) n ((t,undef)::E) D H)[N:PQ Q][hE:CM B H R](hi:ops[i]?=some ⟨some t,op,ty,pos,af,some (j,want)⟩:=by rfl)(W:(ops[j]?).bind (·.dst)=some tj:=by rfl)(hb:lk E tj=some undef:=by rfl)(Z:B1 ops ls last i=true:=by kernel_rfl)(ht:Nat.blt t n=true:=by rfl):
  WA P B ops Q R last (fuel+1) ls n E D H:=kY i hi Z ht W hb next
def JY(i){b}(hi:ops[i]?=some ⟨some t,op,ty,pos,af,some (j,want)⟩)(hw:b=want)(S:AY P B n ⟨some t,op,ty,pos,af,none⟩ E R v)(next:WA P B ops Q R last fuel (ls.setIfInBounds i true) n ((t,v)::E) D H)[N:PQ Q][hE:CM B H R](W:(ops[j]?).bind (·.dst)=some tj:=by rfl)(hb:lk E tj=some (.bool b):=by rfl)(Z:B1 ops ls last i=true:=by kernel_rfl)(ht:Nat.blt t n=true:=by rfl):
  WA P B ops Q R last (fuel+1) ls n E D H:=WI i hi Z ht W hb hw S next
def JL(S:AY P B n ⟨some t,op,ty,pos,af,none⟩ E H v)(next:WL P B ops Q rest n ((t,v)::E) D H)(ht:Nat.blt t n=true:=by rfl):
  WL P B ops Q (⟨some t,op,ty,pos,af,none⟩::rest) n E D H:=D9 S ht next
def JG{b}(hw:b=want)(q:WL P B ops Q (⟨some t,op,ty,pos,af,none⟩::rest) n E D H)(W:(ops[j]?).bind (·.dst)=some tj:=by rfl)(hb:lk E tj=some (.bool b):=by rfl)(ht:Nat.blt t n=true:=by rfl):
  WL P B ops Q (⟨some t,op,ty,pos,af,some (j,want)⟩::rest) n E D H:=OC W hb ht hw q
def JH{b}(hw:b= !want)(no:WL P B ops Q rest n ((t,undef)::E) D H)(W:(ops[j]?).bind (·.dst)=some tj:=by rfl)(hb:lk E tj=some (.bool b):=by rfl)(ht:Nat.blt t n=true:=by rfl):
  WL P B ops Q (⟨some t,op,ty,pos,af,some (j,want)⟩::rest) n E D H:=vN W hb ht hw no
def JD(h:BZ B Q .normal n E D H)(hr:Region.ready .any ops ls=[]:=by kernel_rfl):WA P B ops Q R last fuel ls n E D H:=qD hr h
end
section
variable{P:Program}{B:World}{n:Nat}{E:A8}{D:CW}{H:HP}{ops:Array Oper}{Q:Exit→Act→World→Prop}{rest:List Oper}{op:Op}{ty:TypeId}{pos:String}{af:Array Edge}{t:Nat}{Post:Value→HP→Prop}{x y:Code}{u:Operand}{r:Option Nat}{fn:Func}{ts:List Nat}{vs:List Value}
def mI{c}(h1:P.funcs[f]?=some fn)(h:WP P B c (Ju P B fn Post) n (IL 0 args) {ds:=[]} H)(h2:fn.body=some c:=by rfl)(M:fn.ntmps=n:=by rfl)(Z:args.length.ble n=true:=by rfl):Fn P B f args H Post:=u5 h1 h2 M Z h
def mE[hf:Aa P f](F:Dw E xs=some vs)(W:Fn P B f vs H Post)(k:∀(v:Value) (H':HP),Post v H'→WL P B ops Q rest n ((t,v)::E) D H')(ht:t.blt n=true:=by rfl):
  WL P B ops Q ({dst:=some t,op:=Op.call {callee:=Callee.value (Operand.func f),args:=xs.toArray,argTypes:=ats},type:=ty,pos:=pos,after:=af,guard:=none}::rest) n E D H:=Ae (Bd F W) ht k
def mC{p:Prop}[a:Decidable p](h1:p→WP P B x Q n E D H)(h2:¬p→WP P B y Q n E D H)(h:ev E u=some (Value.bool (decide p)):=by rfl):WP P B (Code.cond u x y) Q n E D H:=Afw h h1 h2
def mc{b}(h1:b=true→WP P B x Q n E D H)(h2:b=false→WP P B y Q n E D H)(h:ev E u=some (Value.bool b):=by rfl):WP P B (Code.cond u x y) Q n E D H:=Se h h1 h2
def mR(ts H')(hr:fn.results=(List.map ResultVar.tmp ts).toArray)(S:Dw E (List.map Operand.tmp ts)=some vs)[hE:CM B H H'](h:Post (FH vs) H'):BZ B (Ju P B fn Post) Exit.ret n E {ds:=[],r:=r} H:=q_ H' hr S h
def mr(ts)(hr:fn.results=(List.map ResultVar.tmp ts).toArray)(S:Dw E (List.map Operand.tmp ts)=some vs)(h:Post (FH vs) H):BZ B (Ju P B fn Post) Exit.ret n E {ds:=[],r:=r} H:=rV hr S h
def mA{id}(last k)[N:PQ Q](h:WA P B ops Q H last k (Array.replicate k false) n E D H)(h1:P.follows Departure.mixedOrders=true:=by exact EO)(h2:ops.size=k:=by rfl)(M:Il ops=true:=by kernel_rfl):WP P B (Code.region id ops true) Q n E D H:=Ace last k h1 h2 M h
end
end
section
section
variable{P:Program}{B:World}{n:Nat}{E:A8}{D:CW}{H R:HP}{ops:Array Oper}{Q:Exit→Act→World→Prop}{fuel last:Nat}{ls:Array Bool}{op:Op}{ty:TypeId}{pos:String}{af:Array Edge}{rest:List Oper}
def fp{k}(h:WA P B ops Q R last fuel (Array.replicate k false) n E D H):WA P B ops Q R last fuel (Array.replicate k false) n E D H:=h
def kR(h:WA P B ops Q R last fuel (ls.setIfInBounds i true) n E D H):WA P B ops Q R last fuel (ls.setIfInBounds i true) n E D H:=h
def WO(P:Program)(B:World)(ops:Array Oper)(Q:Exit→Act→World→Prop)(R:HP)(last fuel:Nat)(ls:Array Bool)(i:Nat)(o:Oper)(n:Nat)(E:A8)(D:CW)(H:HP):Prop:=
 ops[i]?=some o→WA P B ops Q R last (fuel+1) ls n E D H
def yO(hi:ops[i+1]?=some ⟨d,op,ty,pos,af,g⟩)(k:WO P B ops Q R last fuel (ls.setIfInBounds i true) (i+1) ⟨d,op,ty,pos,af,g⟩ n E D H):WA P B ops Q R last (fuel+1) (ls.setIfInBounds i true) n E D H:=k hi
def d_{k}(hi:ops[0]?=some ⟨d,op,ty,pos,af,g⟩)(h:WO P B ops Q R last fuel (Array.replicate k false) 0 ⟨d,op,ty,pos,af,g⟩ n E D H):WA P B ops Q R last (fuel+1) (Array.replicate k false) n E D H:=h hi
def yD(C:ops.size=i+1)(h:BZ B Q .normal n E D H)(hr:Region.ready .any ops (ls.setIfInBounds i true)=[]:=by kernel_rfl):WA P B ops Q R last fuel (ls.setIfInBounds i true) n E D H:=qD hr h
variable{i t j tj:Nat}{v:Value}{b want:Bool}
def te{u c}(h:WP P B (.cond x u c) Q n E D H):WP P B (.cond x u c) Q n E D H:=h
def J? {l}(h:WL P B ops Q (⟨some t,op,ty,pos,af,none⟩::l) n E D H):WL P B ops Q (⟨some t,op,ty,pos,af,none⟩::l) n E D H:=h
def u0(h:WO P B ops Q R last fuel ls i ⟨some t,op,ty,pos,af,none⟩ n E D H):WO P B ops Q R last fuel ls i ⟨some t,op,ty,pos,af,none⟩ n E D H:=h
def zV(S:AY P B n ⟨some t,op,ty,pos,af,none⟩ E R v)(next:WA P B ops Q R last fuel (ls.setIfInBounds i true) n ((t,v)::E) D H)[N:PQ Q][hE:CM B H R](Z:B1 ops ls last i=true:=by kernel_rfl)(ht:Nat.blt t n=true:=by rfl):
  WO P B ops Q R last fuel ls i ⟨some t,op,ty,pos,af,none⟩ n E D H:=λM=>Ll i M Z ht S next
def idE(h:WO P B ops Q R last fuel ls i ⟨none,.store T x y,ty,pos,af,none⟩ n E D H):WO P B ops Q R last fuel ls i ⟨none,.store T x y,ty,pos,af,none⟩ n E D H:=h
def zE{H'}(N:DT P B n ⟨none,op,ty,pos,af,none⟩ E D H (λL a=>L=v∧a=H'))(next:WA P B ops Q R last fuel (ls.setIfInBounds i true) n E D H')(hr:Region.ready .any ops ls=[i]:=by kernel_rfl)(J:last≤i:=by decide):WO P B ops Q R last fuel ls i ⟨none,op,ty,pos,af,none⟩ n E D H:=λM=>GO i hr M N (JR ⟨.inl J,next⟩)
def zN(W:(ops[j]?).bind (·.dst)=some tj)(hb:lk E tj=some (.bool b))(hw:b= !want)(next:WA P B ops Q R last fuel (ls.setIfInBounds i true) n ((t,undef)::E) D H)[N:PQ Q][hE:CM B H R](Z:B1 ops ls last i=true:=by kernel_rfl)(ht:Nat.blt t n=true:=by rfl):
  WO P B ops Q R last fuel ls i ⟨some t,op,ty,pos,af,some (j,want)⟩ n E D H:=λM=>kT i M Z ht W hb hw next
def zU(W:(ops[j]?).bind (·.dst)=some tj)(hb:lk E tj=some undef)(next:WA P B ops Q R last fuel (ls.setIfInBounds i true) n ((t,undef)::E) D H)[N:PQ Q][hE:CM B H R](Z:B1 ops ls last i=true:=by kernel_rfl)(ht:Nat.blt t n=true:=by rfl):
  WO P B ops Q R last fuel ls i ⟨some t,op,ty,pos,af,some (j,want)⟩ n E D H:=λM=>kY i M Z ht W hb next
def zY(W:(ops[j]?).bind (·.dst)=some tj)(hb:lk E tj=some (.bool b))(hw:b=want)(S:AY P B n ⟨some t,op,ty,pos,af,none⟩ E R v)(next:WA P B ops Q R last fuel (ls.setIfInBounds i true) n ((t,v)::E) D H)[N:PQ Q][hE:CM B H R](Z:B1 ops ls last i=true:=by kernel_rfl)(ht:Nat.blt t n=true:=by rfl):
  WO P B ops Q R last fuel ls i ⟨some t,op,ty,pos,af,some (j,want)⟩ n E D H:=λM=>WI i M Z ht W hb hw S next
end
def yH{p:Prop}(h:p:=by first|assumption|exact decide_eq_true (by assumption)|exact decide_eq_false (by assumption)|rfl):p:=h
section
variable{P:Program}{B:World}{n:Nat}{E:A8}{H:HP}{d:Option Tmp}{ty:TypeId}{pos:String}{af:Array Edge}{g:Option (Nat×Bool)}{v:Value}
def qh(h:AY P B n ⟨d,.binOp .sub T x y T1,ty,pos,af,g⟩ E H v):AY P B n ⟨d,.binOp .sub T x y T1,ty,pos,af,g⟩ E H v:=h
def kGt(h:AY P B n ⟨d,.binOp .gtr T x y T1,ty,pos,af,g⟩ E H v):AY P B n ⟨d,.binOp .gtr T x y T1,ty,pos,af,g⟩ E H v:=h
def kLq(h:AY P B n ⟨d,.binOp .leq T x y T1,ty,pos,af,g⟩ E H v):AY P B n ⟨d,.binOp .leq T x y T1,ty,pos,af,g⟩ E H v:=h
def vf(h:AY P B n ⟨d,.binOp .geq T x y T1,ty,pos,af,g⟩ E H v):AY P B n ⟨d,.binOp .geq T x y T1,ty,pos,af,g⟩ E H v:=h
def kEq(h:AY P B n ⟨d,.binOp .eql T x y T1,ty,pos,af,g⟩ E H v):AY P B n ⟨d,.binOp .eql T x y T1,ty,pos,af,g⟩ E H v:=h
def P! (h:AY P B n ⟨d,.binOp .neq T x y T1,ty,pos,af,g⟩ E H v):AY P B n ⟨d,.binOp .neq T x y T1,ty,pos,af,g⟩ E H v:=h
def kSr(h:AY P B n ⟨d,.binOp .shr T x y T1,ty,pos,af,g⟩ E H v):AY P B n ⟨d,.binOp .shr T x y T1,ty,pos,af,g⟩ E H v:=h
def x5(h:AY P B n ⟨d,.binOp .xor T x y T1,ty,pos,af,g⟩ E H v):AY P B n ⟨d,.binOp .xor T x y T1,ty,pos,af,g⟩ E H v:=h
def U! (h:AY P B n ⟨d,.convert T T1 x,ty,pos,af,g⟩ E H v):AY P B n ⟨d,.convert T T1 x,ty,pos,af,g⟩ E H v:=h
def j_{f:Go.Fn}{x y}(h:AY P B n ⟨d,.makeFunc f x y,ty,pos,af,g⟩ E H v):AY P B n ⟨d,.makeFunc f x y,ty,pos,af,g⟩ E H v:=h
def w_(h:AY P B n ⟨d,.makeInterface T x,ty,pos,af,g⟩ E H v):AY P B n ⟨d,.makeInterface T x,ty,pos,af,g⟩ E H v:=h
end
def yV{p:Prop}(h:p:=by
 first
 |((with_reducible apply mx);(first|exact NB (v:=.int .i64 (0:Nat)) rfl|exact NB I))
 |((with_reducible apply jj);exact Xs I)
 |((with_reducible apply kLd);(first|exact Hp I (by first|trivial|omega)|exact Et I rfl|exact Hp I trivial))
 |((with_reducible apply au);exact Uh I)
 |((with_reducible apply kAs);(first|exact Fw (v:=.int .i64 (0:Nat)) rfl|exact Fw (v:=.int .u64 (0:Nat)) rfl|exact Fw (v:=.int .i64 (1:Nat)) rfl|exact Fw (v:=.int .i64 (2:Nat)) rfl|exact Fw (v:=.int .i64 (3:Nat)) rfl|exact Fw (v:=.int .i64 (4:Nat)) rfl|exact Fw (v:=.int .i64 (5:Nat)) rfl|exact Fw (v:=.int .i64 (6:Nat)) rfl|exact Fw (v:=.int .i64 (7:Nat)) rfl|exact Fw (v:=.int .i64 (8:Nat)) rfl|exact Fw (v:=.int .i64 (9:Nat)) rfl|exact Fw (v:=.int .i64 (10:Nat)) rfl|exact Fw I))
 |((with_reducible apply kEx);exact Sc I I)
 |((with_reducible apply me);(first|exact Om yH I rfl|exact N5 yH I rfl|exact uV I I I))
 |((with_reducible apply rq);(first|exact UO rfl|exact TA rfl|exact cJ I))
 |((with_reducible apply du);(first|exact LT (j:=1) I I (by omega)|exact LT I I (by omega)|exact LF I I (by omega)|exact qp I I))
 |((with_reducible apply qh);(first|exact Ji (j:=1) I I (by omega)|exact Ji I I (by omega)|exact MR (j:=2) I I (by omega)|exact MR (j:=1) I I (by omega)|exact MR I I (by omega)))
 |((with_reducible apply fi);exact ID I I)
 |((with_reducible apply kGt);(first|exact Ih (j:=0) I rfl|exact Ih I I))
 |((with_reducible apply kLq);exact uO I I)
 |((with_reducible apply vf);exact M0 I I)
 |((with_reducible apply kEq);(first|exact Dy (j:=0) I rfl|exact Dy I I))
 |((with_reducible apply P!);(first|exact H4 (j:=0) I rfl|exact H4 I I))
 |((with_reducible apply tx);(first|exact Pd rfl|exact Tn I))
 |((with_reducible apply wx);(first|exact Uk I I (by omega)|exact Ms (i:=0) (q:=0) I I (by omega) rfl|exact Ms (i:=1) (q:=1) I I (by omega) rfl|exact Ms (i:=2) (q:=2) I I (by omega) rfl|exact Ms (i:=3) (q:=3) I I (by omega) I))
 |((with_reducible apply U!);(first|exact IF I (Ia (by omega))|exact IF I (R4 (by omega))|exact Tw rfl|exact u1 I))
 |((with_reducible apply j_);exact yL I I)
 |((with_reducible apply kSr);(first|exact L7 (j:=8) I I (by omega)|exact L7 (j:=16) I I (by omega)|exact L7 (j:=24) I I (by omega)|exact L7 (j:=32) I I (by omega)|exact L7 (j:=40) I I (by omega)|exact L7 (j:=48) I I (by omega)|exact L7 (j:=56) I I (by omega)))
 |((with_reducible apply x5);exact Mv I I)
 |((with_reducible apply w_);(first|exact Nx (v:=.int .i64 (1:Nat)) (by kernel_rfl) rfl|exact Nx (v:=.int .i64 (2:Nat)) (by kernel_rfl) rfl|exact Nx (v:=.int .i64 (3:Nat)) (by kernel_rfl) rfl|exact Nx (v:=.int .i64 (4:Nat)) (by kernel_rfl) rfl|exact Nx (v:=.int .i64 (6:Nat)) (by kernel_rfl) rfl|exact Nx (v:=.int .i64 (9:Nat)) (by kernel_rfl) rfl|exact Nx (by kernel_rfl) I))):p:=h
def FJ{a G:Prop}(k:a)(h:YH a→G:=by
 intro k
 (first
  |((with_reducible refine qC ?_);(first
   |(with_reducible refine Xv ?_)
   |((with_reducible refine oN ?_);(first|refine Bl (Eu I I I (by first|trivial|omega)) (JR ?_)|refine Bl (Ek I I (by constructor<;>rfl) (by simp[Value.oneCell'])) (JR ?_)))
   |((with_reducible refine J? ?_);refine D9 yV I ?_)
   |refine Aax I I I ?_
   |refine OC I I I yH ?_
   |refine vN I I I yH ?_))
  |((first
   |((with_reducible refine fp ?_);refine d_ I ?_)
   |((with_reducible refine kR ?_);refine yO I ?_));(first
   |((with_reducible refine u0 ?_);refine zV yV ?_)
   |((with_reducible refine idE ?_);refine zE (Eu I I I (by first|trivial|omega)) ?_)
   |refine zU I I ?_
   |refine zY I I yH yV ?_
   |refine zN I I yH ?_))
  |((with_reducible refine kR ?_);refine yD I ?_)
  |((with_reducible refine te ?_);(first|refine pz I yH ?_|refine PM I yH ?_))
  |refine J1 ?_)
 exact k.get):G:=h ⟨k⟩
abbrev AX(Y X:Prop):Prop:=YH Y→X
section
variable{X Y:Prop}(k:Y)
def J2(h:AX Y X:=by intro k;(iterate 2 refine J1 ?_);exact k.1):=h ⟨k⟩
def J3(h:AX Y X:=by intro k;(iterate 3 refine J1 ?_);exact k.1):=h ⟨k⟩
def J4(h:AX Y X:=by intro k;(iterate 4 refine J1 ?_);exact k.1):=h ⟨k⟩
def J5(h:AX Y X:=by intro k;(iterate 5 refine J1 ?_);exact k.1):=h ⟨k⟩
def J6(h:AX Y X:=by intro k;(iterate 6 refine J1 ?_);exact k.1):=h ⟨k⟩
def J7(h:AX Y X:=by intro k;(iterate 7 refine J1 ?_);exact k.1):=h ⟨k⟩
def J8(h:AX Y X:=by intro k;(iterate 8 refine J1 ?_);exact k.1):=h ⟨k⟩
def J9(h:AX Y X:=by intro k;(iterate 9 refine J1 ?_);exact k.1):=h ⟨k⟩
def Ei(h:AX Y X:=by intro k;(iterate 10 refine J1 ?_);exact k.1):=h ⟨k⟩
def DL(h:AX Y X:=by intro k;(iterate 11 refine J1 ?_);exact k.1):=h ⟨k⟩
def Fi(h:AX Y X:=by intro k;(iterate 12 refine J1 ?_);exact k.1):=h ⟨k⟩
def Ki(h:AX Y X:=by intro k;(iterate 13 refine J1 ?_);exact k.1):=h ⟨k⟩
def Kb(h:AX Y X:=by intro k;(iterate 14 refine J1 ?_);exact k.1):=h ⟨k⟩
def Gu(h:AX Y X:=by intro k;(iterate 15 refine J1 ?_);exact k.1):=h ⟨k⟩
def M'(h:AX Y X:=by intro k;(iterate 2 refine FJ ?_);exact k.1):X:=h ⟨k⟩
def QS(h:AX Y X:=by intro k;(iterate 3 refine FJ ?_);exact k.1):X:=h ⟨k⟩
def P9(h:AX Y X:=by intro k;(iterate 4 refine FJ ?_);exact k.1):X:=h ⟨k⟩
def WB(h:AX Y X:=by intro k;(iterate 5 refine FJ ?_);exact k.1):X:=h ⟨k⟩
def DE(h:AX Y X:=by intro k;(iterate 6 refine FJ ?_);exact k.1):X:=h ⟨k⟩
def Vb(h:AX Y X:=by intro k;(iterate 7 refine FJ ?_);exact k.1):X:=h ⟨k⟩
def gL(h:AX Y X:=by intro k;(iterate 8 refine FJ ?_);exact k.1):X:=h ⟨k⟩
def YS9(h:AX Y X:=by intro k;(iterate 9 refine FJ ?_);exact k.1):X:=h ⟨k⟩
def fC(h:AX Y X:=by intro k;(iterate 10 refine FJ ?_);exact k.1):X:=h ⟨k⟩
def O6(h:AX Y X:=by intro k;(iterate 11 refine FJ ?_);exact k.1):X:=h ⟨k⟩
def UL(h:AX Y X:=by intro k;(iterate 12 refine FJ ?_);exact k.1):X:=h ⟨k⟩
def FC(h:AX Y X:=by intro k;(iterate 13 refine FJ ?_);exact k.1):X:=h ⟨k⟩
def FM(h:AX Y X:=by intro k;(iterate 14 refine FJ ?_);exact k.1):X:=h ⟨k⟩
def Eh(h:AX Y X:=by intro k;(iterate 15 refine FJ ?_);exact k.1):X:=h ⟨k⟩
def E6(h:AX Y X:=by intro k;(iterate 16 refine FJ ?_);exact k.1):X:=h ⟨k⟩
def Fj(h:AX Y X:=by intro k;(iterate 17 refine FJ ?_);exact k.1):X:=h ⟨k⟩
def HE(h:AX Y X:=by intro k;(iterate 18 refine FJ ?_);exact k.1):X:=h ⟨k⟩
def IU(h:AX Y X:=by intro k;(iterate 19 refine FJ ?_);exact k.1):X:=h ⟨k⟩
def KC(h:AX Y X:=by intro k;(iterate 21 refine FJ ?_);exact k.1):X:=h ⟨k⟩
def Ff(h:AX Y X:=by intro k;(iterate 22 refine FJ ?_);exact k.1):X:=h ⟨k⟩
def HL(h:AX Y X:=by intro k;(iterate 30 refine FJ ?_);exact k.1):X:=h ⟨k⟩
end
end
end Go.Proofs.YtgfdlpcdjklcoaaGreatDoor
